/- The plain law of layer 3's reading: the frame that bytes begin with, and the frames that they begin with; no program in sight. -/
import Derived.Test.YtjebpaahpehfnaaQV03
namespace Go.Proofs.Ytjebpaahpehfnaa.U
open Go.RowKit Go.Proofs.YtjebpaahpehfnaaW.PrintWords Go.Proofs.YtjebpaahpehfnaaW.PrintMore
def highs (b : List Int) : Bool := decide (b.length < 3) && b.all fun c => decide (128 ≤ c)
def firstR (b : List Int) : Int × List Int × Int × Int :=
  if highs b = true then (0, [], 0, 5) else
  match dec 0 b with
  | none => (0, [], 0, 2)
  | some (u, n) =>
    if 1048576 < u then (0, [], 0, 2)
    else if b.length = n then (0, [], 0, 5)
    else if rd b (n : Int) < 1 ∨ 250 < rd b (n : Int) then (0, [], 0, 2)
    else if b.length < n + 1 + u + 4 then (0, [], 0, 5)
    else if sumAt b (n + 1 + u) = (sumF (rd b (n : Int)) ((b.drop (n + 1)).take u) : Int) then (rd b (n : Int), (b.drop (n + 1)).take u, ((n + 1 + u + 4 : Nat) : Int), 0)
    else (0, [], 0, 2)
theorem sumF_lt (k : Int) (b : List Int) : sumF k b < 4294967296 := crcOf_lt _
theorem putF_eq (k : Int) (body m : List Int) : putF k body ++ m = one body.length ++ (k :: (body ++ (sum4 (sumF k body) ++ m))) := by
  unfold putF
  simp
theorem highs_one (u : Nat) (m : List Int) : highs (one u ++ m) = false := by
  obtain ⟨a, c, e, hc, _⟩ := one_last u
  unfold highs
  have h : ((one u ++ m).all fun c => decide (128 ≤ c)) = false := by
    rw [List.all_eq_false]
    exact ⟨c, by rw [e]; simp, by simpa using hc⟩
  rw [h, Bool.and_false]
theorem firstR_put {k : Int} {body : List Int} (h : mayF k body = true) (m : List Int) : firstR (putF k body ++ m) = (k, body, ((putF k body).length : Int), 0) := by
  have hm := mayF_iff.1 h
  have hd := dec_one body.length 0 (k :: (body ++ (sum4 (sumF k body) ++ m))) (by omega) (by rw [cap_zero]; omega) (by omega)
  have hl := putF_len k body
  have h4 := sumAt_sum4 (one body.length ++ (k :: body)) m (sumF k body : Int) (by omega) (by have := sumF_lt k body; omega)
  have el : (one body.length ++ (k :: body)).length = (one body.length).length + 1 + body.length := by
    rw [List.length_append, List.length_cons]
    omega
  have eb : one body.length ++ (k :: body) ++ (sum4 (sumF k body : Int) ++ m) = one body.length ++ (k :: (body ++ (sum4 (sumF k body) ++ m))) := by simp
  have er : rd (one body.length ++ (k :: (body ++ (sum4 (sumF k body) ++ m)))) ((one body.length).length : Int) = k := by
    rw [rd_at _ _ _ 0 (by omega)]
    rfl
  have et : ((one body.length ++ (k :: (body ++ (sum4 (sumF k body) ++ m)))).drop ((one body.length).length + 1)).take body.length = body := by
    rw [← List.drop_drop, List.drop_left]
    simp
  have ell : (one body.length ++ (k :: (body ++ (sum4 (sumF k body) ++ m)))).length = (one body.length).length + 1 + body.length + 4 + m.length := by
    rw [← putF_eq, List.length_append, hl]
  rw [el, eb] at h4
  rw [putF_eq]
  unfold firstR
  rw [highs_one, if_neg (by simp), hd]
  simp only
  rw [er, et, h4, if_neg (by omega), if_neg (by omega), if_neg (by omega), if_neg (by omega), if_pos rfl, hl]
theorem sum4_of {b : List Int} (hb : Bytes b) {i : Nat} (h : i + 4 ≤ b.length) {s : Int} (e : sumAt b i = s) : (b.drop i).take 4 = sum4 s := by
  have h0 := hb.rd (i := (i : Int)) (by omega) (by omega)
  have h1 := hb.rd (i := (i : Int) + 1) (by omega) (by omega)
  have h2 := hb.rd (i := (i : Int) + 2) (by omega) (by omega)
  have h3 := hb.rd (i := (i : Int) + 3) (by omega) (by omega)
  have e0 := drop_eq (xs := b) (i := i) (by omega)
  have e1 := drop_eq (xs := b) (i := i + 1) (by omega)
  have e2 := drop_eq (xs := b) (i := i + 2) (by omega)
  have e3 := drop_eq (xs := b) (i := i + 3) (by omega)
  rw [e0, e1, e2, e3]
  simp only [List.take_succ_cons, List.take_zero, Int.natCast_add, Int.cast_ofNat_Int]
  unfold sumAt at e
  unfold sum4
  generalize rd b (i : Int) = a at *
  generalize rd b ((i : Int) + 1) = c at *
  generalize rd b ((i : Int) + 2) = d at *
  generalize rd b ((i : Int) + 3) = f at *
  congr 1
  · omega
  congr 1
  · omega
  congr 1
  · omega
  congr 1
  omega
theorem firstR_cases {b : List Int} (hb : Bytes b) : (∃ k body m, b = putF k body ++ m ∧ mayF k body = true ∧ firstR b = (k, body, ((putF k body).length : Int), 0)) ∨ firstR b = (0, [], 0, 2) ∨ firstR b = (0, [], 0, 5) := by
  rcases dec_cases b with hd | ⟨u, n, hd⟩
  · unfold firstR
    rw [hd]
    split
    · exact .inr (.inr rfl)
    · exact .inr (.inl rfl)
  · unfold firstR
    rw [hd]
    simp only
    by_cases hh : highs b = true
    · rw [if_pos hh]; exact .inr (.inr rfl)
    rw [if_neg hh]
    by_cases c1 : 1048576 < u
    · rw [if_pos c1]; exact .inr (.inl rfl)
    rw [if_neg c1]
    by_cases c2 : b.length = n
    · rw [if_pos c2]; exact .inr (.inr rfl)
    rw [if_neg c2]
    by_cases c3 : rd b (n : Int) < 1 ∨ 250 < rd b (n : Int)
    · rw [if_pos c3]; exact .inr (.inl rfl)
    rw [if_neg c3]
    by_cases c4 : b.length < n + 1 + u + 4
    · rw [if_pos c4]; exact .inr (.inr rfl)
    rw [if_neg c4]
    by_cases c5 : sumAt b (n + 1 + u) = (sumF (rd b (n : Int)) ((b.drop (n + 1)).take u) : Int)
    · rw [if_pos c5]
      left
      obtain ⟨h1, ⟨m, h2⟩, h3⟩ := (dec_iff hb).1 hd
      have hl : ((b.drop (n + 1)).take u).length = u := by rw [List.length_take, List.length_drop]; omega
      have h4 := sum4_of hb (by omega) c5
      refine ⟨rd b (n : Int), (b.drop (n + 1)).take u, (b.drop (n + 1 + u)).drop 4, ?_, mayF_iff.2 (by omega), ?_⟩
      · rw [putF_eq, hl, ← h4, List.take_append_drop]
        have e2 : b.drop (n + 1 + u) = (b.drop (n + 1)).drop u := by rw [List.drop_drop]
        rw [e2, List.take_append_drop, ← drop_eq (by omega), h3]
        conv => lhs; rw [h2]
        congr 1
        rw [h2, List.drop_left]
      · rw [putF_len, hl, ← h3]
    · rw [if_neg c5]; exact .inr (.inl rfl)
end Go.Proofs.Ytjebpaahpehfnaa.U
