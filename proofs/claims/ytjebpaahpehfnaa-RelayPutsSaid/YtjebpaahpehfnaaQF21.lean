/- The plain law of layer 21: a move's hops, its bytes, and the move whose bytes they are; no program in sight. -/
import Derived.Test.YtjebpaahpehfnaaQF03
import Derived.Test.YtjebpaahpehfnaaQV04
namespace Go.Proofs.Ytjebpaahpehfnaa.U
open Go.RowKit Go.Proofs.YtjebpaahpehfnaaW.PrintWords Go.Proofs.YtjebpaahpehfnaaW.PrintMore
abbrev Hp := Int × Int × Int × Int × Int
def mayHs (seg : Int) : Int → List Hp → Bool
  | _, [] => true
  | last, h :: l => decide (last < h.1 ∧ h.1 ≤ 2147483647 ∧ seg < h.2.1) && (mayP h.2.1 h.2.2.1 h.2.2.2.1 && mayHs seg h.1 l)
def mayV (seg : Int) (l : List Hp) : Bool := decide (1 ≤ seg ∧ seg ≤ 2147483647 ∧ l.length ≤ 16384) && mayHs seg (-1) l
def hopR (b : List Int) : Option (Hp × List Int) :=
  if (getR b).2.1 = 0 ∨ 2147483647 < (getR b).1 ∨ (pointR (b.drop (getR b).2.1.toNat)).2.2.2.2 = 0 then none
  else some (((getR b).1, (pointR (b.drop (getR b).2.1.toNat)).1, (pointR (b.drop (getR b).2.1.toNat)).2.1, (pointR (b.drop (getR b).2.1.toNat)).2.2.1, (pointR (b.drop (getR b).2.1.toNat)).2.2.2.1), b.drop ((getR b).2.1 + (pointR (b.drop (getR b).2.1.toNat)).2.2.2.2).toNat)
def hopsR : Nat → List Int → Option (List Hp × List Int)
  | 0, b => some ([], b)
  | d + 1, b => match hopR b with
    | none => none
    | some x => (hopsR d x.2).map fun y => (x.1 :: y.1, y.2)
def moveR (b : List Int) : Int × List Hp × Bool :=
  if (firstR b).2.2.2 = 0 ∧ (firstR b).2.2.1 = (b.length : Int) ∧ (firstR b).1 = 4 ∧ (decs 2 (firstR b).2.1).2.2 = true ∧ rd (decs 2 (firstR b).2.1).1 0 ≤ 2147483647 ∧ rd (decs 2 (firstR b).2.1).1 1 ≤ 16384 then
    match hopsR (rd (decs 2 (firstR b).2.1).1 1).toNat ((firstR b).2.1.drop (decs 2 (firstR b).2.1).2.1) with
    | none => (0, [], false)
    | some x => if x.2 = [] ∧ mayV (rd (decs 2 (firstR b).2.1).1 0) x.1 = true then (rd (decs 2 (firstR b).2.1).1 0, x.1, true) else (0, [], false)
  else (0, [], false)
theorem mayV_iff {s : Int} {l : List Hp} : mayV s l = true ↔ (1 ≤ s ∧ s ≤ 2147483647 ∧ l.length ≤ 16384) ∧ mayHs s (-1) l = true := by
  unfold mayV
  rw [Bool.and_eq_true, decide_eq_true_eq]
theorem mayHs_cons {s last : Int} {h : Hp} {l : List Hp} : mayHs s last (h :: l) = true ↔ (last < h.1 ∧ h.1 ≤ 2147483647 ∧ s < h.2.1) ∧ mayP h.2.1 h.2.2.1 h.2.2.2.1 = true ∧ mayHs s h.1 l = true := by
  rw [mayHs, Bool.and_eq_true, Bool.and_eq_true, decide_eq_true_eq]
theorem pointR_le (b : List Int) : 0 ≤ (pointR b).2.2.2.2 ∧ (pointR b).2.2.2.2 ≤ (b.length : Int) := by
  unfold pointR
  split
  · rename_i h
    simp only
    omega
  · simp
theorem getR_le {b : List Int} (hb : Bytes b) : 0 ≤ (getR b).1 ∧ (getR b).1 < 18446744073709551616 ∧ 0 ≤ (getR b).2.1 ∧ (getR b).2.1 ≤ 10 ∧ (getR b).2.1 ≤ (b.length : Int) ∧ ((getR b).2.2 = 0 ↔ (getR b).2.1 ≠ 0) := by
  unfold getR
  rcases dec_cases b with h | ⟨u, n, h⟩
  · rw [h]
    simp
  · rw [h]
    have := dec_pos hb h
    simp only
    refine ⟨by omega, by omega, by omega, by omega, by omega, by simp; omega⟩
theorem hopR_bytes {b : List Int} (hb : Bytes b) {x : Hp × List Int} (h : hopR b = some x) : Bytes x.2 ∧ x.2.length ≤ b.length := by
  unfold hopR at h
  split at h
  · cases h
  · cases h
    exact ⟨hb.drop _, by simp⟩
def putH (h : Hp) : List Int := one h.1.toNat ++ putP h.2.1 h.2.2.1 h.2.2.2.1 h.2.2.2.2
def putsH (l : List Hp) : List Int := l.flatMap putH
theorem putsH_cons (h : Hp) (l : List Hp) : putsH (h :: l) = putH h ++ putsH l := rfl
def sumsH (l : List Hp) : Prop := ∀ h ∈ l, 0 ≤ h.2.2.2.2 ∧ h.2.2.2.2 < 4294967296
theorem getR_one {u : Nat} (h : u < 18446744073709551616) (m : List Int) : getR (one u ++ m) = ((u : Int), ((one u).length : Int), 0) := by
  unfold getR
  rw [dec_one u 0 m (by omega) (by rw [cap_zero]; exact h) (by omega)]
theorem hopR_put {h : Hp} {s last : Int} (hl : -1 ≤ last) (hm : mayHs s last [h] = true) (h0 : 0 ≤ h.2.2.2.2 ∧ h.2.2.2.2 < 4294967296) (m : List Int) : hopR (putH h ++ m) = some (h, m) := by
  obtain ⟨h1, h2, _⟩ := mayHs_cons.1 hm
  have e : putH h ++ m = one h.1.toNat ++ (putP h.2.1 h.2.2.1 h.2.2.2.1 h.2.2.2.2 ++ m) := by
    unfold putH
    rw [List.append_assoc]
  rw [e]
  unfold hopR
  have hg := getR_one (u := h.1.toNat) (by omega) (putP h.2.1 h.2.2.1 h.2.2.2.1 h.2.2.2.2 ++ m)
  rw [hg]
  simp only [Int.toNat_natCast, List.drop_left]
  rw [pointR_put h2 h0.1 h0.2]
  have p1 := one_pos h.1.toNat
  have p2 : 4 ≤ (putP h.2.1 h.2.2.1 h.2.2.2.1 h.2.2.2.2).length := by
    unfold putP
    rw [List.length_append]
    have : (sum4 h.2.2.2.2).length = 4 := rfl
    omega
  rw [if_neg (by simp only; omega)]
  have e2 : (((one h.1.toNat).length : Int) + ((putP h.2.1 h.2.2.1 h.2.2.2.1 h.2.2.2.2).length : Int)).toNat = (one h.1.toNat ++ putP h.2.1 h.2.2.1 h.2.2.2.1 h.2.2.2.2).length := by
    rw [List.length_append]
    omega
  simp only
  rw [e2, ← List.append_assoc, List.drop_left]
  obtain ⟨a, b, c, d, e⟩ := h
  simp only at h1 ⊢
  rw [show ((a.toNat : Nat) : Int) = a by omega]
theorem hopsR_puts {s : Int} : ∀ (l : List Hp) (last : Int) (m : List Int), -1 ≤ last → mayHs s last l = true → sumsH l → hopsR l.length (putsH l ++ m) = some (l, m) := by
  intro l
  induction l with
  | nil => intro last m _ _ _; rfl
  | cons h l ih =>
    intro last m hl hm hs
    have hm' := mayHs_cons.1 hm
    rw [putsH_cons, List.append_assoc, List.length_cons, hopsR, hopR_put hl (mayHs_cons.2 ⟨hm'.1, hm'.2.1, rfl⟩) (hs h (by simp)) (putsH l ++ m)]
    simp only
    rw [ih h.1 m (by omega) hm'.2.2 (fun x hx => hs x (by simp [hx]))]
    rfl
theorem putsH_len {s : Int} : ∀ (l : List Hp) (last : Int), -1 ≤ last → mayHs s last l = true → (putsH l).length ≤ 44 * l.length := by
  intro l
  induction l with
  | nil => intro last _ _; simp [putsH]
  | cons h l ih =>
    intro last hl hm
    have hm' := mayHs_cons.1 hm
    have := ih h.1 (by omega) hm'.2.2
    have h1 := one_len10 (u := h.1.toNat) (by omega)
    have h3 := mayP_iff.1 hm'.2.1
    have h2 : (putP h.2.1 h.2.2.1 h.2.2.2.1 h.2.2.2.2).length ≤ 34 := by
      unfold putP
      rw [List.length_append]
      have h4 : (sum4 h.2.2.2.2).length = 4 := rfl
      have h5 := puts_len (l := [h.2.1, h.2.2.1, h.2.2.2.1]) (by
        intro u hu
        simp at hu
        omega)
      simp only [List.length_cons, List.length_nil] at h5
      omega
    rw [putsH_cons, List.length_append, List.length_cons]
    unfold putH
    rw [List.length_append]
    omega
theorem putsH_bytes (l : List Hp) : Bytes (putsH l) := by
  intro x hx
  obtain ⟨h, _, hx⟩ := List.mem_flatMap.1 hx
  unfold putH putP at hx
  exact ((one_bytes _).append ((puts_bytes _).append (sum4_bytes _))) x hx
def bodyV (seg : Int) (l : List Hp) : List Int := puts [seg, (l.length : Int)] ++ putsH l
def putV (seg : Int) (l : List Hp) : List Int := putF 4 (bodyV seg l)
theorem bodyV_len {seg : Int} {l : List Hp} (h : mayV seg l = true) : (bodyV seg l).length ≤ 20 + 44 * l.length := by
  have hm := mayV_iff.1 h
  have h1 := putsH_len l (-1) (by omega) hm.2
  have h5 := puts_len (l := [seg, (l.length : Int)]) (by
    intro u hu
    simp at hu
    omega)
  simp only [List.length_cons, List.length_nil] at h5
  unfold bodyV
  rw [List.length_append]
  omega
theorem moveR_put {seg : Int} {l : List Hp} (h : mayV seg l = true) (hs : sumsH l) (hl : l.length ≤ 1000) : moveR (putV seg l) = (seg, l, true) := by
  have hm := mayV_iff.1 h
  have hb := bodyV_len h
  have hf := firstR_put (k := 4) (body := bodyV seg l) (mayF_iff.2 (by omega)) []
  rw [List.append_nil] at hf
  unfold putV moveR
  rw [hf]
  simp only
  have hd := decs_puts (l := [seg, (l.length : Int)]) (by
    intro u hu
    simp at hu
    omega) (putsH l)
  simp only [List.length_cons, List.length_nil] at hd
  have e : bodyV seg l = puts [seg, (l.length : Int)] ++ putsH l := rfl
  rw [e, hd]
  simp only
  have r0 : rd [seg, (l.length : Int)] 0 = seg := rfl
  have r1 : rd [seg, (l.length : Int)] 1 = (l.length : Int) := rfl
  rw [r0, r1, if_pos (by simp; omega), List.drop_left]
  have := hopsR_puts l (-1) [] (by omega) hm.2 hs
  rw [List.append_nil] at this
  rw [Int.toNat_natCast, this]
  simp only
  rw [if_pos ⟨trivial, h⟩]
theorem putV_bytes {seg : Int} {l : List Hp} : Bytes (putV seg l) := by
  unfold putV putF
  refine (one_bytes _).append ?_
  intro x hx
  rcases List.mem_cons.1 hx with rfl | hx
  · omega
  · exact ((show Bytes (bodyV seg l) from (puts_bytes _).append (putsH_bytes l)).append (sum4_bytes _)) x hx
theorem putV_len {seg : Int} {l : List Hp} (h : mayV seg l = true) : (putV seg l).length ≤ 40 + 44 * l.length := by
  have h1 := bodyV_len h
  have hm := mayV_iff.1 h
  have h2 := one_len10 (u := (bodyV seg l).length) (by omega)
  unfold putV
  rw [putF_len]
  omega
end Go.Proofs.Ytjebpaahpehfnaa.U
