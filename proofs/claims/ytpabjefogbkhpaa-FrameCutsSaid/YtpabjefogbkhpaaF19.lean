/- The plain law of layer 19: values behind one another as frames, the points of what stands in bytes; no program in sight. -/
import Derived.Test.YtpabjefogbkhpaaF03
namespace Go.Proofs.Ytpabjefogbkhpaa.U
open Go.RowKit Go.Proofs.YtpabjefogbkhpaaW.PrintWords Go.Proofs.YtpabjefogbkhpaaW.PrintMore

/-- A frame that is cut ends within a frame. -/
theorem firstR_cut {k : Int} {body : List Int} (h : mayF k body = true) {i : Nat} (hi : i < (putF k body).length) : firstR ((putF k body).take i) = (0, [], 0, 5) := by
  have hm := mayF_iff.1 h
  have hl := putF_len k body
  by_cases hn : i < (one body.length).length
  · have e : (putF k body).take i = (one body.length).take i := by
      unfold putF
      rw [List.take_append_of_le_length (by omega)]
    have h3 := one_len (j := 3) (u := body.length) (by omega) (by omega)
    obtain ⟨a, c, e1, hc, ha⟩ := one_last body.length
    rw [e]
    unfold firstR
    rw [if_pos]
    unfold highs
    rw [Bool.and_eq_true, decide_eq_true_eq, List.all_eq_true]
    refine ⟨by rw [List.length_take]; omega, fun y hy => ?_⟩
    rw [e1, List.length_append, List.length_singleton] at hn
    rw [e1, List.take_append_of_le_length (by omega)] at hy
    simpa using ha y (List.mem_of_mem_take hy)
  · have e : (putF k body).take i = one body.length ++ (k :: (body ++ sum4 (sumF k body))).take (i - (one body.length).length) := by
      unfold putF
      rw [List.take_append, List.take_of_length_le (by omega)]
    have hd := dec_one body.length 0 ((k :: (body ++ sum4 (sumF k body))).take (i - (one body.length).length)) (by omega) (by rw [cap_zero]; omega) (by omega)
    have hlen : ((putF k body).take i).length = i := by rw [List.length_take]; omega
    rw [e] at hlen ⊢
    unfold firstR
    rw [highs_one, if_neg (by simp), hd]
    simp only
    rw [hlen, if_neg (by omega)]
    by_cases hin : i = (one body.length).length
    · rw [if_pos hin]
    · obtain ⟨t, ht⟩ : ∃ t, i - (one body.length).length = t + 1 := ⟨i - (one body.length).length - 1, by omega⟩
      have er : rd (one body.length ++ (k :: (body ++ sum4 (sumF k body))).take (i - (one body.length).length)) ((one body.length).length : Int) = k := by
        rw [rd_at _ _ _ 0 (by omega), ht]
        rfl
      rw [if_neg hin, er, if_neg (by omega), if_pos (by omega)]

def vals (l : List (List Int)) : List (Int × List Int) := l.map fun v => (2, v)
/-- Values' bytes. -/
def putV (l : List (List Int)) : List Int := putsF (vals l)
theorem putV_nil : putV [] = [] := rfl
theorem putV_cons (v : List Int) (l : List (List Int)) : putV (v :: l) = putF 2 v ++ putV l := rfl
def shortV (l : List (List Int)) : Bool := l.all fun v => decide (v.length ≤ 4096)
theorem shortV_cons (v : List Int) (l : List (List Int)) : shortV (v :: l) = true ↔ v.length ≤ 4096 ∧ shortV l = true := by
  unfold shortV
  rw [List.all_cons, Bool.and_eq_true, decide_eq_true_eq]
theorem shortV_mem {l : List (List Int)} (h : shortV l = true) {v : List Int} (hv : v ∈ l) : v.length ≤ 4096 := by
  unfold shortV at h
  rw [List.all_eq_true] at h
  simpa using h v hv
def totV (l : List (List Int)) : Nat := (l.map List.length).sum
theorem totV_cons (v : List Int) (l : List (List Int)) : totV (v :: l) = v.length + totV l := rfl
theorem totV_drop (l : List (List Int)) (j : Nat) : totV (l.drop j) ≤ totV l := by
  induction l generalizing j with
  | nil => simp
  | cons f l ih =>
    cases j with
    | zero => simp
    | succ j =>
      rw [List.drop_succ_cons, totV_cons]
      have := ih j
      omega
theorem putV_len {l : List (List Int)} (h : shortV l = true) : (putV l).length ≤ totV l + 15 * l.length := by
  induction l with
  | nil => simp [putV, vals, putsF, totV]
  | cons v l ih =>
    have h2 := (shortV_cons v l).1 h
    have h1 := ih h2.2
    have h3 := one_len10 (u := v.length) (by omega)
    rw [putV_cons, List.length_append, putF_len, totV_cons, List.length_cons]
    omega
theorem may2 {v : List Int} (h : v.length ≤ 4096) : mayF 2 v = true := mayF_iff.2 (by omega)
theorem putF_bytes {k : Int} {body : List Int} (h : mayF k body = true) (hb : Bytes body) : Bytes (putF k body) := by
  have hm := mayF_iff.1 h
  intro x hx
  unfold putF at hx
  rw [List.mem_append, List.mem_cons, List.mem_append] at hx
  rcases hx with hx | rfl | hx | hx
  · exact one_bytes _ x hx
  · omega
  · exact hb x hx
  · exact sum4_bytes _ x hx
theorem putV_bytes {l : List (List Int)} (hs : shortV l = true) (hg : ∀ v ∈ l, Bytes v) : Bytes (putV l) := by
  induction l with
  | nil => exact Bytes.nil
  | cons v l ih =>
    have h2 := (shortV_cons v l).1 hs
    rw [putV_cons]
    exact (putF_bytes (may2 h2.1) (hg v (by simp))).append (ih h2.2 fun u hu => hg u (by simp [hu]))

/-- The points of values that stand from a place on. -/
def pointsR (s : Int) : Int → List (List Int) → List (Int × Int × Int × Int)
  | _, [] => []
  | p, v :: l => (s, p + ((putF 2 v).length : Int) - 4 - (v.length : Int), (v.length : Int), (crcOf v : Int)) :: pointsR s (p + ((putF 2 v).length : Int)) l
theorem pointsR_len (s : Int) : ∀ (l : List (List Int)) (p : Int), (pointsR s p l).length = l.length := by
  intro l
  induction l with
  | nil => intro p; rfl
  | cons v l ih => intro p; rw [pointsR, List.length_cons, List.length_cons, ih]
theorem pointsR_take (s : Int) : ∀ (l : List (List Int)) (p : Int) (j : Nat), (pointsR s p l).take j = pointsR s p (l.take j) := by
  intro l
  induction l with
  | nil => intro p j; simp [pointsR]
  | cons v l ih =>
    intro p j
    cases j with
    | zero => rfl
    | succ j => rw [pointsR, List.take_succ_cons, List.take_succ_cons, pointsR, ih]
theorem pointsR_end (s : Int) (z : Int × Int × Int × Int) : ∀ (l : List (List Int)) (p : Int) (j : Nat), j < l.length → ((pointsR s p l).getD j z).2.1 + ((pointsR s p l).getD j z).2.2.1 + 4 = p + ((putV (l.take (j + 1))).length : Int) := by
  intro l
  induction l with
  | nil => intro p j h; simp at h
  | cons v l ih =>
    intro p j h
    rw [List.length_cons] at h
    cases j with
    | zero =>
      rw [pointsR, List.take_succ_cons, putV_cons, List.take_zero, putV_nil, List.append_nil]
      simp only [List.getD_cons_zero]
      omega
    | succ j =>
      have := ih (p + ((putF 2 v).length : Int)) j (by omega)
      rw [pointsR, List.take_succ_cons, putV_cons, List.length_append, List.getD_cons_succ, this]
      omega
theorem pointsR_range (s : Int) {l : List (List Int)} (hs : shortV l = true) : ∀ {p : Int}, 0 ≤ p → ∀ q ∈ pointsR s p l, 0 ≤ q.2.1 ∧ q.2.1 ≤ p + ((putV l).length : Int) ∧ 0 ≤ q.2.2.1 ∧ q.2.2.1 ≤ 4096 := by
  induction l with
  | nil => intro p hp q hq; simp [pointsR] at hq
  | cons v l ih =>
    intro p hp q hq
    have h2 := (shortV_cons v l).1 hs
    have hl := putF_len 2 v
    rw [pointsR, List.mem_cons] at hq
    rw [putV_cons, List.length_append]
    rcases hq with rfl | hq
    · simp only
      omega
    · have := ih h2.2 (p := p + ((putF 2 v).length : Int)) (by omega) q hq
      omega

/-- The points of what stands in bytes, and where that ends. -/
def walkR (s : Int) : Nat → Int → List Int → List (Int × Int × Int × Int) × Int
  | 0, p, _ => ([], p)
  | d + 1, p, b =>
    if (firstR b).2.2.2 = 0 ∧ (firstR b).1 = 2 ∧ (firstR b).2.1.length ≤ 4096 then
      ((s, p + (firstR b).2.2.1 - 4 - ((firstR b).2.1.length : Int), ((firstR b).2.1.length : Int), (crcOf (firstR b).2.1 : Int)) :: (walkR s d (p + (firstR b).2.2.1) (b.drop (firstR b).2.2.1.toNat)).1,
       (walkR s d (p + (firstR b).2.2.1) (b.drop (firstR b).2.2.1.toNat)).2)
    else ([], p)
theorem walkR_puts (s : Int) : ∀ (l : List (List Int)) (d : Nat) (p : Int) (m : List Int), shortV l = true → walkR s (d + l.length) p (putV l ++ m) = (pointsR s p l ++ (walkR s d (p + ((putV l).length : Int)) m).1, (walkR s d (p + ((putV l).length : Int)) m).2) := by
  intro l
  induction l with
  | nil =>
    intro d p m _
    have e : p + (((putV []).length : Nat) : Int) = p := by simp [putV_nil]
    rw [e, putV_nil, List.nil_append]
    rfl
  | cons v l ih =>
    intro d p m h
    have h2 := (shortV_cons v l).1 h
    rw [putV_cons, List.append_assoc, List.length_cons, ← Nat.add_assoc, walkR, firstR_put (may2 h2.1), if_pos ⟨rfl, rfl, h2.1⟩]
    simp only [Int.toNat_natCast, List.drop_left]
    rw [ih d _ m h2.2, List.length_append, Int.natCast_add, Int.add_assoc]
    rfl
theorem walkR_cut (s : Int) : ∀ (l : List (List Int)) (d : Nat) (p : Int) (k : Nat), shortV l = true → k ≤ (putV l).length → l.length < d →
    ∃ j, j ≤ l.length ∧ walkR s d p ((putV l).take k) = (pointsR s p (l.take j), p + ((putV (l.take j)).length : Int)) ∧ (putV (l.take j)).length ≤ k ∧ (j < l.length → k < (putV (l.take (j + 1))).length) := by
  intro l
  induction l with
  | nil =>
    intro d p k _ hk hd
    cases d with
    | zero => simp at hd
    | succ d =>
      refine ⟨0, by omega, ?_, by simp [putV_nil], by simp⟩
      rw [putV_nil, List.take_nil, walkR, firstR_nil, if_neg (by simp)]
      simp [pointsR, putV_nil]
  | cons v l ih =>
    intro d p k h hk hd
    have h2 := (shortV_cons v l).1 h
    cases d with
    | zero => simp at hd
    | succ d =>
      rw [putV_cons, List.length_append] at hk
      rw [List.length_cons] at hd
      by_cases hc : k < (putF 2 v).length
      · refine ⟨0, by omega, ?_, by simp [putV_nil], ?_⟩
        · rw [putV_cons, List.take_append_of_le_length (by omega), walkR, firstR_cut (may2 h2.1) hc, if_neg (by simp)]
          simp [pointsR, putV_nil]
        · intro _
          rw [List.take_succ_cons, List.take_zero, putV_cons, putV_nil, List.append_nil]
          exact hc
      · obtain ⟨j, j1, j2, j3, j4⟩ := ih d (p + ((putF 2 v).length : Int)) (k - (putF 2 v).length) h2.2 (by omega) (by omega)
        refine ⟨j + 1, by rw [List.length_cons]; omega, ?_, ?_, ?_⟩
        · rw [putV_cons, List.take_append, List.take_of_length_le (by omega), walkR, firstR_put (may2 h2.1), if_pos ⟨rfl, rfl, h2.1⟩]
          simp only [Int.toNat_natCast, List.drop_left]
          rw [j2, List.take_succ_cons, pointsR, putV_cons, List.length_append, Int.natCast_add, Int.add_assoc]
        · rw [List.take_succ_cons, putV_cons, List.length_append]
          omega
        · intro hj
          rw [List.length_cons] at hj
          rw [List.take_succ_cons, putV_cons, List.length_append]
          have := j4 (by omega)
          omega
end Go.Proofs.Ytpabjefogbkhpaa.U
