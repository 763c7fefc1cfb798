/- The plain law of layers 9 and 29: which tallies there may be, how many bytes a segment has, which segments are sparse, and the victim; no program in sight. -/
import Derived.Test.YtcjkchjgmgdbgaaQEv
namespace Go.Proofs.Ytcjkchjgmgdbgaa.U
open Go.RowKit Go.Proofs.YtcjkchjgmgdbgaaW.PrintWords Go.Proofs.YtcjkchjgmgdbgaaW.PrintMore
def sortT : Int → List (Int × Int) → Bool
  | _, [] => true
  | last, p :: l => decide (last < p.1 ∧ p.1 ≤ 2147483647 ∧ 1 ≤ p.2 ∧ p.2 ≤ 1099511627776) && sortT p.1 l
def mayT (l : List (Int × Int)) : Bool := decide (l.length ≤ 4096) && sortT 0 l
def getT : List (Int × Int) → Int → Int
  | [], _ => 0
  | p :: l, s => if p.1 = s then p.2 else getT l s
theorem sortT_cons {last : Int} {p : Int × Int} {l : List (Int × Int)} : sortT last (p :: l) = true ↔ (last < p.1 ∧ p.1 ≤ 2147483647 ∧ 1 ≤ p.2 ∧ p.2 ≤ 1099511627776) ∧ sortT p.1 l = true := by
  rw [sortT, Bool.and_eq_true, decide_eq_true_eq]
theorem sortT_mem {l : List (Int × Int)} : ∀ {last : Int}, sortT last l = true → ∀ p ∈ l, last < p.1 ∧ p.1 ≤ 2147483647 ∧ 1 ≤ p.2 ∧ p.2 ≤ 1099511627776 := by
  induction l with
  | nil => intro last _ p hp; simp at hp
  | cons q l ih =>
    intro last h p hp
    have h' := sortT_cons.1 h
    rcases List.mem_cons.1 hp with rfl | hp
    · exact h'.1
    · have := ih h'.2 p hp
      omega
theorem sortT_pair {l : List (Int × Int)} : ∀ {last : Int}, sortT last l = true → l.Pairwise fun a b => a.1 < b.1 := by
  induction l with
  | nil => intro last _; exact List.Pairwise.nil
  | cons q l ih =>
    intro last h
    have h' := sortT_cons.1 h
    exact List.Pairwise.cons (fun p hp => (sortT_mem h'.2 p hp).1) (ih h'.2)
theorem mayT_iff {l : List (Int × Int)} : mayT l = true ↔ l.length ≤ 4096 ∧ sortT 0 l = true := by
  unfold mayT
  rw [Bool.and_eq_true, decide_eq_true_eq]
theorem getT_none {l : List (Int × Int)} {s : Int} (h : ∀ p ∈ l, p.1 ≠ s) : getT l s = 0 := by
  induction l with
  | nil => rfl
  | cons q l ih =>
    rw [getT, if_neg (h q (by simp))]
    exact ih fun p hp => h p (by simp [hp])
theorem getT_mem {l : List (Int × Int)} {s : Int} {p : Int × Int} (hs : l.Pairwise fun a b => a.1 < b.1) (hp : p ∈ l) (h : p.1 = s) : getT l s = p.2 := by
  induction l with
  | nil => simp at hp
  | cons q l ih =>
    rw [List.pairwise_cons] at hs
    rcases List.mem_cons.1 hp with rfl | hp
    · rw [getT, if_pos h]
    · have := hs.1 p hp
      rw [getT, if_neg (by omega)]
      exact ih hs.2 hp
theorem getT_range {l : List (Int × Int)} (hl : mayT l = true) (s : Int) : 0 ≤ getT l s ∧ getT l s ≤ 1099511627776 := by
  have h := sortT_mem (mayT_iff.1 hl).2
  clear hl
  induction l with
  | nil => simp [getT]
  | cons q l ih =>
    rw [getT]
    split
    · have := h q (by simp)
      omega
    · exact ih fun p hp => h p (by simp [hp])
def sortV : Int → List Int → List Int → Bool
  | _, [], _ => true
  | last, a :: x, b :: y => decide (last < a ∧ a ≤ 2147483647 ∧ 0 ≤ b ∧ b ≤ 4194304) && sortV a x y
  | _, _ :: _, [] => false
def headV (segs sizes : List Int) (l : List (Int × Int)) (p : Int) : Bool := decide (segs.length = sizes.length ∧ segs.length ≤ 64 ∧ 1 ≤ p ∧ p ≤ 100) && mayT l
def mayV (segs sizes : List Int) (l : List (Int × Int)) (p : Int) : Bool := headV segs sizes l p && sortV 0 segs sizes
theorem mayV_iff {segs sizes : List Int} {l : List (Int × Int)} {p : Int} : mayV segs sizes l p = true ↔ ((segs.length = sizes.length ∧ segs.length ≤ 64 ∧ 1 ≤ p ∧ p ≤ 100) ∧ mayT l = true) ∧ sortV 0 segs sizes = true := by
  unfold mayV headV
  rw [Bool.and_eq_true, Bool.and_eq_true, decide_eq_true_eq]
theorem sortV_cons {last a b : Int} {x y : List Int} : sortV last (a :: x) (b :: y) = true ↔ (last < a ∧ a ≤ 2147483647 ∧ 0 ≤ b ∧ b ≤ 4194304) ∧ sortV a x y = true := by
  rw [sortV, Bool.and_eq_true, decide_eq_true_eq]
theorem sortV_seg {x : List Int} : ∀ {y : List Int} {last : Int}, sortV last x y = true → x.Pairwise (· < ·) ∧ ∀ a ∈ x, last < a ∧ a ≤ 2147483647 := by
  induction x with
  | nil => intro y last _; exact ⟨List.Pairwise.nil, by simp⟩
  | cons a x ih =>
    intro y last h
    cases y with
    | nil => simp [sortV] at h
    | cons b y =>
      have h' := sortV_cons.1 h
      obtain ⟨i1, i2⟩ := ih h'.2
      refine ⟨List.Pairwise.cons (fun c hc => (i2 c hc).1) i1, fun c hc => ?_⟩
      rcases List.mem_cons.1 hc with rfl | hc
      · omega
      · have := i2 c hc
        omega
theorem sortV_size {x : List Int} : ∀ {y : List Int} {last : Int}, sortV last x y = true → ∀ j : Nat, j < x.length → 0 ≤ rd y (j : Int) ∧ rd y (j : Int) ≤ 4194304 := by
  induction x with
  | nil => intro y last _ j hj; simp at hj
  | cons a x ih =>
    intro y last h j hj
    cases y with
    | nil => simp [sortV] at h
    | cons b y =>
      have h' := sortV_cons.1 h
      cases j with
      | zero =>
        have e : rd (b :: y) ((0 : Nat) : Int) = b := rfl
        rw [e]
        omega
      | succ j =>
        have e : rd (b :: y) ((j + 1 : Nat) : Int) = rd y (j : Int) := by
          rw [rd_nat, rd_nat, List.getD_cons_succ]
        rw [e]
        exact ih h'.2 j (by rw [List.length_cons] at hj; omega)
def liveV (segs : List Int) (l : List (Int × Int)) (j : Nat) : Int := getT l (rd segs (j : Int))
def sparseV (segs sizes : List Int) (l : List (Int × Int)) (p : Int) (j : Nat) : Bool := decide (rd sizes (j : Int) = 0 ∨ 100 * liveV segs l j < p * rd sizes (j : Int))
def placesV (segs sizes : List Int) (l : List (Int × Int)) (p : Int) : Nat → Nat → List Int
  | _, 0 => []
  | j, d + 1 => if sparseV segs sizes l p j = true then (j : Int) :: placesV segs sizes l p (j + 1) d else placesV segs sizes l p (j + 1) d
section
variable {segs sizes : List Int} {l : List (Int × Int)} {p : Int}
theorem placesV_mem {x : Int} : ∀ {d j : Nat}, x ∈ placesV segs sizes l p j d ↔ ∃ i : Nat, x = (i : Int) ∧ j ≤ i ∧ i < j + d ∧ sparseV segs sizes l p i = true := by
  intro d
  induction d with
  | zero => intro j; simp only [placesV, List.not_mem_nil, false_iff]; rintro ⟨i, _, h1, h2, _⟩; omega
  | succ d ih =>
    intro j
    rw [placesV]
    by_cases h : sparseV segs sizes l p j = true
    · rw [if_pos h, List.mem_cons, ih]
      constructor
      · rintro (rfl | ⟨i, h1, h2, h3, h4⟩)
        · exact ⟨j, rfl, by omega, by omega, h⟩
        · exact ⟨i, h1, by omega, by omega, h4⟩
      · rintro ⟨i, h1, h2, h3, h4⟩
        by_cases hi : i = j
        · exact .inl (by omega)
        · exact .inr ⟨i, h1, by omega, by omega, h4⟩
    · rw [if_neg h, ih]
      constructor
      · rintro ⟨i, h1, h2, h3, h4⟩
        exact ⟨i, h1, by omega, by omega, h4⟩
      · rintro ⟨i, h1, h2, h3, h4⟩
        by_cases hi : i = j
        · subst hi; exact absurd h4 h
        · exact ⟨i, h1, by omega, by omega, h4⟩
theorem placesV_pair : ∀ {d j : Nat}, (placesV segs sizes l p j d).Pairwise (· < ·) := by
  intro d
  induction d with
  | zero => intro j; exact List.Pairwise.nil
  | succ d ih =>
    intro j
    rw [placesV]
    split
    · refine List.Pairwise.cons (fun x hx => ?_) ih
      obtain ⟨i, h1, h2, _⟩ := placesV_mem.1 hx
      omega
    · exact ih
theorem placesV_len : ∀ {d j : Nat}, (placesV segs sizes l p j d).length ≤ d := by
  intro d
  induction d with
  | zero => intro j; simp [placesV]
  | succ d ih =>
    intro j
    have := @ih (j + 1)
    rw [placesV]
    split
    · rw [List.length_cons]; omega
    · omega
end
def partV (segs sizes : List Int) (l : List (Int × Int)) (x : Int) : Int × Int := if rd sizes x = 0 then (0, 1) else (getT l (rd segs x), rd sizes x)
def lessV (segs sizes : List Int) (l : List (Int × Int)) (x b : Int) : Prop := (partV segs sizes l x).1 * (partV segs sizes l b).2 < (partV segs sizes l b).1 * (partV segs sizes l x).2
instance (segs sizes : List Int) (l : List (Int × Int)) (x b : Int) : Decidable (lessV segs sizes l x b) := by
  unfold lessV
  exact inferInstance
def bestV (segs sizes : List Int) (l : List (Int × Int)) : Int → List Int → Int
  | b, [] => b
  | b, x :: r => bestV segs sizes l (if lessV segs sizes l x b then x else b) r
theorem cross {a b c d e f : Int} (hd : 0 < d) (hb : 0 < b) (hf : 0 < f) (h1 : a * d < c * b) (h2 : ¬ e * d < c * f) : a * f < e * b := by
  have h3 : c * f ≤ e * d := by omega
  have h4 : a * d * f < c * b * f := Int.mul_lt_mul_of_pos_right h1 hf
  have h5 : c * f * b ≤ e * d * b := Int.mul_le_mul_of_nonneg_right h3 (by omega)
  have e1 : a * d * f = a * f * d := by rw [Int.mul_assoc, Int.mul_comm d f, ← Int.mul_assoc]
  have e2 : c * b * f = c * f * b := by rw [Int.mul_assoc, Int.mul_comm b f, ← Int.mul_assoc]
  have e3 : e * d * b = e * b * d := by rw [Int.mul_assoc, Int.mul_comm d b, ← Int.mul_assoc]
  rw [e1, e2] at h4
  rw [e3] at h5
  exact Int.lt_of_mul_lt_mul_right (a := d) (by omega) (by omega)
section
variable {segs sizes : List Int} {l : List (Int × Int)}
theorem bestV_spec (hpos : ∀ x, 0 < (partV segs sizes l x).2) : ∀ (r : List Int) (b : Int) (done : List Int), b ∈ done → (∀ j ∈ done, ¬ lessV segs sizes l j b) → (∀ j ∈ done, j < b → lessV segs sizes l b j) → (∀ j ∈ done, ∀ x ∈ r, j < x) → r.Pairwise (· < ·) →
    bestV segs sizes l b r ∈ done ++ r ∧ (∀ j ∈ done ++ r, ¬ lessV segs sizes l j (bestV segs sizes l b r)) ∧ ∀ j ∈ done ++ r, j < bestV segs sizes l b r → lessV segs sizes l (bestV segs sizes l b r) j := by
  intro r
  induction r with
  | nil =>
    intro b done h1 h2 h3 _ _
    rw [List.append_nil]
    exact ⟨h1, h2, h3⟩
  | cons x r ih =>
    intro b done h1 h2 h3 h4 h5
    rw [List.pairwise_cons] at h5
    have e : done ++ x :: r = (done ++ [x]) ++ r := by simp
    have h4' : ∀ j ∈ done ++ [x], ∀ y ∈ r, j < y := by
      intro j hj y hy
      rcases List.mem_append.1 hj with h | h
      · exact h4 j h y (by simp [hy])
      · rw [List.mem_singleton.1 h]; exact h5.1 y hy
    rw [bestV, e]
    by_cases hl : lessV segs sizes l x b
    · rw [if_pos hl]
      refine ih x (done ++ [x]) (by simp) ?_ ?_ h4' h5.2
      · intro j hj hc
        rcases List.mem_append.1 hj with h | h
        · have := cross (hpos b) (hpos x) (hpos j) hl (h2 j h)
          unfold lessV at hc
          omega
        · rw [List.mem_singleton.1 h] at hc
          unfold lessV at hc
          omega
      · intro j hj hjx
        rcases List.mem_append.1 hj with h | h
        · exact cross (hpos b) (hpos x) (hpos j) hl (h2 j h)
        · rw [List.mem_singleton.1 h] at hjx; omega
    · rw [if_neg hl]
      refine ih b (done ++ [x]) (by simp [h1]) ?_ ?_ h4' h5.2
      · intro j hj
        rcases List.mem_append.1 hj with h | h
        · exact h2 j h
        · rw [List.mem_singleton.1 h]; exact hl
      · intro j hj hjb
        rcases List.mem_append.1 hj with h | h
        · exact h3 j h hjb
        · rw [List.mem_singleton.1 h] at hjb
          have := h4 b h1 x (by simp)
          omega
end
def pickV (segs sizes : List Int) (l : List (Int × Int)) (p : Int) : Option Int := match placesV segs sizes l p 0 (segs.length - 1) with
  | [] => none
  | b :: r => some (bestV segs sizes l b r)
theorem partV_pos {segs sizes : List Int} (l : List (Int × Int)) (hs : ∀ x ∈ sizes, 0 ≤ x) (x : Int) : 0 < (partV segs sizes l x).2 := by
  have h : 0 ≤ rd sizes x := by
    by_cases h : x.toNat < sizes.length
    · have : rd sizes x = sizes[x.toNat] := by simp [rd, h]
      rw [this]
      exact hs _ (List.getElem_mem _)
    · have : rd sizes x = 0 := by simp [rd, List.getElem?_eq_none (show sizes.length ≤ x.toNat by omega)]
      omega
  unfold partV
  split
  · simp
  · simp only
    omega
theorem pickV_spec {segs sizes : List Int} {l : List (Int × Int)} {p b : Int} (hs : ∀ x ∈ sizes, 0 ≤ x) (h : pickV segs sizes l p = some b) :
    b ∈ placesV segs sizes l p 0 (segs.length - 1) ∧ (∀ j ∈ placesV segs sizes l p 0 (segs.length - 1), ¬ lessV segs sizes l j b) ∧ ∀ j ∈ placesV segs sizes l p 0 (segs.length - 1), j < b → lessV segs sizes l b j := by
  have hp := @placesV_pair segs sizes l p (segs.length - 1) 0
  unfold pickV at h
  cases hL : placesV segs sizes l p 0 (segs.length - 1) with
  | nil => rw [hL] at h; cases h
  | cons c r =>
    rw [hL] at h hp
    rw [List.pairwise_cons] at hp
    obtain rfl := Option.some.inj h
    exact bestV_spec (partV_pos l hs) r c [c] (by simp) (by
      intro j hj
      rw [List.mem_singleton.1 hj]
      unfold lessV
      omega) (by
      intro j hj hc
      rw [List.mem_singleton.1 hj] at hc
      omega) (by
      intro j hj
      rw [List.mem_singleton.1 hj]
      exact hp.1) hp.2
theorem pickV_more {segs sizes : List Int} {l : List (Int × Int)} {p q b : Int} (hs : ∀ x ∈ sizes, 0 ≤ x) (hp : 1 ≤ p) (hpq : p ≤ q) (h : pickV segs sizes l p = some b) : pickV segs sizes l q = some b := by
  obtain ⟨b1, b2, b3⟩ := pickV_spec hs h
  have hsz : ∀ i : Nat, 0 ≤ rd sizes (i : Int) := by
    intro i
    by_cases h : i < sizes.length
    · rw [rd_get h]; exact hs _ (List.getElem_mem _)
    · have : rd sizes (i : Int) = 0 := by simp [rd, List.getElem?_eq_none (show sizes.length ≤ i by omega)]
      omega
  have sub : ∀ x ∈ placesV segs sizes l p 0 (segs.length - 1), x ∈ placesV segs sizes l q 0 (segs.length - 1) := by
    intro x hx
    obtain ⟨i, e, h1, h2, h3⟩ := placesV_mem.1 hx
    refine placesV_mem.2 ⟨i, e, h1, h2, ?_⟩
    unfold sparseV at h3 ⊢
    rw [decide_eq_true_eq] at h3 ⊢
    rcases h3 with h3 | h3
    · exact .inl h3
    · have := Int.mul_le_mul_of_nonneg_right hpq (hsz i)
      exact .inr (by omega)
  cases hq : pickV segs sizes l q with
  | none =>
    exfalso
    unfold pickV at hq
    have hb := sub b b1
    cases hL : placesV segs sizes l q 0 (segs.length - 1) with
    | nil => rw [hL] at hb; simp at hb
    | cons c r => rw [hL] at hq; cases hq
  | some c =>
    obtain ⟨c1, c2, c3⟩ := pickV_spec hs hq
    have hcb := c2 b (sub b b1)
    congr 1
    by_cases hin : c ∈ placesV segs sizes l p 0 (segs.length - 1)
    · have h1 := b2 c hin
      rcases Int.lt_trichotomy b c with h | h | h
      · exact absurd (c3 b (sub b b1) h) h1
      · exact h.symm
      · exact absurd (b3 c hin h) hcb
    · exfalso
      apply hcb
      obtain ⟨i, rfl, i1, i2, i3⟩ := placesV_mem.1 b1
      obtain ⟨j, rfl, j1, j2, j3⟩ := placesV_mem.1 c1
      have hj : sparseV segs sizes l p j = false := by
        rw [← Bool.not_eq_true]
        intro hh
        exact hin (placesV_mem.2 ⟨j, rfl, j1, j2, hh⟩)
      unfold sparseV at i3 hj
      rw [decide_eq_true_eq] at i3
      rw [decide_eq_false_iff_not] at hj
      have hj0 : rd sizes (j : Int) ≠ 0 := fun e => hj (.inl e)
      have hj1 : p * rd sizes (j : Int) ≤ 100 * liveV segs l j := by
        have : ¬ 100 * liveV segs l j < p * rd sizes (j : Int) := fun e => hj (.inr e)
        omega
      have hjs := hsz j
      have his := hsz i
      have eL : ∀ k : Nat, getT l (rd segs (k : Int)) = liveV segs l k := fun _ => rfl
      unfold lessV partV
      rw [if_neg hj0]
      by_cases hi0 : rd sizes (i : Int) = 0
      · rw [if_pos hi0]
        simp only
        have : 1 * rd sizes (j : Int) ≤ p * rd sizes (j : Int) := Int.mul_le_mul_of_nonneg_right hp hjs
        rw [eL]
        omega
      · rw [if_neg hi0]
        simp only
        rw [eL, eL]
        have h1 : 100 * liveV segs l i < p * rd sizes (i : Int) := by
          rcases i3 with h | h
          · exact absurd h hi0
          · exact h
        generalize liveV segs l i = A at *
        generalize liveV segs l j = B at *
        generalize rd sizes (i : Int) = X at *
        generalize rd sizes (j : Int) = Y at *
        have h2 : 100 * A * Y < p * X * Y := Int.mul_lt_mul_of_pos_right h1 (by omega)
        have h3 : p * Y * X ≤ 100 * B * X := Int.mul_le_mul_of_nonneg_right hj1 his
        have e1 : p * X * Y = p * Y * X := by rw [Int.mul_assoc, Int.mul_comm X Y, ← Int.mul_assoc]
        have e2 : 100 * A * Y = 100 * (A * Y) := Int.mul_assoc _ _ _
        have e3 : 100 * B * X = 100 * (B * X) := Int.mul_assoc _ _ _
        omega
end Go.Proofs.Ytcjkchjgmgdbgaa.U
