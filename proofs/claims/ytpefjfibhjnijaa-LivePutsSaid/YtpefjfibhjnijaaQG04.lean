/- The plain law of sorting by swaps: what changed elements leave; rising rows; stability: no program in sight. -/
import Derived.Test.YtpefjfibhjnijaaQEv
namespace Go.Proofs.Ytpefjfibhjnijaa.U
set_option linter.unusedVariables false
section
variable {α : Type} {z : α}
def sw (z : α) (l : List α) (i j : Nat) : List α := (l.set i (l.getD j z)).set j (l.getD i z)
theorem sw_len (l : List α) (i j : Nat) : (sw z l i j).length = l.length := by simp [sw]
theorem sw_get (l : List α) {i j : Nat} (hi : i < l.length) (hj : j < l.length) (k : Nat) : (sw z l i j).getD k z = if k = j then l.getD i z else if k = i then l.getD j z else l.getD k z := by
 unfold sw
 simp only [List.getD_eq_getElem?_getD, List.getElem?_set, List.length_set]
 by_cases h1 : k = j
 ·subst h1
  simp [hj]
 ·rw [if_neg (fun e => h1 e.symm), if_neg h1]
  by_cases h2 : k = i
  ·subst h2
   simp [hi]
  ·rw [if_neg (fun e => h2 e.symm), if_neg h2]
def swr (z : α) (l : List α) (a b : Nat) : Nat → List α
 | 0 => l
 | n + 1 => sw z (swr z l a b n) (a + n) (b + n)
theorem swr_len (l : List α) (a b : Nat) : ∀ n, (swr z l a b n).length = l.length
 | 0 => rfl
 | n + 1 => by rw [swr, sw_len, swr_len l a b n]
theorem swr_get (l : List α) {a b : Nat} : ∀ n, a + n ≤ b → b + n ≤ l.length → ∀ k, (swr z l a b n).getD k z = if a ≤ k ∧ k < a + n then l.getD (b + (k - a)) z else if b ≤ k ∧ k < b + n then l.getD (a + (k - b)) z else l.getD k z
 | 0, _, _, k => by rw [swr, if_neg (by omega), if_neg (by omega)]
 | n + 1, h1, h2, k => by
  rw [swr, sw_get (swr z l a b n) (i := a + n) (j := b + n) (by rw [swr_len]; omega) (by rw [swr_len]; omega)]
  have ih := swr_get l (a := a) (b := b) n (by omega) (by omega)
  by_cases e1 : k = b + n
  ·subst e1
   rw [if_pos rfl, ih, if_neg (by omega), if_neg (by omega), if_neg (by omega), if_pos (by omega)]
   congr 1
   omega
  ·rw [if_neg e1]
   by_cases e2 : k = a + n
   ·subst e2
    rw [if_pos rfl, ih, if_neg (by omega), if_neg (by omega), if_pos (by omega)]
    congr 1
    omega
   ·rw [if_neg e2, ih]
    by_cases c1 : a ≤ k ∧ k < a + n
    ·rw [if_pos c1, if_pos (by omega)]
    ·by_cases c2 : b ≤ k ∧ k < b + n
     ·rw [if_neg c1, if_pos c2, if_neg (by omega), if_pos (by omega)]
     ·rw [if_neg c1, if_neg c2, if_neg (by omega), if_neg (by omega)]
def rotAt (a m b k : Nat) : Nat := if a ≤ k ∧ k < a + (b - m) then m + (k - a) else if a + (b - m) ≤ k ∧ k < b then a + (k - (a + (b - m))) else k
theorem rot_left {a m b k : Nat} (h1 : a < m) (h2 : m < b) (h : b - m < m - a) : (fun x => if a ≤ x ∧ x < a + (b - m) then m + (x - a) else if m ≤ x ∧ x < m + (b - m) then a + (x - m) else x) (rotAt (a + (b - m)) m b k) = rotAt a m b k := by
 unfold rotAt
 simp only
 repeat' split
 all_goals omega
theorem rot_right {a m b k : Nat} (h1 : a < m) (h2 : m < b) (h : m - a < b - m) : (fun x => if a ≤ x ∧ x < a + (m - a) then (b - (m - a)) + (x - a) else if b - (m - a) ≤ x ∧ x < b - (m - a) + (m - a) then a + (x - (b - (m - a))) else x) (rotAt a m (b - (m - a)) k) = rotAt a m b k := by
 unfold rotAt
 simp only
 repeat' split
 all_goals omega
theorem rot_same {a m b k : Nat} (h1 : a < m) (h2 : m < b) (h : m - a = b - m) : (if a ≤ k ∧ k < a + (m - a) then m + (k - a) else if m ≤ k ∧ k < m + (m - a) then a + (k - m) else k) = rotAt a m b k := by
 unfold rotAt
 repeat' split
 all_goals omega
structure Acts (z : α) (l r : List α) (a b : Nat) : Prop where
 len : r.length = l.length
 out : ∀ k, ¬ (a ≤ k ∧ k < b) → r.getD k z = l.getD k z
 inn : ∀ k, a ≤ k → k < b → ∃ k', a ≤ k' ∧ k' < b ∧ r.getD k z = l.getD k' z
theorem Acts.refl (l : List α) (a b : Nat) : Acts z l l a b := ⟨rfl, fun _ _ => rfl, fun k h1 h2 => ⟨k, h1, h2, rfl⟩⟩
theorem Acts.trans {l r s : List α} {a b : Nat} (h : Acts z l r a b) (h2 : Acts z r s a b) : Acts z l s a b :=
 ⟨h2.len.trans h.len, fun k hk => (h2.out k hk).trans (h.out k hk), fun k h3 h4 => by
  obtain ⟨k1, h5, h6, e1⟩ := h2.inn k h3 h4
  obtain ⟨k2, h7, h8, e2⟩ := h.inn k1 h5 h6
  exact ⟨k2, h7, h8, e1.trans e2⟩⟩
theorem Acts.wide {l r : List α} {a b a' b' : Nat} (h : Acts z l r a b) (h1 : a' ≤ a) (h2 : b ≤ b') : Acts z l r a' b' :=
 ⟨h.len, fun k hk => h.out k (fun h3 => hk ⟨by omega, by omega⟩), fun k h3 h4 => by
  by_cases hk : a ≤ k ∧ k < b
  ·obtain ⟨k1, h5, h6, e1⟩ := h.inn k hk.1 hk.2
   exact ⟨k1, by omega, by omega, e1⟩
  ·exact ⟨k, h3, h4, h.out k hk⟩⟩
theorem Acts.rot {l r : List α} {a m b : Nat} (h1 : a ≤ m) (h2 : m ≤ b) (hl : r.length = l.length) (hr : ∀ k, r.getD k z = l.getD (rotAt a m b k) z) : Acts z l r a b := by
 refine ⟨hl, fun k hk => ?_, fun k h3 h4 => ⟨rotAt a m b k, ?_, ?_, hr k⟩⟩
 ·rw [hr, rotAt, if_neg (by omega), if_neg (by omega)]
 ·unfold rotAt
  repeat' split
  all_goals omega
 ·unfold rotAt
  repeat' split
  all_goals omega
theorem Acts.sw (l : List α) {a b i j : Nat} (hi : a ≤ i) (hi2 : i < b) (hj : a ≤ j) (hj2 : j < b) (hb : b ≤ l.length) : Acts z l (sw z l i j) a b := by
 have hg := sw_get (z := z) l (i := i) (j := j) (by omega) (by omega)
 refine ⟨sw_len _ _ _, fun k hk => ?_, fun k h1 h2 => ?_⟩
 ·rw [hg, if_neg (by omega), if_neg (by omega)]
 ·rw [hg]
  split
  ·exact ⟨i, hi, hi2, rfl⟩
  ·split
   ·exact ⟨j, hj, hj2, rfl⟩
   ·exact ⟨k, h1, h2, rfl⟩
variable {lt : α → α → Prop}
def Up (lt : α → α → Prop) (z : α) (l : List α) (a b : Nat) : Prop := ∀ i j, a ≤ i → i < j → j < b → ¬ lt (l.getD j z) (l.getD i z)
theorem Up.sub {l : List α} {a b a' b' : Nat} (h : Up lt z l a b) (h1 : a ≤ a') (h2 : b' ≤ b) : Up lt z l a' b' := fun i j h3 h4 h5 => h i j (by omega) h4 (by omega)
theorem Up.same {l r : List α} {a b : Nat} (h : Up lt z l a b) (he : ∀ k, a ≤ k → k < b → r.getD k z = l.getD k z) : Up lt z r a b := fun i j h3 h4 h5 => by
 rw [he i h3 (by omega), he j (by omega) h5]
 exact h i j h3 h4 h5
theorem Up.one (l : List α) (a : Nat) {b : Nat} (hb : b ≤ a + 1) : Up lt z l a b := fun i j h3 h4 h5 => by omega
theorem Up.join {l : List α} {a m b : Nat} (h1 : Up lt z l a m) (h2 : Up lt z l m b) (h : ∀ i j, a ≤ i → i < m → m ≤ j → j < b → ¬ lt (l.getD j z) (l.getD i z)) : Up lt z l a b := fun i j h3 h4 h5 => by
 by_cases c1 : j < m
 ·exact h1 i j h3 h4 c1
 ·by_cases c2 : m ≤ i
  ·exact h2 i j c2 h4 h5
  ·exact h i j h3 (by omega) (by omega) h5
structure Tot (lt : α → α → Prop) : Prop where
 tr : ∀ {x y w}, ¬ lt y x → ¬ lt w y → ¬ lt w x
 as : ∀ {x y}, lt x y → ¬ lt y x
theorem Tot.ir (T : Tot lt) (x : α) : ¬ lt x x := fun h => T.as h h
theorem Up.le (T : Tot lt) {l : List α} {a b i j : Nat} (h : Up lt z l a b) (h1 : a ≤ i) (h2 : i ≤ j) (h3 : j < b) : ¬ lt (l.getD j z) (l.getD i z) := by
 by_cases e : i = j
 ·subst e; exact T.ir _
 ·exact h i j h1 (by omega) h3
theorem sym_split (T : Tot lt) {l r : List α} {a m b s e mid : Nat} (h1 : Up lt z l a m) (h2 : Up lt z l m b) (ha : a ≤ s) (hs : s ≤ m) (he : m ≤ e) (hb : e ≤ b) (hmid : mid = s + (e - m))
 (hA : s = a ∨ e = b ∨ ¬ lt (l.getD e z) (l.getD (s - 1) z)) (hB : s = m ∨ e = m ∨ lt (l.getD (e - 1) z) (l.getD s z)) (hr : ∀ k, r.getD k z = l.getD (rotAt s m e k) z) :
 Up lt z r a s ∧ Up lt z r s mid ∧ Up lt z r mid e ∧ Up lt z r e b ∧ ∀ i j, a ≤ i → i < mid → mid ≤ j → j < b → ¬ lt (r.getD j z) (r.getD i z) := by
 have r1 : ∀ k, k < s → r.getD k z = l.getD k z := fun k hk => by rw [hr, rotAt, if_neg (by omega), if_neg (by omega)]
 have r2 : ∀ k, s ≤ k → k < mid → r.getD k z = l.getD (m + (k - s)) z := fun k h3 h4 => by rw [hr, rotAt, if_pos (by omega)]
 have r3 : ∀ k, mid ≤ k → k < e → r.getD k z = l.getD (s + (k - mid)) z := fun k h3 h4 => by
  rw [hr, rotAt, if_neg (by omega), if_pos (by omega), hmid]
 have r4 : ∀ k, e ≤ k → r.getD k z = l.getD k z := fun k hk => by rw [hr, rotAt, if_neg (by omega), if_neg (by omega)]
 refine ⟨?_, ?_, ?_, ?_, ?_⟩
 ·exact (h1.sub (Nat.le_refl _) hs).same (fun k _ h4 => r1 k h4)
 ·intro i j h3 h4 h5
  rw [r2 i h3 (by omega), r2 j (by omega) h5]
  exact h2 _ _ (by omega) (by omega) (by omega)
 ·intro i j h3 h4 h5
  rw [r3 i h3 (by omega), r3 j (by omega) h5]
  exact h1 _ _ (by omega) (by omega) (by omega)
 ·exact (h2.sub he (Nat.le_refl _)).same (fun k h4 _ => r4 k h4)
 ·intro i j h3 h4 h5 h6
  by_cases c1 : i < s
  ·rw [r1 i c1]
   by_cases c2 : j < e
   ·rw [r3 j h5 c2]
    exact h1.le T h3 (by omega) (by omega)
   ·rw [r4 j (by omega)]
    rcases hA with hA | hA | hA
    ·omega
    ·omega
    ·exact T.tr (h1.le T h3 (by omega : i ≤ s - 1) (by omega)) (T.tr hA (h2.le T he (by omega : e ≤ j) h6))
  ·rw [r2 i (by omega) h4]
   by_cases c2 : j < e
   ·rw [r3 j h5 c2]
    rcases hB with hB | hB | hB
    ·omega
    ·omega
    ·exact T.tr (h2.le T (by omega) (by omega : m + (i - s) ≤ e - 1) (by omega)) (T.tr (T.as hB) (h1.le T ha (by omega : s ≤ s + (j - mid)) (by omega)))
   ·rw [r4 j (by omega)]
    exact h2.le T (by omega) (by omega) h6
theorem up_insert_stop {l : List α} {a i j : Nat} (T : Tot lt) (hj : a ≤ j) (hji : j ≤ i) (h1 : ∀ p q, a ≤ p → p < q → q ≤ i → p ≠ j → q ≠ j → ¬ lt (l.getD q z) (l.getD p z)) (h2 : ∀ q, j < q → q ≤ i → lt (l.getD j z) (l.getD q z)) (h3 : j = a ∨ ¬ lt (l.getD j z) (l.getD (j - 1) z)) : Up lt z l a (i + 1) := by
 intro p q h4 h5 h6
 by_cases e1 : p = j
 ·subst e1
  exact T.as (h2 q h5 (by omega))
 ·by_cases e2 : q = j
  ·subst e2
   rcases h3 with h3 | h3
   ·omega
   ·by_cases e3 : p = q - 1
    ·rw [e3]; exact h3
    ·exact T.tr (h1 p (q - 1) h4 (by omega) (by omega) e1 (by omega)) h3
  ·exact h1 p q h4 h5 (by omega) e1 e2
theorem up_insert_step {l : List α} {a i j : Nat} (hj : a < j) (hji : j ≤ i) (hil : i < l.length) (h1 : ∀ p q, a ≤ p → p < q → q ≤ i → p ≠ j → q ≠ j → ¬ lt (l.getD q z) (l.getD p z)) (h2 : ∀ q, j < q → q ≤ i → lt (l.getD j z) (l.getD q z)) (h3 : lt (l.getD j z) (l.getD (j - 1) z)) :
 (∀ p q, a ≤ p → p < q → q ≤ i → p ≠ j - 1 → q ≠ j - 1 → ¬ lt ((sw z l j (j - 1)).getD q z) ((sw z l j (j - 1)).getD p z)) ∧ (∀ q, j - 1 < q → q ≤ i → lt ((sw z l j (j - 1)).getD (j - 1) z) ((sw z l j (j - 1)).getD q z)) := by
 have hg := sw_get (z := z) l (i := j) (j := j - 1) (by omega) (by omega)
 refine ⟨fun p q h4 h5 h6 h7 h8 => ?_, fun q h4 h5 => ?_⟩
 ·rw [hg, hg, if_neg h7, if_neg h8]
  by_cases e1 : p = j
  ·rw [if_pos e1, if_neg (by omega)]
   exact h1 (j - 1) q (by omega) (by omega) h6 (by omega) (by omega)
  ·rw [if_neg e1]
   by_cases e2 : q = j
   ·rw [if_pos e2]
    exact h1 p (j - 1) h4 (by omega) (by omega) e1 (by omega)
   ·rw [if_neg e2]
    exact h1 p q h4 h5 h6 e1 e2
 ·rw [hg, hg, if_pos rfl, if_neg (by omega)]
  by_cases e1 : q = j
  ·rw [if_pos e1]; exact h3
  ·rw [if_neg e1]
   exact h2 q (by omega) h5
def shr (z : α) (l : List α) (a : Nat) : Nat → List α
 | 0 => l
 | n + 1 => sw z (shr z l a n) (a + n) (a + n + 1)
theorem shr_acts (l : List α) {a b : Nat} (hb : b ≤ l.length) : ∀ n, a + n < b → Acts z l (shr z l a n) a b
 | 0, _ => Acts.refl _ _ _
 | n + 1, h => by
  have ih := shr_acts l (a := a) hb n (by omega)
  exact ih.trans (Acts.sw _ (by omega) (by omega) (by omega) (by omega) (by rw [ih.len]; exact hb))
theorem shr_get (l : List α) {a : Nat} : ∀ n, a + n < l.length → ∀ k, (shr z l a n).getD k z = if a ≤ k ∧ k < a + n then l.getD (k + 1) z else if k = a + n then l.getD a z else l.getD k z
 | 0, _, k => by
  rw [shr, if_neg (by omega)]
  split
  ·rename_i e; rw [e]; rfl
  ·rfl
 | n + 1, h, k => by
  have ih := shr_get l (a := a) n (by omega)
  have hl : (shr z l a n).length = l.length := (shr_acts (z := z) l (Nat.le_refl _) n (by omega)).len
  rw [shr, sw_get (shr z l a n) (i := a + n) (j := a + n + 1) (by omega) (by omega)]
  by_cases e1 : k = a + n + 1
  ·rw [if_pos e1, ih, if_neg (by omega), if_pos rfl, if_neg (by omega), if_pos (by omega)]
  ·rw [if_neg e1]
   by_cases e2 : k = a + n
   ·rw [if_pos e2, ih, if_neg (by omega), if_neg (by omega), if_pos (by omega), e2]
   ·rw [if_neg e2, ih]
    by_cases c1 : a ≤ k ∧ k < a + n
    ·rw [if_pos c1, if_pos (by omega)]
    ·rw [if_neg c1, if_neg (by omega), if_neg (by omega), if_neg (by omega)]
def shl (z : α) (l : List α) (m : Nat) : Nat → List α
 | 0 => l
 | n + 1 => sw z (shl z l m n) (m - n) (m - n - 1)
theorem shl_acts (l : List α) {a b m : Nat} (hb : b ≤ l.length) (hm : m < b) : ∀ n, a + n ≤ m → Acts z l (shl z l m n) a b
 | 0, _ => Acts.refl _ _ _
 | n + 1, h => by
  have ih := shl_acts l (a := a) hb hm n (by omega)
  exact ih.trans (Acts.sw _ (by omega) (by omega) (by omega) (by omega) (by rw [ih.len]; exact hb))
theorem shl_get (l : List α) {m : Nat} (hm : m < l.length) : ∀ n, n ≤ m → ∀ k, (shl z l m n).getD k z = if m - n < k ∧ k ≤ m then l.getD (k - 1) z else if k = m - n then l.getD m z else l.getD k z
 | 0, _, k => by
  rw [shl, if_neg (by omega)]
  split
  ·rename_i e; rw [e]; rfl
  ·rfl
 | n + 1, h, k => by
  have ih := shl_get l hm n (by omega)
  have hl : (shl z l m n).length = l.length := (shl_acts (z := z) (a := 0) l (Nat.le_refl _) hm n (by omega)).len
  rw [shl, sw_get (shl z l m n) (i := m - n) (j := m - n - 1) (by omega) (by omega)]
  by_cases e1 : k = m - n - 1
  ·rw [if_pos e1, ih, if_neg (by omega), if_pos rfl, if_neg (by omega), if_pos (by omega)]
  ·rw [if_neg e1]
   by_cases e2 : k = m - n
   ·rw [if_pos e2, ih, if_neg (by omega), if_neg (by omega), if_pos (by omega), e2]
   ·rw [if_neg e2, ih]
    by_cases c1 : m - n < k ∧ k ≤ m
    ·rw [if_pos c1, if_pos (by omega)]
    ·rw [if_neg c1, if_neg (by omega), if_neg (by omega), if_neg (by omega)]
theorem ins_first (T : Tot lt) {l : List α} {a b i : Nat} (hb : b ≤ l.length) (h : Up lt z l (a + 1) b) (h1 : a + 1 ≤ i) (h2 : i ≤ b) (hA : i = a + 1 ∨ lt (l.getD (i - 1) z) (l.getD a z)) (hB : i = b ∨ ¬ lt (l.getD i z) (l.getD a z)) : Up lt z (shr z l a (i - 1 - a)) a b := by
 have hg := shr_get (z := z) l (a := a) (i - 1 - a) (by omega)
 have g1 : ∀ k, a ≤ k → k < i - 1 → (shr z l a (i - 1 - a)).getD k z = l.getD (k + 1) z := fun k h3 h4 => by rw [hg, if_pos (by omega)]
 have g2 : (shr z l a (i - 1 - a)).getD (i - 1) z = l.getD a z := by rw [hg, if_neg (by omega), if_pos (by omega)]
 have g3 : ∀ k, i ≤ k → (shr z l a (i - 1 - a)).getD k z = l.getD k z := fun k h3 => by rw [hg, if_neg (by omega), if_neg (by omega)]
 intro p q h3 h4 h5
 by_cases c1 : p < i - 1
 ·rw [g1 p h3 c1]
  by_cases c2 : q < i - 1
  ·rw [g1 q (by omega) c2]
   exact h _ _ (by omega) (by omega) (by omega)
  ·by_cases c3 : q = i - 1
   ·rw [c3, g2]
    rcases hA with hA | hA
    ·omega
    ·exact T.tr (h.le T (by omega) (by omega : p + 1 ≤ i - 1) (by omega)) (T.as hA)
   ·rw [g3 q (by omega)]
    exact h _ _ (by omega) (by omega) (by omega)
 ·by_cases c3 : p = i - 1
  ·rw [c3, g2, g3 q (by omega)]
   rcases hB with hB | hB
   ·omega
   ·exact T.tr hB (h.le T (by omega) (by omega : i ≤ q) h5)
  ·rw [g3 p (by omega), g3 q (by omega)]
   exact h _ _ (by omega) h4 h5
theorem ins_last (T : Tot lt) {l : List α} {a m i : Nat} (hb : m < l.length) (h : Up lt z l a m) (h1 : a ≤ i) (h2 : i ≤ m) (hA : i = a ∨ ¬ lt (l.getD m z) (l.getD (i - 1) z)) (hB : i = m ∨ lt (l.getD m z) (l.getD i z)) : Up lt z (shl z l m (m - i)) a (m + 1) := by
 have hg := shl_get (z := z) l hb (m - i) (by omega)
 have g1 : ∀ k, k < i → (shl z l m (m - i)).getD k z = l.getD k z := fun k h3 => by rw [hg, if_neg (by omega), if_neg (by omega)]
 have g2 : (shl z l m (m - i)).getD i z = l.getD m z := by rw [hg, if_neg (by omega), if_pos (by omega)]
 have g3 : ∀ k, i < k → k ≤ m → (shl z l m (m - i)).getD k z = l.getD (k - 1) z := fun k h3 h4 => by rw [hg, if_pos (by omega)]
 intro p q h3 h4 h5
 by_cases c1 : p < i
 ·rw [g1 p c1]
  by_cases c2 : q < i
  ·rw [g1 q c2]
   exact h _ _ h3 h4 (by omega)
  ·by_cases c3 : q = i
   ·rw [c3, g2]
    rcases hA with hA | hA
    ·omega
    ·exact T.tr (h.le T h3 (by omega : p ≤ i - 1) (by omega)) hA
   ·rw [g3 q (by omega) (by omega)]
    exact h.le T h3 (by omega) (by omega)
 ·by_cases c3 : p = i
  ·rw [c3, g2, g3 q (by omega) (by omega)]
   rcases hB with hB | hB
   ·omega
   ·exact T.tr (T.as hB) (h.le T (by omega) (by omega : i ≤ q - 1) (by omega))
  ·rw [g3 p (by omega) (by omega), g3 q (by omega) (by omega)]
   exact h _ _ (by omega) (by omega) (by omega)
end
section
variable {α κ : Type} [DecidableEq κ] {z : α} {key : α → κ}
def Stb (key : α → κ) (l r : List α) : Prop := ∀ c, r.filter (fun x => decide (key x = c)) = l.filter (fun x => decide (key x = c))
theorem Stb.refl (l : List α) : Stb key l l := fun _ => rfl
theorem Stb.trans {l r s : List α} (h : Stb key l r) (h2 : Stb key r s) : Stb key l s := fun c => (h2 c).trans (h c)
theorem stb_ranges {x u v y : List α} (h : ∀ p ∈ u, ∀ q ∈ v, key p ≠ key q) : Stb key (x ++ u ++ v ++ y) (x ++ v ++ u ++ y) := by
 intro c
 simp only [List.filter_append]
 have : v.filter (fun x => decide (key x = c)) ++ u.filter (fun x => decide (key x = c)) = u.filter (fun x => decide (key x = c)) ++ v.filter (fun x => decide (key x = c)) := by
  by_cases hu : u.filter (fun x => decide (key x = c)) = []
  ·rw [hu]; simp
  ·have hv : v.filter (fun x => decide (key x = c)) = [] := by
    rw [List.filter_eq_nil_iff]
    intro q hq hc
    obtain ⟨p, hp⟩ := List.exists_mem_of_ne_nil _ hu
    rw [List.mem_filter] at hp
    have h1 : key p = c := of_decide_eq_true hp.2
    have h2 : key q = c := of_decide_eq_true hc
    exact h p hp.1 q hq (h1.trans h2.symm)
   rw [hv]; simp
 simp only [List.append_assoc]
 rw [← List.append_assoc (v.filter _), this, List.append_assoc]
theorem getD_ext {l r : List α} (h : l.length = r.length) (hk : ∀ k, k < l.length → l.getD k z = r.getD k z) : l = r := by
 refine List.ext_getElem h (fun i h1 h2 => ?_)
 have := hk i h1
 rwa [List.getD_eq_getElem?_getD, List.getD_eq_getElem?_getD, List.getElem?_eq_getElem h1, List.getElem?_eq_getElem h2] at this
theorem cut4 (l : List α) {a m b : Nat} (h1 : a ≤ m) (h2 : m ≤ b) : l = l.take a ++ (l.take m).drop a ++ (l.take b).drop m ++ l.drop b := by
 have e1 : l.take a ++ (l.take m).drop a = l.take m := by
  have : l.take a = (l.take m).take a := by rw [List.take_take, Nat.min_eq_left h1]
  rw [this, List.take_append_drop]
 have e2 : l.take m ++ (l.take b).drop m = l.take b := by
  have : l.take m = (l.take b).take m := by rw [List.take_take, Nat.min_eq_left h2]
  rw [this, List.take_append_drop]
 rw [e1, e2, List.take_append_drop]
theorem stb_rot {l r : List α} {a m b : Nat} (h1 : a ≤ m) (h2 : m ≤ b) (hb : b ≤ l.length) (hlen : r.length = l.length) (hr : ∀ k, r.getD k z = l.getD (rotAt a m b k) z) (hne : ∀ i j, a ≤ i → i < m → m ≤ j → j < b → key (l.getD i z) ≠ key (l.getD j z)) : Stb key l r := by
 have e : r = l.take a ++ (l.take b).drop m ++ (l.take m).drop a ++ l.drop b := by
  have l1 : (l.take a).length = a := by rw [List.length_take]; omega
  have l2 : ((l.take b).drop m).length = b - m := by rw [List.length_drop, List.length_take]; omega
  have l3 : ((l.take m).drop a).length = m - a := by rw [List.length_drop, List.length_take]; omega
  have l4 : (l.drop b).length = l.length - b := List.length_drop
  refine getD_ext (z := z) (by simp only [List.length_append, l1, l2, l3, l4]; omega) (fun k hk => ?_)
  rw [hr, rotAt]
  simp only [List.getD_eq_getElem?_getD, List.getElem?_append, List.length_append, l1, l2, l3]
  by_cases c1 : k < a
  ·rw [if_neg (by omega), if_neg (by omega), if_pos (by omega), if_pos (by omega), if_pos c1, List.getElem?_take, if_pos c1]
  ·by_cases c2 : k < a + (b - m)
   ·rw [if_pos (by omega), if_pos (by omega), if_pos c2, if_neg c1, List.getElem?_drop, List.getElem?_take, if_pos (by omega)]
   ·by_cases c3 : k < b
    ·rw [if_neg (by omega), if_pos (by omega), if_pos (by omega), if_neg c2, List.getElem?_drop, List.getElem?_take, if_pos (by omega)]
    ·rw [if_neg (by omega), if_neg (by omega), if_neg (by omega), List.getElem?_drop]
     congr 2
     omega
 have e2 := cut4 l h1 h2
 rw [e]
 intro c
 have h3 := stb_ranges (key := key) (x := l.take a) (u := (l.take m).drop a) (v := (l.take b).drop m) (y := l.drop b) (by
  intro p hp q hq
  obtain ⟨i, hi, rfl⟩ := List.mem_iff_getElem.1 hp
  obtain ⟨j, hj, rfl⟩ := List.mem_iff_getElem.1 hq
  rw [List.length_drop, List.length_take] at hi hj
  have h4 := hne (a + i) (m + j) (by omega) (by omega) (by omega) (by omega)
  rw [List.getD_eq_getElem?_getD, List.getD_eq_getElem?_getD, List.getElem?_eq_getElem (by omega), List.getElem?_eq_getElem (by omega)] at h4
  rw [List.getElem_drop, List.getElem_take, List.getElem_drop, List.getElem_take]
  exact h4) c
 rw [← e2] at h3
 exact h3
theorem stb_sw {l : List α} {i : Nat} (hi : i + 1 < l.length) (hne : key (l.getD i z) ≠ key (l.getD (i + 1) z)) : Stb key l (sw z l i (i + 1)) ∧ Stb key l (sw z l (i + 1) i) := by
 have hr : ∀ k, rotAt i (i + 1) (i + 2) k = if k = i then i + 1 else if k = i + 1 then i else k := by
  intro k
  unfold rotAt
  repeat' split
  all_goals omega
 have hx : ∀ p q, i ≤ p → p < i + 1 → i + 1 ≤ q → q < i + 2 → key (l.getD p z) ≠ key (l.getD q z) := by
  intro p q h1 h2 h3 h4
  rw [show p = i by omega, show q = i + 1 by omega]
  exact hne
 refine ⟨stb_rot (a := i) (m := i + 1) (b := i + 2) (by omega) (by omega) (by omega) (sw_len _ _ _) (fun k => ?_) hx, stb_rot (a := i) (m := i + 1) (b := i + 2) (by omega) (by omega) (by omega) (sw_len _ _ _) (fun k => ?_) hx⟩
 ·rw [sw_get l (by omega) (by omega), hr]
  by_cases e1 : k = i + 1
  ·rw [if_pos e1, if_neg (by omega), if_pos e1]
  ·rw [if_neg e1]
   by_cases e2 : k = i
   ·rw [if_pos e2, if_pos e2]
   ·rw [if_neg e2, if_neg e2, if_neg e1]
 ·rw [sw_get l (by omega) (by omega), hr]
  by_cases e2 : k = i
  ·rw [if_pos e2, if_pos e2]
  ·rw [if_neg e2, if_neg e2]
   by_cases e1 : k = i + 1
   ·rw [if_pos e1, if_pos e1]
   ·rw [if_neg e1, if_neg e1]
theorem shr_stb {l : List α} {a : Nat} : ∀ n, a + n < l.length → (∀ k, a < k → k ≤ a + n → key (l.getD a z) ≠ key (l.getD k z)) → Stb key l (shr z l a n)
 | 0, _, _ => Stb.refl l
 | n + 1, h, hne => by
  have ih := shr_stb (l := l) (a := a) n (by omega) (fun k h1 h2 => hne k h1 (by omega))
  have hl : (shr z l a n).length = l.length := (shr_acts (z := z) l (Nat.le_refl _) n (by omega)).len
  have hg := shr_get (z := z) l (a := a) n (by omega)
  refine ih.trans (stb_sw (z := z) (by omega) ?_).1
  rw [hg, hg, if_neg (by omega), if_pos rfl, if_neg (by omega), if_neg (by omega)]
  exact hne _ (by omega) (by omega)
theorem shl_stb {l : List α} {m : Nat} (hm : m < l.length) : ∀ n, n ≤ m → (∀ k, m - n ≤ k → k < m → key (l.getD m z) ≠ key (l.getD k z)) → Stb key l (shl z l m n)
 | 0, _, _ => Stb.refl l
 | n + 1, h, hne => by
  have ih := shl_stb hm n (by omega) (fun k h1 h2 => hne k (by omega) h2)
  have hl : (shl z l m n).length = l.length := (shl_acts (z := z) (a := 0) l (Nat.le_refl _) hm n (by omega)).len
  have hg := shl_get (z := z) l hm n (by omega)
  have e : m - n = m - n - 1 + 1 := by omega
  have h2 := (stb_sw (z := z) (key := key) (l := shl z l m n) (i := m - n - 1) (by omega) (by
   rw [hg, hg, if_neg (by omega), if_neg (by omega), if_neg (by omega), if_pos (by omega)]
   exact (hne _ (by omega) (by omega)).symm)).2
  rw [← e] at h2
  exact ih.trans h2
theorem stb_one {lt : α → α → Prop} (hk : ∀ x y, ¬ lt x y → ¬ lt y x → key x = key y) : ∀ {l r : List α}, Stb key l r → l.Pairwise (fun a b => ¬ lt b a) → r.Pairwise (fun a b => ¬ lt b a) → l = r
 | [], [], _, _, _ => rfl
 | [], y :: r, h, _, _ => by
  have := h (key y)
  simp at this
 | x :: l, [], h, _, _ => by
  have := h (key x)
  simp at this
 | x :: l, y :: r, h, h1, h2 => by
  rw [List.pairwise_cons] at h1 h2
  have hkey : key x = key y := by
   by_cases e : key x = key y
   ·exact e
   ·exfalso
    have hx := h (key x)
    have hy := h (key y)
    have m1 : x ∈ r := by
     have : x ∈ (y :: r).filter (fun w => decide (key w = key x)) := by rw [hx]; simp
     rw [List.mem_filter] at this
     rcases List.mem_cons.1 this.1 with e2 | e2
     ·exact absurd (by rw [e2]) e
     ·exact e2
    have m2 : y ∈ l := by
     have : y ∈ (x :: l).filter (fun w => decide (key w = key y)) := by rw [← hy]; simp
     rw [List.mem_filter] at this
     rcases List.mem_cons.1 this.1 with e2 | e2
     ·exact absurd (by rw [e2]) e
     ·exact e2
    exact e (hk x y (h2.1 x m1) (h1.1 y m2))
  have hx := h (key x)
  rw [List.filter_cons_of_pos (by simp [hkey]), List.filter_cons_of_pos (by simp)] at hx
  have hxy : y = x := (List.cons.inj hx).1
  subst hxy
  have hs : Stb key l r := by
   intro c
   have hc := h c
   by_cases e : key y = c
   ·rw [List.filter_cons_of_pos (by simp [e]), List.filter_cons_of_pos (by simp [e])] at hc
    exact (List.cons.inj hc).2
   ·rw [List.filter_cons_of_neg (by simp [e]), List.filter_cons_of_neg (by simp [e])] at hc
    exact hc
  rw [stb_one hk hs h1.2 h2.2]
end
end Go.Proofs.Ytpefjfibhjnijaa.U
