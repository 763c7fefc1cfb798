/- The pure statement of the law VictimSparse: what the printed functions answer, each by its plain law, and that the law's answer is true. -/
import Derived.Test.YtcjkchjgmgdbgaaPVictimSparsex0
import Derived.Test.YtcjkchjgmgdbgaaPVictimSparsex1
import Derived.Test.YtcjkchjgmgdbgaaPVictimSparsex2
import Derived.Test.YtcjkchjgmgdbgaaPVictimSparsex3
import Derived.Test.YtcjkchjgmgdbgaaPVictimSparsex4
import Derived.Test.YtcjkchjgmgdbgaaPVictimSparsex5
import Derived.Test.YtcjkchjgmgdbgaaPVictimSparsex6
import Derived.Test.YtcjkchjgmgdbgaaStVictimSparse
import Derived.Test.YtcjkchjgmgdbgaaQSz
import Derived.Test.YtcjkchjgmgdbgaaQV02
import Derived.Test.YtcjkchjgmgdbgaaQF09
namespace Go.Proofs.Ytcjkchjgmgdbgaa.Pure
open Go.RowKit Go.Proofs.Ytcjkchjgmgdbgaa.PVictimSparse Go.Proofs.Ytcjkchjgmgdbgaa.U Go.Proofs.YtcjkchjgmgdbgaaW.PrintWords Go.Proofs.YtcjkchjgmgdbgaaW.PrintLast Go.Proofs.YtcjkchjgmgdbgaaW.PrintMore
set_option linter.unusedVariables false
set_option linter.unusedSimpArgs false
set_option maxRecDepth 4000
def prT (p : S132) : Int × Int := (p.f0, p.f1)
def prsT (l : List S132) : List (Int × Int) := l.map prT
theorem prsT_len (l : List S132) : (prsT l).length = l.length := by simp [prsT]
theorem rdT_get {l : List S132} {i : Nat} (h : i < l.length) : rd_T132 l (i : Int) = l[i] := by
  simp [rd_T132, h]
theorem dropT_eq {l : List S132} {i : Nat} (h : i < l.length) : l.drop i = rd_T132 l (i : Int) :: l.drop (i + 1) := by
  rw [rdT_get h]
  exact List.drop_eq_getElem_cons h
theorem rdT_mem {l : List S132} {i : Nat} (h : i < l.length) : prT (rd_T132 l (i : Int)) ∈ prsT l := by
  rw [rdT_get h]
  exact List.mem_map.2 ⟨_, List.getElem_mem _, rfl⟩
theorem rdT_lt {l : List S132} (hs : (prsT l).Pairwise fun a b => a.1 < b.1) {i j : Nat} (hij : i < j) (hj : j < l.length) : (rd_T132 l (i : Int)).f0 < (rd_T132 l (j : Int)).f0 := by
  have := List.pairwise_iff_getElem.1 hs i j (by rw [prsT_len]; omega) (by rw [prsT_len]; omega) hij
  rw [rdT_get (by omega), rdT_get hj]
  simpa [prsT, prT] using this
theorem garnerref09_May_ev (l : List S132) (hl : l.length ≤ 140737488351232) : Ev (fun k => garnerref09_May.f k l) (mayT (prsT l)) := by
  have main : ∀ (d j : Nat) (last : Int), l.length - j = d → j ≤ l.length → 0 ≤ last → (j = 0 → last = 0) → (∀ i : Nat, j = i + 1 → last = (rd_T132 l (i : Int)).f0) → Ev (fun k => garnerref09_May.l0 k l (j : Int)) (decide (l.length ≤ 4096) && sortT last (prsT (l.drop j))) := by
    intro d
    induction d with
    | zero =>
      intro j last hd hj _ _ _
      rw [ev_succ]
      simp only [garnerref09_May.l0, ev_ite]
      rw [if_neg (by omega), ev_some, List.drop_eq_nil_of_le (by omega)]
      have e : sortT last (prsT []) = true := rfl
      rw [e, Bool.and_true, decide_eq_decide]
      omega
    | succ d ih =>
      intro j last hd hj hn h0 hs
      have hjl : j < l.length := by omega
      have ih' := ih (j + 1) (rd_T132 l (j : Int)).f0 (by omega) (by omega)
      have ih' := fun h => ih' h (by omega) (fun i hi => by rw [show i = j by omega])
      have hw : wrap64 ((j : Int) + 1) = ((j + 1 : Nat) : Int) := w64 (by omega) (by omega)
      rw [dropT_eq hjl]
      rw [ev_succ]
      simp only [garnerref09_May.l0, ev_ite, hw]
      generalize rd_T132 l (j : Int) = f at ih' ⊢
      have e2 : sortT last (prsT (f :: l.drop (j + 1))) = (decide (last < f.f0 ∧ f.f0 ≤ 2147483647 ∧ 1 ≤ f.f1 ∧ f.f1 ≤ 1099511627776) && sortT f.f0 (prsT (l.drop (j + 1)))) := rfl
      have no : ¬ (last < f.f0 ∧ f.f0 ≤ 2147483647 ∧ 1 ≤ f.f1 ∧ f.f1 ≤ 1099511627776) → false = (decide (l.length ≤ 4096) && sortT last (prsT (f :: l.drop (j + 1)))) := by
        intro h
        rw [e2, decide_eq_false h, Bool.false_and, Bool.and_false]
      have yes : (last < f.f0 ∧ f.f0 ≤ 2147483647 ∧ 1 ≤ f.f1 ∧ f.f1 ≤ 1099511627776) → (decide (l.length ≤ 4096) && sortT f.f0 (prsT (l.drop (j + 1)))) = (decide (l.length ≤ 4096) && sortT last (prsT (f :: l.drop (j + 1)))) := by
        intro h
        rw [e2, decide_eq_true h, Bool.true_and]
      rw [if_pos (by omega), if_pos (by omega)]
      by_cases h1 : f.f0 < 1
      · rw [if_pos h1, ev_some]; exact no (by omega)
      rw [if_neg h1]
      by_cases h2 : f.f0 > 2147483647
      · rw [if_pos h2, ev_some]; exact no (by omega)
      rw [if_neg h2]
      by_cases h3 : f.f1 < 1
      · rw [if_pos h3, ev_some]; exact no (by omega)
      rw [if_neg h3]
      by_cases h4 : f.f1 > 1099511627776
      · rw [if_pos h4, ev_some]; exact no (by omega)
      rw [if_neg h4]
      by_cases hj0 : j = 0
      · rw [if_neg (by omega)]
        exact ev_eq (ih' (by omega)) (yes (by have := h0 hj0; omega))
      · have hp := hs (j - 1) (by omega)
        have e : wrap64 ((j : Int) - 1) = ((j - 1 : Nat) : Int) := by
          rw [w64 (by omega) (by omega)]
          omega
        rw [if_pos (by omega), e, if_pos (by omega), if_pos (by omega), ← hp]
        by_cases h5 : f.f0 ≤ last
        · rw [if_pos h5, ev_some]; exact no (by omega)
        · rw [if_neg h5]
          exact ev_eq (ih' (by omega)) (yes (by omega))
  have := main (l.length - 0) 0 0 rfl (by omega) (by omega) (fun _ => rfl) (fun i hi => by omega)
  unfold mayT
  rw [prsT_len]
  exact this
theorem sortV_step {last : Int} {x y : List Int} {j : Nat} (hx : j < x.length) (hy : j < y.length) : sortV last (x.drop j) (y.drop j) = (decide (last < rd x (j : Int) ∧ rd x (j : Int) ≤ 2147483647 ∧ 0 ≤ rd y (j : Int) ∧ rd y (j : Int) ≤ 4194304) && sortV (rd x (j : Int)) (x.drop (j + 1)) (y.drop (j + 1))) := by
  rw [drop_eq hx, drop_eq hy, sortV]
theorem garnerref29_May_l0_ev (x y : List Int) (h : x.length = y.length) (hx : x.length ≤ 140737488351232) : ∀ (d j : Nat) (last : Int), x.length - j = d → j ≤ x.length → 0 ≤ last → (j = 0 → last = 0) → (∀ i : Nat, j = i + 1 → last = rd x (i : Int)) → Ev (fun k => garnerref29_May.l0 k x y (j : Int)) (sortV last (x.drop j) (y.drop j)) := by
  intro d
  induction d with
  | zero =>
    intro j last hd hj _ _ _
    rw [ev_succ]
    simp only [garnerref29_May.l0, ev_ite]
    rw [if_neg (by omega), ev_some, List.drop_eq_nil_of_le (show x.length ≤ j by omega)]
    rfl
  | succ d ih =>
    intro j last hd hj hn h0 hs
    have hw : wrap64 ((j : Int) + 1) = ((j + 1 : Nat) : Int) := w64 (by omega) (by omega)
    have ih' := ih (j + 1) (rd x (j : Int)) (by omega) (by omega)
    have ih' := fun h => ih' h (by omega) (fun i hi => by rw [show i = j by omega])
    rw [sortV_step (by omega) (by omega)]
    rw [ev_succ]
    simp only [garnerref29_May.l0, ev_ite, hw]
    generalize hA : rd x (j : Int) = A at ih' ⊢
    generalize rd y (j : Int) = B
    generalize sortV A (x.drop (j + 1)) (y.drop (j + 1)) = R at ih' ⊢
    have no : ¬ (last < A ∧ A ≤ 2147483647 ∧ 0 ≤ B ∧ B ≤ 4194304) → false = (decide (last < A ∧ A ≤ 2147483647 ∧ 0 ≤ B ∧ B ≤ 4194304) && R) := by
      intro h
      rw [decide_eq_false h, Bool.false_and]
    have yes : (last < A ∧ A ≤ 2147483647 ∧ 0 ≤ B ∧ B ≤ 4194304) → R = (decide (last < A ∧ A ≤ 2147483647 ∧ 0 ≤ B ∧ B ≤ 4194304) && R) := by
      intro h
      rw [decide_eq_true h, Bool.true_and]
    rw [if_pos (by omega), if_pos (by omega)]
    by_cases h1 : A < 1
    · rw [if_pos h1, ev_some]; exact no (by omega)
    rw [if_neg h1]
    by_cases h2 : A > 2147483647
    · rw [if_pos h2, ev_some]; exact no (by omega)
    rw [if_neg h2, if_pos (by omega)]
    by_cases h3 : B < 0
    · rw [if_pos h3, ev_some]; exact no (by omega)
    rw [if_neg h3]
    by_cases h4 : B > 4194304
    · rw [if_pos h4, ev_some]; exact no (by omega)
    rw [if_neg h4]
    by_cases hj0 : j = 0
    · rw [if_neg (by omega)]
      exact ev_eq (ih' (by omega)) (yes (by have := h0 hj0; omega))
    · have hp := hs (j - 1) (by omega)
      have e : wrap64 ((j : Int) - 1) = ((j - 1 : Nat) : Int) := by
        rw [w64 (by omega) (by omega)]
        omega
      rw [if_pos (by omega), e, if_pos (by omega), if_pos (by omega), ← hp]
      by_cases h5 : A ≤ last
      · rw [if_pos h5, ev_some]; exact no (by omega)
      · rw [if_neg h5]
        exact ev_eq (ih' (by omega)) (yes (by omega))
theorem garnerref29_May_ev (x y : List Int) (l : List S132) (p : Int) (hx : x.length ≤ 140737488351232) (hl : l.length ≤ 140737488351232) : Ev (fun k => garnerref29_May.f k x y l p) (mayV x y (prsT l) p) := by
  have bad : headV x y (prsT l) p = false → Ev (fun k => garnerref29_May.j0 k x y true) (mayV x y (prsT l) p) := by
    intro h
    unfold mayV
    rw [h, Bool.false_and, ev_succ]
    simp only [garnerref29_May.j0, ev_ite]
    rw [if_pos (by trivial), ev_some]
  have hh : ¬ (x.length = y.length ∧ x.length ≤ 64 ∧ 1 ≤ p ∧ p ≤ 100) → headV x y (prsT l) p = false := by
    intro h
    unfold headV
    rw [decide_eq_false h, Bool.false_and]
  simp only [garnerref29_May.f, ev_ite]
  by_cases h1 : x.length = y.length
  · rw [if_pos (by omega)]
    by_cases h2 : x.length > 64
    · rw [if_pos (by omega)]; exact bad (hh (by omega))
    rw [if_neg (by omega)]
    by_cases h3 : p < 1
    · rw [if_pos h3]; exact bad (hh (by omega))
    rw [if_neg h3]
    by_cases h4 : p > 100
    · rw [if_pos h4]; exact bad (hh (by omega))
    rw [if_neg h4, ev_bind (garnerref09_May_ev l hl)]
    by_cases h5 : mayT (prsT l) = true
    · have : headV x y (prsT l) p = true := by
        unfold headV
        rw [h5, decide_eq_true ⟨h1, by omega, by omega, by omega⟩]
        rfl
      unfold mayV
      rw [h5, this, Bool.true_and, ev_succ]
      simp only [garnerref29_May.j0, ev_ite]
      rw [if_neg (by simp)]
      exact garnerref29_May_l0_ev x y h1 hx (x.length - 0) 0 0 rfl (by omega) (by omega) (fun _ => rfl) (fun i hi => by omega)
    · have h6 : mayT (prsT l) = false := by simpa using h5
      rw [h6]
      refine bad ?_
      unfold headV
      rw [h6, Bool.and_false]
  · rw [if_neg (by omega)]
    exact bad (hh (by omega))
theorem tally_Check_ev (l : List S132) (hl : l.length ≤ 140737488351232) : Ev (fun k => tally_Check.f k l) (if mayT (prsT l) = true then 0 else 1) := by
  have main : ∀ (d j : Nat) (last : Int), l.length - j = d → j ≤ l.length → Ev (fun k => tally_Check.l0 k last l (l.length : Int) (j : Int)) (if sortT last (prsT (l.drop j)) = true then (0 : Int) else 1) := by
    intro d
    induction d with
    | zero =>
      intro j last hd hj
      rw [ev_succ]
      simp only [tally_Check.l0, ev_ite]
      rw [if_neg (by omega), ev_some, List.drop_eq_nil_of_le (by omega)]
      rfl
    | succ d ih =>
      intro j last hd hj
      have hjl : j < l.length := by omega
      have ih' := ih (j + 1) (rd_T132 l (j : Int)).f0 (by omega) (by omega)
      have hw : wrap64 ((j : Int) + 1) = ((j + 1 : Nat) : Int) := w64 (by omega) (by omega)
      rw [dropT_eq hjl]
      rw [ev_succ]
      simp only [tally_Check.l0, ev_ite, hw]
      generalize rd_T132 l (j : Int) = f at ih' ⊢
      have e2 : sortT last (prsT (f :: l.drop (j + 1))) = (decide (last < f.f0 ∧ f.f0 ≤ 2147483647 ∧ 1 ≤ f.f1 ∧ f.f1 ≤ 1099511627776) && sortT f.f0 (prsT (l.drop (j + 1)))) := rfl
      have no : ¬ (last < f.f0 ∧ f.f0 ≤ 2147483647 ∧ 1 ≤ f.f1 ∧ f.f1 ≤ 1099511627776) → (1 : Int) = (if sortT last (prsT (f :: l.drop (j + 1))) = true then 0 else 1) := by
        intro h
        rw [e2, decide_eq_false h, Bool.false_and, if_neg (by simp)]
      rw [if_pos (by omega), if_pos (by omega), if_pos (by omega)]
      by_cases h1 : f.f0 ≤ last
      · rw [if_pos h1, ev_some]; exact no (by omega)
      rw [if_neg h1]
      by_cases h2 : f.f0 > 2147483647
      · rw [if_pos h2, ev_some]; exact no (by omega)
      rw [if_neg h2]
      by_cases h3 : f.f1 < 1
      · rw [if_pos h3, ev_some]; exact no (by omega)
      rw [if_neg h3]
      by_cases h4 : f.f1 > 1099511627776
      · rw [if_pos h4, ev_some]; exact no (by omega)
      rw [if_neg h4]
      refine ev_eq ih' ?_
      rw [e2, decide_eq_true (by omega), Bool.true_and]
  simp only [tally_Check.f, ev_ite]
  unfold mayT
  rw [prsT_len]
  by_cases h : l.length > 4096
  · rw [if_pos (by omega), ev_some, decide_eq_false (by omega), Bool.false_and, if_neg (by simp)]
  · rw [if_neg (by omega), decide_eq_true (by omega), Bool.true_and]
    exact main (l.length - 0) 0 0 rfl (by omega)
theorem tally_find_1_ev (a b s : Int) : tally_find_1.f a b s = some (if a < s then -1 else if a > s then 1 else 0) := by
  have e : ∀ x : Int, cmp_isNaN_int.f x = some false := fun x => by
    unfold cmp_isNaN_int.f
    simp
  unfold tally_find_1.f cmp_Compare_int.f
  rw [e, e]
  simp only [Option.bind_some]
  rw [if_neg (by simp), if_neg (by simp)]
  repeat' split
  all_goals rfl
theorem slices_BinarySearchFunc_api_Share_int_ev (l : List S132) (s : Int) (hl : l.length ≤ 4096) (hs : (prsT l).Pairwise fun a b => a.1 < b.1) :
    ∃ i : Nat, i ≤ l.length ∧ (∀ j : Nat, j < i → (rd_T132 l (j : Int)).f0 < s) ∧ (∀ j : Nat, i ≤ j → j < l.length → s ≤ (rd_T132 l (j : Int)).f0) ∧ Ev (fun k => slices_BinarySearchFunc_api_Share_int.f k l s) ((i : Int), decide (i < l.length ∧ (rd_T132 l (i : Int)).f0 = s)) := by
  have main : ∀ (d lo hi : Nat), hi - lo ≤ d → lo ≤ hi → hi ≤ l.length → (∀ j : Nat, j < lo → (rd_T132 l (j : Int)).f0 < s) → (∀ j : Nat, hi ≤ j → j < l.length → s ≤ (rd_T132 l (j : Int)).f0) →
      ∃ i : Nat, i ≤ l.length ∧ (∀ j : Nat, j < i → (rd_T132 l (j : Int)).f0 < s) ∧ (∀ j : Nat, i ≤ j → j < l.length → s ≤ (rd_T132 l (j : Int)).f0) ∧ Ev (fun k => slices_BinarySearchFunc_api_Share_int.l0 k l s (l.length : Int) (lo : Int) (hi : Int)) ((i : Int), decide (i < l.length ∧ (rd_T132 l (i : Int)).f0 = s)) := by
    intro d
    induction d with
    | zero =>
      intro lo hi hd h1 h2 h3 h4
      obtain rfl : lo = hi := by omega
      refine ⟨lo, h2, h3, h4, ?_⟩
      rw [ev_succ]
      simp only [slices_BinarySearchFunc_api_Share_int.l0, ev_ite]
      rw [if_neg (by omega)]
      by_cases hn : lo < l.length
      · have := h4 lo (by omega) hn
        rw [if_pos (by omega), if_pos (by omega), if_pos (by omega), ev_bind_c (tally_find_1_ev _ _ _), ev_some]
        congr 1
        rw [if_neg (by omega)]
        by_cases he : (rd_T132 l (lo : Int)).f0 = s
        · rw [if_neg (by omega), decide_eq_true ⟨hn, he⟩]
          rfl
        · rw [if_pos (by omega), decide_eq_false (fun h => he h.2)]
          rfl
      · rw [if_neg (by omega), ev_some, decide_eq_false (fun h => hn h.1)]
    | succ d ih =>
      intro lo hi hd h1 h2 h3 h4
      by_cases hlt : lo < hi
      · have em : wrap64 (IntKind.u64.wrap (wrap64 ((lo : Int) + (hi : Int))) / 2) = (((lo + hi) / 2 : Nat) : Int) := by
          rw [w64 (x := (lo : Int) + (hi : Int)) (by omega) (by omega), wu64 (by omega) (by omega), w64 (by omega) (by omega)]
          omega
        have e1 : wrap64 ((((lo + hi) / 2 : Nat) : Int) + 1) = (((lo + hi) / 2 + 1 : Nat) : Int) := by
          rw [w64 (by omega) (by omega)]
          rfl
        generalize hm : (lo + hi) / 2 = m at em e1
        have hmr : lo ≤ m ∧ m < hi := by omega
        by_cases hc : (rd_T132 l (m : Int)).f0 < s
        · obtain ⟨i, i1, i2, i3, i4⟩ := ih (m + 1) hi (by omega) (by omega) h2 (by
            intro j hj
            by_cases hjm : j = m
            · rw [hjm]; exact hc
            · have := rdT_lt hs (i := j) (j := m) (by omega) (by omega)
              omega) h4
          refine ⟨i, i1, i2, i3, ?_⟩
          rw [ev_succ]
          simp only [slices_BinarySearchFunc_api_Share_int.l0, ev_ite, em, e1]
          rw [if_pos (by omega), if_pos (by omega), if_pos (by omega), ev_bind_c (tally_find_1_ev _ _ _), ev_ite, if_pos (by rw [if_pos hc]; omega)]
          exact i4
        · obtain ⟨i, i1, i2, i3, i4⟩ := ih lo m (by omega) (by omega) (by omega) h3 (by
            intro j hj hjl
            by_cases hjm : j = m
            · rw [hjm]; omega
            · have := rdT_lt hs (i := m) (j := j) (by omega) hjl
              omega)
          refine ⟨i, i1, i2, i3, ?_⟩
          rw [ev_succ]
          simp only [slices_BinarySearchFunc_api_Share_int.l0, ev_ite, em, e1]
          rw [if_pos (by omega), if_pos (by omega), if_pos (by omega), ev_bind_c (tally_find_1_ev _ _ _), ev_ite, if_neg (by rw [if_neg hc]; split <;> omega)]
          exact i4
      · exact ih lo hi (by omega) h1 h2 h3 h4
  exact main l.length 0 l.length (by omega) (by omega) (by omega) (fun j hj => by omega) (fun j h1 h2 => by omega)
theorem tally_Get_ev {l : List S132} (h : mayT (prsT l) = true) (s : Int) : Ev (fun k => tally_Get.f k l s) (getT (prsT l) s) := by
  obtain ⟨h1, h2⟩ := mayT_iff.1 h
  rw [prsT_len] at h1
  have hs := sortT_pair h2
  have hc := tally_Check_ev l (by omega)
  rw [if_pos h] at hc
  obtain ⟨i, i1, i2, i3, i4⟩ := slices_BinarySearchFunc_api_Share_int_ev l s h1 hs
  have hf : Ev (fun k => tally_find.f k l s) ((i : Int), decide (i < l.length ∧ (rd_T132 l (i : Int)).f0 = s)) := by
    simp only [tally_find.f]
    rw [ev_bind i4, ev_some]
  simp only [tally_Get.f]
  rw [ev_bind hc, ev_ite, if_pos (by trivial), ev_bind hf, ev_ite]
  by_cases he : i < l.length ∧ (rd_T132 l (i : Int)).f0 = s
  · rw [if_pos (by simpa using he), ev_ite, if_pos (by omega), ev_ite, if_pos (by omega), ev_some]
    exact (getT_mem hs (rdT_mem he.1) he.2).symm
  · rw [if_neg (by simpa using he), ev_some]
    refine (getT_none ?_).symm
    intro p hp hps
    obtain ⟨x, hx, rfl⟩ := List.mem_map.1 hp
    obtain ⟨j, hj, rfl⟩ := List.mem_iff_getElem.1 hx
    have hr := rdT_get hj
    have hps' : (rd_T132 l (j : Int)).f0 = s := by rw [hr]; exact hps
    by_cases hji : j < i
    · have := i2 j hji
      omega
    · by_cases hij : i = j
      · subst hij
        exact he ⟨hj, hps'⟩
      · have h5 := i3 i (by omega) (by omega)
        have h6 := rdT_lt hs (i := i) (j := j) (by omega) hj
        omega
theorem victim_may_ev {x y : List Int} {l : List S132} {p : Int} (h : mayV x y (prsT l) p = true) : Ev (fun k => victim_may.f k x y l p) true := by
  obtain ⟨⟨⟨h1, h2, h3, h4⟩, h5⟩, h6⟩ := mayV_iff.1 h
  have hl := (mayT_iff.1 h5).1
  rw [prsT_len] at hl
  have main : ∀ (d j : Nat) (last : Int), x.length - j = d → j ≤ x.length → sortV last (x.drop j) (y.drop j) = true → Ev (fun k => victim_may.l0 k y last x (x.length : Int) (j : Int)) true := by
    intro d
    induction d with
    | zero =>
      intro j last hd hj _
      rw [ev_succ]
      simp only [victim_may.l0, ev_ite]
      rw [if_neg (by omega), ev_some]
    | succ d ih =>
      intro j last hd hj hs
      have hw : wrap64 ((j : Int) + 1) = ((j + 1 : Nat) : Int) := w64 (by omega) (by omega)
      rw [sortV_step (by omega) (by omega), Bool.and_eq_true, decide_eq_true_eq] at hs
      obtain ⟨hs1, hs2⟩ := hs
      rw [ev_succ]
      simp only [victim_may.l0, ev_ite, hw]
      rw [if_pos (by omega), if_pos (by omega), if_pos (by omega), if_neg (by omega), if_neg (by omega), if_pos (by omega), if_neg (by omega), if_neg (by omega)]
      exact ih (j + 1) _ (by omega) (by omega) hs2
  have hc := tally_Check_ev l (by omega)
  rw [if_pos h5] at hc
  simp only [victim_may.f, ev_ite]
  rw [if_pos (by omega), if_neg (by omega), if_neg (by omega), if_neg (by omega), ev_bind hc, ev_succ]
  simp only [victim_may.j0, ev_ite]
  rw [if_neg (by simp)]
  exact main (x.length - 0) 0 0 rfl (by omega) h6
theorem victim_places_ev {x y : List Int} {l : List S132} {p : Int} (h : mayV x y (prsT l) p = true) : Ev (fun k => victim_places.f k x y l p) (placesV x y (prsT l) p 0 (x.length - 1)) := by
  obtain ⟨⟨⟨h1, h2, h3, h4⟩, h5⟩, h6⟩ := mayV_iff.1 h
  have main : ∀ (d j : Nat) (acc : List Int), x.length - 1 - j = d → acc.length ≤ j → Ev (fun k => victim_places.l0 k x y l p acc (wrap64 ((x.length : Int) - 1)) (j : Int)) (acc ++ placesV x y (prsT l) p j d) := by
    have w0 : wrap64 ((x.length : Int) - 1) = (x.length : Int) - 1 := w64 (by omega) (by omega)
    intro d
    induction d with
    | zero =>
      intro j acc hd ha
      rw [ev_succ]
      simp only [victim_places.l0, ev_ite, w0]
      rw [if_neg (by omega), ev_some]
      simp [placesV]
    | succ d ih =>
      intro j acc hd ha
      have hw : wrap64 ((j : Int) + 1) = ((j + 1 : Nat) : Int) := w64 (by omega) (by omega)
      have hsz := sortV_size h6 j (by omega)
      have hr := getT_range h5 (rd x (j : Int))
      rw [placesV, ev_succ]
      simp only [victim_places.l0, ev_ite, hw]
      rw [if_pos (by rw [w0]; omega), if_pos (by omega), if_pos (by omega)]
      unfold sparseV liveV
      by_cases h0 : rd y (j : Int) = 0
      · rw [if_pos h0, if_pos (by omega), if_pos (by rw [decide_eq_true_eq]; exact .inl h0)]
        refine ev_eq (ih (j + 1) (acc ++ [(j : Int)]) (by omega) (by rw [List.length_append, List.length_singleton]; omega)) ?_
        rw [List.append_assoc, List.singleton_append]
      · have hb : 0 ≤ p * rd y (j : Int) ∧ p * rd y (j : Int) ≤ 419430400 := by
          refine ⟨Int.mul_nonneg (by omega) hsz.1, ?_⟩
          have h7 := Int.mul_le_mul_of_nonneg_right h4 hsz.1
          omega
        rw [if_neg h0, if_pos (by omega), ev_bind (tally_Get_ev h5 _), ev_ite, w64 (by omega) (by omega), w64 (x := p * rd y (j : Int)) (by omega) (by omega)]
        by_cases hc : 100 * getT (prsT l) (rd x (j : Int)) < p * rd y (j : Int)
        · rw [if_pos hc, ev_ite, if_pos (by omega), if_pos (by rw [decide_eq_true_eq]; exact .inr hc)]
          refine ev_eq (ih (j + 1) (acc ++ [(j : Int)]) (by omega) (by rw [List.length_append, List.length_singleton]; omega)) ?_
          rw [List.append_assoc, List.singleton_append]
        · rw [if_neg hc, if_neg (by rw [decide_eq_true_eq]; rintro (h | h); exact h0 h; exact hc h)]
          exact ih (j + 1) acc (by omega) (by omega)
  simp only [victim_places.f]
  rw [ev_bind (victim_may_ev h), ev_ite, if_pos (by trivial)]
  exact main (x.length - 1) 0 [] (by omega) (by simp)
theorem victim_part_ev {x y : List Int} {l : List S132} {p : Int} (h : mayV x y (prsT l) p = true) {a : Int} (h0 : 0 ≤ a) (ha : a < (x.length : Int)) : Ev (fun k => victim_part.f k x y l a) (partV x y (prsT l) a) := by
  obtain ⟨⟨⟨h1, h2, h3, h4⟩, h5⟩, h6⟩ := mayV_iff.1 h
  simp only [victim_part.f, ev_ite]
  unfold partV
  rw [if_pos h0, if_pos (by omega)]
  by_cases hz : rd y a = 0
  · rw [if_pos hz, if_pos hz, ev_some]
  · rw [if_neg hz, if_neg hz, if_pos (by omega), ev_bind (tally_Get_ev h5 _), ev_some]
theorem partV_range {x y : List Int} {l : List S132} {p : Int} (h : mayV x y (prsT l) p = true) {a : Int} (h0 : 0 ≤ a) (ha : a < (x.length : Int)) : 0 ≤ (partV x y (prsT l) a).1 ∧ (partV x y (prsT l) a).1 ≤ 1099511627776 ∧ 1 ≤ (partV x y (prsT l) a).2 ∧ (partV x y (prsT l) a).2 ≤ 4194304 := by
  obtain ⟨⟨⟨h1, h2, h3, h4⟩, h5⟩, h6⟩ := mayV_iff.1 h
  have hr := getT_range h5 (rd x a)
  have hsz := sortV_size h6 a.toNat (by omega)
  rw [Int.toNat_of_nonneg h0] at hsz
  unfold partV
  split
  · simp
  · simp only
    omega
theorem victim_Pick_l0_ev {x y : List Int} {l : List S132} {p : Int} (h : mayV x y (prsT l) p = true) (r : List Int) (hr : ∀ a ∈ r, 0 ≤ a ∧ a < (x.length : Int)) (hrl : r.length ≤ 64) : ∀ (d j : Nat) (b : Int), r.length - j = d → j ≤ r.length → 0 ≤ b → b < (x.length : Int) →
    Ev (fun k => victim_Pick.l0 k x y l b r (r.length : Int) (j : Int)) (rd x (bestV x y (prsT l) b (r.drop j)), true) := by
  intro d
  induction d with
  | zero =>
    intro j b hd hj hb0 hb1
    rw [ev_succ]
    simp only [victim_Pick.l0, ev_ite]
    rw [if_neg (by omega), if_pos hb0, if_pos hb1, ev_some, List.drop_eq_nil_of_le (by omega), bestV]
  | succ d ih =>
    intro j b hd hj hb0 hb1
    have hw : wrap64 ((j : Int) + 1) = ((j + 1 : Nat) : Int) := w64 (by omega) (by omega)
    have ha := hr _ (rd_mem (xs := r) (i := (j : Int)) (by omega) (by omega))
    rw [drop_eq (by omega), bestV, ev_succ]
    simp only [victim_Pick.l0, ev_ite, hw]
    generalize rd r (j : Int) = a at ha ⊢
    have r1 := partV_range h ha.1 ha.2
    have r2 := partV_range h hb0 hb1
    rw [if_pos (by omega), if_pos (by omega), if_pos (by omega), ev_bind (victim_part_ev h ha.1 ha.2), ev_bind (victim_part_ev h hb0 hb1), ev_ite]
    have bound : ∀ {u v : Int}, 0 ≤ u → u ≤ 1099511627776 → 1 ≤ v → v ≤ 4194304 → 0 ≤ u * v ∧ u * v ≤ 4611686018427387904 := by
      intro u v h1 h2 h3 h4
      refine ⟨Int.mul_nonneg h1 (by omega), ?_⟩
      have h5 := Int.mul_le_mul_of_nonneg_right h2 (show 0 ≤ v by omega)
      omega
    have b1 := bound r1.1 r1.2.1 r2.2.2.1 r2.2.2.2
    have b2 := bound r2.1 r2.2.1 r1.2.2.1 r1.2.2.2
    rw [w64 (x := (partV x y (prsT l) a).1 * (partV x y (prsT l) b).2) (by omega) (by omega), w64 (x := (partV x y (prsT l) b).1 * (partV x y (prsT l) a).2) (by omega) (by omega)]
    by_cases hc : lessV x y (prsT l) a b
    · have hc' : (partV x y (prsT l) a).1 * (partV x y (prsT l) b).2 < (partV x y (prsT l) b).1 * (partV x y (prsT l) a).2 := hc
      rw [if_pos hc', if_pos hc]
      exact ih (j + 1) a (by omega) (by omega) ha.1 ha.2
    · have hc' : ¬ (partV x y (prsT l) a).1 * (partV x y (prsT l) b).2 < (partV x y (prsT l) b).1 * (partV x y (prsT l) a).2 := hc
      rw [if_neg hc', if_neg hc]
      exact ih (j + 1) b (by omega) (by omega) hb0 hb1
theorem victim_Pick_ev {x y : List Int} {l : List S132} {p : Int} (h : mayV x y (prsT l) p = true) : Ev (fun k => victim_Pick.f k x y l p) (match pickV x y (prsT l) p with | none => (0, false) | some b => (rd x b, true)) := by
  have hlen : x.length ≤ 64 := (mayV_iff.1 h).1.1.2.1
  have hmem : ∀ a ∈ placesV x y (prsT l) p 0 (x.length - 1), 0 ≤ a ∧ a < (x.length : Int) := by
    intro a ha
    obtain ⟨i, h1, h2, h3, _⟩ := placesV_mem.1 ha
    omega
  have hpl := @placesV_len x y (prsT l) p (x.length - 1) 0
  simp only [victim_Pick.f]
  rw [ev_bind (victim_places_ev h), ev_ite]
  unfold pickV
  cases hL : placesV x y (prsT l) p 0 (x.length - 1) with
  | nil =>
    simp only
    rw [if_pos (by simp), ev_some]
  | cons b r =>
    rw [hL] at hmem hpl
    rw [List.length_cons] at hpl
    have hb := hmem b (by simp)
    simp only [ev_ite, List.length_cons, Option.bind_some, List.drop_succ_cons, List.drop_zero]
    have e : rd (b :: r) 0 = b := rfl
    rw [if_neg (by omega), if_pos (by omega), if_pos (by omega), e]
    exact victim_Pick_l0_ev h r (fun a ha => hmem a (by simp [ha])) (by omega) (r.length - 0) 0 b rfl (by omega) hb.1 hb.2
theorem garnerlaw29_awake_ev : Ev (fun k => garnerlaw29_awake.f k) true := Ev.of (fun k => garnerlaw29_awake.mono k) (k := 60) (by decide +kernel)
theorem garnerref15_Has_ev (l : List Int) (s : Int) (hl : l.length ≤ 140737488351232) : Ev (fun k => garnerref15_Has.f k l s) (decide (s ∈ l)) := by
  have main : ∀ (d j : Nat), l.length - j = d → j ≤ l.length → Ev (fun k => garnerref15_Has.l0 k l s (j : Int)) (decide (s ∈ l.drop j)) := by
    intro d
    induction d with
    | zero =>
      intro j hd hj
      rw [ev_succ]
      simp only [garnerref15_Has.l0, ev_ite]
      rw [if_neg (by omega), ev_some, List.drop_eq_nil_of_le (by omega)]
      simp
    | succ d ih =>
      intro j hd hj
      have hw : wrap64 ((j : Int) + 1) = ((j + 1 : Nat) : Int) := w64 (by omega) (by omega)
      rw [drop_eq (by omega), ev_succ]
      simp only [garnerref15_Has.l0, ev_ite, hw]
      rw [if_pos (by omega), if_pos (by omega)]
      by_cases h : rd l (j : Int) = s
      · rw [if_pos h, ev_some]
        simp [h]
      · rw [if_neg h]
        refine ev_eq (ih (j + 1) (by omega) (by omega)) ?_
        have h' : ¬ s = rd l (j : Int) := fun e => h e.symm
        simp [h']
  exact main (l.length - 0) 0 rfl (by omega)
theorem victim_Sparse_ev {x y : List Int} {l : List S132} {p : Int} (h : mayV x y (prsT l) p = true) : Ev (fun k => victim_Sparse.f k x y l p) ((placesV x y (prsT l) p 0 (x.length - 1)).map (rd x)) := by
  have hlen : x.length ≤ 64 := (mayV_iff.1 h).1.1.2.1
  have hmem : ∀ a ∈ placesV x y (prsT l) p 0 (x.length - 1), 0 ≤ a ∧ a < (x.length : Int) := by
    intro a ha
    obtain ⟨i, h1, h2, h3, _⟩ := placesV_mem.1 ha
    omega
  have hpl := @placesV_len x y (prsT l) p (x.length - 1) 0
  simp only [victim_Sparse.f]
  rw [ev_bind (victim_places_ev h)]
  generalize placesV x y (prsT l) p 0 (x.length - 1) = r at hmem hpl ⊢
  have main : ∀ (d j : Nat) (acc : List Int), r.length - j = d → j ≤ r.length → acc.length ≤ j → Ev (fun k => victim_Sparse.l0 k x acc r (r.length : Int) (j : Int)) (acc ++ (r.drop j).map (rd x)) := by
    intro d
    induction d with
    | zero =>
      intro j acc hd hj ha
      rw [ev_succ]
      simp only [victim_Sparse.l0, ev_ite]
      rw [if_neg (by omega), ev_some, List.drop_eq_nil_of_le (by omega)]
      simp
    | succ d ih =>
      intro j acc hd hj ha
      have hw : wrap64 ((j : Int) + 1) = ((j + 1 : Nat) : Int) := w64 (by omega) (by omega)
      have hm := hmem _ (rd_mem (xs := r) (i := (j : Int)) (by omega) (by omega))
      rw [drop_eq (by omega), ev_succ]
      simp only [victim_Sparse.l0, ev_ite, hw]
      rw [if_pos (by omega), if_pos (by omega), if_pos (by omega), if_pos (by omega), if_pos (by omega), if_pos (by omega)]
      refine ev_eq (ih (j + 1) (acc ++ [rd x (rd r (j : Int))]) (by omega) (by omega) (by rw [List.length_append, List.length_singleton]; omega)) ?_
      simp
  exact main (r.length - 0) 0 [] rfl (by omega) (by simp)
theorem VictimSparse : StVictimSparse.Pure := by
  intro x y l p a _ hx hxw _ hy hyw _ hl hg hp ha
  have ha := wf_u8 ha
  have hp := wf_i64 hp
  refine Ev.rounds (g := fun k => garnerlaw29_VictimSparse.f k x y l p a) ?_
  have fin : Ev (fun k => (garnerlaw29_awake.f k).bind fun t => some t) true := by rw [ev_bind garnerlaw29_awake_ev, ev_some]
  have hno : Ev (fun k => garnerlaw29_VictimSparse.j0 k a true x y l p) true := by
    rw [ev_succ]
    simp only [garnerlaw29_VictimSparse.j0, ev_ite]
    rw [if_pos (by trivial)]
    exact fin
  simp only [garnerlaw29_VictimSparse.f, ev_ite]
  by_cases c1 : x.length > 30
  · rw [if_pos (by omega)]; exact hno
  rw [if_neg (by omega)]
  by_cases c2 : y.length > 30
  · rw [if_pos (by omega)]; exact hno
  rw [if_neg (by omega)]
  by_cases c3 : l.length > 60
  · rw [if_pos (by omega)]; exact hno
  rw [if_neg (by omega), ev_bind (garnerref29_May_ev x y l p (by omega) (by omega))]
  by_cases hm : mayV x y (prsT l) p = true
  · obtain ⟨⟨⟨h1, h2, h3, h4⟩, h5⟩, h6⟩ := mayV_iff.1 hm
    have hsz : ∀ b ∈ y, 0 ≤ b := by
      intro b hb
      obtain ⟨j, hj, rfl⟩ := List.mem_iff_getElem.1 hb
      have := (sortV_size h6 j (by omega)).1
      rwa [rd_get hj] at this
    have hpk := victim_Pick_ev hm
    have w1 : wrap64 (101 - p) = 101 - p := w64 (by omega) (by omega)
    have e0 : Int.tmod (wrap64 a) (101 - p) = a % (101 - p) := by rw [w64 (by omega) (by omega), Int.tmod_eq_emod_of_nonneg (by omega)]
    have m1 := Int.emod_nonneg a (b := 101 - p) (by omega)
    have m2 := Int.emod_lt_of_pos a (b := 101 - p) (by omega)
    rw [hm, ev_succ]
    simp only [garnerlaw29_VictimSparse.j0, ev_ite, w1, e0]
    generalize a % (101 - p) = r at m1 m2 ⊢
    rw [w64 (x := p + r) (by omega) (by omega), if_neg (by simp), ev_bind hpk, ev_ite]
    cases hb : pickV x y (prsT l) p with
    | none =>
      simp only
      rw [if_neg (by simp)]
      exact fin
    | some b =>
      have hm2 : mayV x y (prsT l) (p + r) = true := mayV_iff.2 ⟨⟨⟨h1, h2, by omega, by omega⟩, h5⟩, h6⟩
      have hpk2 := victim_Pick_ev hm2
      rw [pickV_more hsz h3 (show p ≤ p + r by omega) hb] at hpk2
      obtain ⟨b1, _, _⟩ := pickV_spec hsz hb
      obtain ⟨i, rfl, i1, i2, i3⟩ := placesV_mem.1 b1
      have hpl := @placesV_len x y (prsT l) p (x.length - 1) 0
      have hpw := (sortV_seg h6).1
      have hlt := List.pairwise_iff_getElem.1 hpw i (x.length - 1) (by omega) (by omega) (by omega)
      have w2 : wrap64 ((x.length : Int) - 1) = ((x.length - 1 : Nat) : Int) := by
        rw [w64 (by omega) (by omega)]
        omega
      simp only
      rw [if_pos (by trivial), ev_ite, if_neg (by omega), ev_bind hpk2, ev_bind (victim_Sparse_ev hm), ev_bind (garnerref15_Has_ev _ _ (by rw [List.length_map]; omega)), ev_ite, if_pos (by rw [decide_eq_true_eq]; exact List.mem_map.2 ⟨_, b1, rfl⟩)]
      simp only [w2, ev_ite]
      rw [if_pos (by omega), if_pos (by omega), if_neg (by rw [rd_get (by omega), rd_get (by omega)]; omega), if_pos (by trivial), if_pos (by trivial)]
      exact fin
  · rw [Bool.not_eq_true] at hm
    rw [hm]
    exact hno
end Go.Proofs.Ytcjkchjgmgdbgaa.Pure
