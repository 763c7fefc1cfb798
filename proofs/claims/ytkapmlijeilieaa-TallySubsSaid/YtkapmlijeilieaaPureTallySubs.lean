/- The pure statement of the law TallySubs: what the printed functions answer, each by its plain law, and that the law's answer is true. -/
import Derived.Test.YtkapmlijeilieaaPTallySubsx0
import Derived.Test.YtkapmlijeilieaaPTallySubsx1
import Derived.Test.YtkapmlijeilieaaPTallySubsx2
import Derived.Test.YtkapmlijeilieaaPTallySubsx3
import Derived.Test.YtkapmlijeilieaaPTallySubsx4
import Derived.Test.YtkapmlijeilieaaPTallySubsx5
import Derived.Test.YtkapmlijeilieaaPTallySubsx6
import Derived.Test.YtkapmlijeilieaaStTallySubs
import Derived.Test.YtkapmlijeilieaaQSz
import Derived.Test.YtkapmlijeilieaaQV02
import Derived.Test.YtkapmlijeilieaaQF09
import Derived.Test.YtkapmlijeilieaaQC09
import Derived.Test.YtkapmlijeilieaaQV04
namespace Go.Proofs.Ytkapmlijeilieaa.Pure
open Go.RowKit Go.Proofs.Ytkapmlijeilieaa.PTallySubs Go.Proofs.Ytkapmlijeilieaa.U Go.Proofs.YtkapmlijeilieaaW.PrintWords Go.Proofs.YtkapmlijeilieaaW.PrintLast Go.Proofs.YtkapmlijeilieaaW.PrintMore
set_option linter.unusedVariables false
set_option linter.unusedSimpArgs false
set_option maxRecDepth 4000
def prT (p : S46) : Int × Int := (p.f0, p.f1)
def prsT (l : List S46) : List (Int × Int) := l.map prT
theorem prsT_len (l : List S46) : (prsT l).length = l.length := by simp [prsT]
theorem rdT_get {l : List S46} {i : Nat} (h : i < l.length) : rd_T46 l (i : Int) = l[i] := by
  simp [rd_T46, h]
theorem dropT_eq {l : List S46} {i : Nat} (h : i < l.length) : l.drop i = rd_T46 l (i : Int) :: l.drop (i + 1) := by
  rw [rdT_get h]
  exact List.drop_eq_getElem_cons h
theorem rdT_lt {l : List S46} (hs : (prsT l).Pairwise fun a b => a.1 < b.1) {i j : Nat} (hij : i < j) (hj : j < l.length) : (rd_T46 l (i : Int)).f0 < (rd_T46 l (j : Int)).f0 := by
  have := List.pairwise_iff_getElem.1 hs i j (by rw [prsT_len]; omega) (by rw [prsT_len]; omega) hij
  rw [rdT_get (by omega), rdT_get hj]
  simpa [prsT, prT] using this
def msT (l : List (Int × Int)) : List S46 := l.map fun p => ⟨p.1, p.2⟩
def ptsT (l : List S43) : List (Int × Int) := l.map fun p => (p.f0, p.f2)
def okP (p : S43) : Bool := mayP p.f0 p.f1 p.f2
theorem ms_prs (l : List S46) : msT (prsT l) = l := by
  unfold msT prsT
  rw [List.map_map]
  exact List.map_id'' (fun _ => rfl) l
theorem prs_ms (l : List (Int × Int)) : prsT (msT l) = l := by
  unfold msT prsT
  rw [List.map_map]
  exact List.map_id'' (fun _ => rfl) l
theorem msT_len (l : List (Int × Int)) : (msT l).length = l.length := by simp [msT]
theorem ptsT_len (l : List S43) : (ptsT l).length = l.length := by simp [ptsT]
theorem msT_append (a b : List (Int × Int)) : msT (a ++ b) = msT a ++ msT b := by simp [msT]
theorem prsT_drop (l : List S46) (i : Nat) : prsT (l.drop i) = (prsT l).drop i := by simp [prsT]
theorem rdQ_get {l : List S43} {i : Nat} (h : i < l.length) : rd_T43 l (i : Int) = l[i] := by
  simp [rd_T43, h]
theorem dropQ_eq {l : List S43} {i : Nat} (h : i < l.length) : l.drop i = rd_T43 l (i : Int) :: l.drop (i + 1) := by
  rw [rdQ_get h]
  exact List.drop_eq_getElem_cons h
theorem okP_iff {p : S43} : okP p = true ↔ 1 ≤ p.f0 ∧ p.f0 ≤ 2147483647 ∧ 0 ≤ p.f1 ∧ p.f1 ≤ 2147483647 ∧ 0 ≤ p.f2 ∧ p.f2 ≤ 4096 := mayP_iff
theorem garnerlaw09_light_ev (l : List S46) (ps : List S43) : garnerlaw09_light.f l ps = some (decide (l.length ≤ 100 ∧ ps.length ≤ 60)) := by
  unfold garnerlaw09_light.f
  split
  · congr 1
    rw [decide_eq_decide]
    omega
  · congr 1
    symm
    rw [decide_eq_false_iff_not]
    omega
theorem tally_Check_ev (l : List S46) (hl : l.length ≤ 140737488351232) : Ev (fun k => tally_Check.f k l) (if mayT (prsT l) = true then 0 else 1) := by
  have main : ∀ (d j : Nat) (last : Int), l.length - j = d → j ≤ l.length → Ev (fun k => tally_Check.l0 k last l (l.length : Int) (j : Int)) (if sortT last (prsT (l.drop j)) = true then (0 : Int) else 1) := by
    intro d
    induction d with
    | zero =>
      intro j last hd hj
      rw [ev_succ]
      simp only [tally_Check.l0, ev_ite]
      rw [if_neg (by omega), ev_some, List.drop_eq_nil_of_le (by omega)]
      rfl
    | succ d ih =>
      intro j last hd hj
      have hjl : j < l.length := by omega
      have ih' := ih (j + 1) (rd_T46 l (j : Int)).f0 (by omega) (by omega)
      have hw : wrap64 ((j : Int) + 1) = ((j + 1 : Nat) : Int) := w64 (by omega) (by omega)
      rw [dropT_eq hjl]
      rw [ev_succ]
      simp only [tally_Check.l0, ev_ite, hw]
      generalize rd_T46 l (j : Int) = f at ih' ⊢
      have e2 : sortT last (prsT (f :: l.drop (j + 1))) = (decide (last < f.f0 ∧ f.f0 ≤ 2147483647 ∧ 1 ≤ f.f1 ∧ f.f1 ≤ 1099511627776) && sortT f.f0 (prsT (l.drop (j + 1)))) := rfl
      have no : ¬ (last < f.f0 ∧ f.f0 ≤ 2147483647 ∧ 1 ≤ f.f1 ∧ f.f1 ≤ 1099511627776) → (1 : Int) = (if sortT last (prsT (f :: l.drop (j + 1))) = true then 0 else 1) := by
        intro h
        rw [e2, decide_eq_false h, Bool.false_and, if_neg (by simp)]
      rw [if_pos (by omega), if_pos (by omega), if_pos (by omega)]
      by_cases h1 : f.f0 ≤ last
      · rw [if_pos h1, ev_some]; exact no (by omega)
      rw [if_neg h1]
      by_cases h2 : f.f0 > 2147483647
      · rw [if_pos h2, ev_some]; exact no (by omega)
      rw [if_neg h2]
      by_cases h3 : f.f1 < 1
      · rw [if_pos h3, ev_some]; exact no (by omega)
      rw [if_neg h3]
      by_cases h4 : f.f1 > 1099511627776
      · rw [if_pos h4, ev_some]; exact no (by omega)
      rw [if_neg h4]
      refine ev_eq ih' ?_
      rw [e2, decide_eq_true (by omega), Bool.true_and]
  simp only [tally_Check.f, ev_ite]
  unfold mayT
  rw [prsT_len]
  by_cases h : l.length > 4096
  · rw [if_pos (by omega), ev_some, decide_eq_false (by omega), Bool.false_and, if_neg (by simp)]
  · rw [if_neg (by omega), decide_eq_true (by omega), Bool.true_and]
    exact main (l.length - 0) 0 0 rfl (by omega)
theorem tally_find_1_ev (a b s : Int) : tally_find_1.f a b s = some (if a < s then -1 else if a > s then 1 else 0) := by
  have e : ∀ x : Int, cmp_isNaN_int.f x = some false := fun x => by
    unfold cmp_isNaN_int.f
    simp
  unfold tally_find_1.f cmp_Compare_int.f
  rw [e, e]
  simp only [Option.bind_some]
  rw [if_neg (by simp), if_neg (by simp)]
  repeat' split
  all_goals rfl
theorem slices_BinarySearchFunc_api_Share_int_ev (l : List S46) (s : Int) (hl : l.length ≤ 4096) (hs : (prsT l).Pairwise fun a b => a.1 < b.1) :
    ∃ i : Nat, i ≤ l.length ∧ (∀ j : Nat, j < i → (rd_T46 l (j : Int)).f0 < s) ∧ (∀ j : Nat, i ≤ j → j < l.length → s ≤ (rd_T46 l (j : Int)).f0) ∧ Ev (fun k => slices_BinarySearchFunc_api_Share_int.f k l s) ((i : Int), decide (i < l.length ∧ (rd_T46 l (i : Int)).f0 = s)) := by
  have main : ∀ (d lo hi : Nat), hi - lo ≤ d → lo ≤ hi → hi ≤ l.length → (∀ j : Nat, j < lo → (rd_T46 l (j : Int)).f0 < s) → (∀ j : Nat, hi ≤ j → j < l.length → s ≤ (rd_T46 l (j : Int)).f0) →
      ∃ i : Nat, i ≤ l.length ∧ (∀ j : Nat, j < i → (rd_T46 l (j : Int)).f0 < s) ∧ (∀ j : Nat, i ≤ j → j < l.length → s ≤ (rd_T46 l (j : Int)).f0) ∧ Ev (fun k => slices_BinarySearchFunc_api_Share_int.l0 k l s (l.length : Int) (lo : Int) (hi : Int)) ((i : Int), decide (i < l.length ∧ (rd_T46 l (i : Int)).f0 = s)) := by
    intro d
    induction d with
    | zero =>
      intro lo hi hd h1 h2 h3 h4
      obtain rfl : lo = hi := by omega
      refine ⟨lo, h2, h3, h4, ?_⟩
      rw [ev_succ]
      simp only [slices_BinarySearchFunc_api_Share_int.l0, ev_ite]
      rw [if_neg (by omega)]
      by_cases hn : lo < l.length
      · have := h4 lo (by omega) hn
        rw [if_pos (by omega), if_pos (by omega), if_pos (by omega), ev_bind_c (tally_find_1_ev _ _ _), ev_some]
        congr 1
        rw [if_neg (by omega)]
        by_cases he : (rd_T46 l (lo : Int)).f0 = s
        · rw [if_neg (by omega), decide_eq_true ⟨hn, he⟩]
          rfl
        · rw [if_pos (by omega), decide_eq_false (fun h => he h.2)]
          rfl
      · rw [if_neg (by omega), ev_some, decide_eq_false (fun h => hn h.1)]
    | succ d ih =>
      intro lo hi hd h1 h2 h3 h4
      by_cases hlt : lo < hi
      · have em : wrap64 (IntKind.u64.wrap (wrap64 ((lo : Int) + (hi : Int))) / 2) = (((lo + hi) / 2 : Nat) : Int) := by
          rw [w64 (x := (lo : Int) + (hi : Int)) (by omega) (by omega), wu64 (by omega) (by omega), w64 (by omega) (by omega)]
          omega
        have e1 : wrap64 ((((lo + hi) / 2 : Nat) : Int) + 1) = (((lo + hi) / 2 + 1 : Nat) : Int) := by
          rw [w64 (by omega) (by omega)]
          rfl
        generalize hm : (lo + hi) / 2 = m at em e1
        have hmr : lo ≤ m ∧ m < hi := by omega
        by_cases hc : (rd_T46 l (m : Int)).f0 < s
        · obtain ⟨i, i1, i2, i3, i4⟩ := ih (m + 1) hi (by omega) (by omega) h2 (by
            intro j hj
            by_cases hjm : j = m
            · rw [hjm]; exact hc
            · have := rdT_lt hs (i := j) (j := m) (by omega) (by omega)
              omega) h4
          refine ⟨i, i1, i2, i3, ?_⟩
          rw [ev_succ]
          simp only [slices_BinarySearchFunc_api_Share_int.l0, ev_ite, em, e1]
          rw [if_pos (by omega), if_pos (by omega), if_pos (by omega), ev_bind_c (tally_find_1_ev _ _ _), ev_ite, if_pos (by rw [if_pos hc]; omega)]
          exact i4
        · obtain ⟨i, i1, i2, i3, i4⟩ := ih lo m (by omega) (by omega) (by omega) h3 (by
            intro j hj hjl
            by_cases hjm : j = m
            · rw [hjm]; omega
            · have := rdT_lt hs (i := m) (j := j) (by omega) hjl
              omega)
          refine ⟨i, i1, i2, i3, ?_⟩
          rw [ev_succ]
          simp only [slices_BinarySearchFunc_api_Share_int.l0, ev_ite, em, e1]
          rw [if_pos (by omega), if_pos (by omega), if_pos (by omega), ev_bind_c (tally_find_1_ev _ _ _), ev_ite, if_neg (by rw [if_neg hc]; split <;> omega)]
          exact i4
      · exact ih lo hi (by omega) h1 h2 h3 h4
  exact main l.length 0 l.length (by omega) (by omega) (by omega) (fun j hj => by omega) (fun j h1 h2 => by omega)
theorem tally_find_ev {l : List S46} (h1 : l.length ≤ 4096) (hs : (prsT l).Pairwise fun a b => a.1 < b.1) (s : Int) :
    ∃ i : Nat, i ≤ l.length ∧ (∀ p ∈ (prsT l).take i, p.1 < s) ∧ (∀ (h : i < l.length), s ≤ l[i].f0) ∧ Ev (fun k => tally_find.f k l s) ((i : Int), decide (i < l.length ∧ (rd_T46 l (i : Int)).f0 = s)) := by
  obtain ⟨i, i1, i2, i3, i4⟩ := slices_BinarySearchFunc_api_Share_int_ev l s h1 hs
  refine ⟨i, i1, ?_, ?_, ?_⟩
  · intro p hp
    obtain ⟨j, hj, rfl⟩ := List.mem_iff_getElem.1 hp
    rw [List.length_take, prsT_len] at hj
    have := i2 j (by omega)
    rw [rdT_get (by omega)] at this
    rw [List.getElem_take]
    simpa [prsT, prT] using this
  · intro h
    have := i3 i (by omega) h
    rwa [rdT_get h] at this
  · simp only [tally_find.f]
    rw [ev_bind i4, ev_some]
theorem point_Check_ev (s a l u : Int) : point_Check.f s a l u = some (if mayP s a l = true then 0 else 1) := by
  simp only [point_Check.f, mayP_iff]
  repeat' split
  all_goals first | rfl | omega
theorem slices_IndexFunc_api_Point_ev (l : List S43) (hl : l.length ≤ 140737488351232) : ∃ r : Int, Ev (fun k => slices_IndexFunc_api_Point.f k l) r ∧ (r ≥ 0 ↔ l.all okP = false) := by
  have main : ∀ (d j : Nat), l.length - j = d → j ≤ l.length → ∃ r : Int, Ev (fun k => slices_IndexFunc_api_Point.l0 k l (l.length : Int) (j : Int)) r ∧ (r ≥ 0 ↔ (l.drop j).all okP = false) := by
    intro d
    induction d with
    | zero =>
      intro j hd hj
      refine ⟨-1, ?_, ?_⟩
      · rw [ev_succ]
        simp only [slices_IndexFunc_api_Point.l0, ev_ite]
        rw [if_neg (by omega), ev_some]
      · rw [List.drop_eq_nil_of_le (by omega)]
        simp
    | succ d ih =>
      intro j hd hj
      have hjl : j < l.length := by omega
      have hw : wrap64 ((j : Int) + 1) = ((j + 1 : Nat) : Int) := w64 (by omega) (by omega)
      obtain ⟨r, r1, r2⟩ := ih (j + 1) (by omega) (by omega)
      rw [dropQ_eq hjl, List.all_cons]
      generalize hp : rd_T43 l (j : Int) = p
      have hm : tally_may_1.f p.f0 p.f1 p.f2 p.f3 = some (!okP p) := by
        unfold tally_may_1.f
        rw [point_Check_ev]
        simp only [Option.bind_some, okP]
        cases mayP p.f0 p.f1 p.f2 <;> rfl
      by_cases hb : okP p = true
      · refine ⟨r, ?_, by rw [r2, hb, Bool.true_and]⟩
        rw [ev_succ]
        simp only [slices_IndexFunc_api_Point.l0, ev_ite, hw, hp]
        rw [if_pos (by omega), if_pos (by omega), if_pos (by omega), ev_bind_c hm, ev_ite, if_neg (by simp [hb])]
        exact r1
      · refine ⟨j, ?_, ?_⟩
        · rw [ev_succ]
          simp only [slices_IndexFunc_api_Point.l0, ev_ite, hw, hp]
          rw [if_pos (by omega), if_pos (by omega), if_pos (by omega), ev_bind_c hm, ev_ite, if_pos (by simpa using hb), ev_some]
        · rw [Bool.not_eq_true] at hb
          rw [hb, Bool.false_and]
          simp
  obtain ⟨r, h1, h2⟩ := main (l.length - 0) 0 rfl (by omega)
  rw [List.drop_zero] at h2
  refine ⟨r, ?_, h2⟩
  simp only [slices_IndexFunc_api_Point.f]
  exact h1
theorem tally_may_ev (l : List S46) (ps : List S43) (hl : l.length ≤ 140737488351232) (hp : ps.length ≤ 140737488351232) : Ev (fun k => tally_may.f k l ps) (mayT (prsT l) && ps.all okP) := by
  obtain ⟨r, r1, r2⟩ := slices_IndexFunc_api_Point_ev ps hp
  have hc : Ev (fun k => slices_ContainsFunc_api_Point.f k ps) (!ps.all okP) := by
    simp only [slices_ContainsFunc_api_Point.f]
    rw [ev_bind r1, ev_some]
    cases h : ps.all okP with
    | true => rw [h] at r2; simp at r2 ⊢; exact r2
    | false => rw [h] at r2; simp at r2 ⊢; exact r2
  simp only [tally_may.f]
  rw [ev_bind (tally_Check_ev l hl), ev_ite]
  by_cases h : mayT (prsT l) = true
  · rw [if_pos h, if_pos rfl, ev_bind hc, ev_some, h, Bool.not_not, Bool.true_and]
  · rw [if_neg h, if_neg (by decide), ev_some]
    rw [Bool.not_eq_true] at h
    rw [h, Bool.false_and]
theorem good_pts {ps : List S43} (h : ps.all okP = true) : GoodP (ptsT ps) ∧ ∀ q ∈ ptsT ps, q.2 ≤ 4096 := by
  have h1 := List.all_eq_true.1 h
  constructor
  · intro q hq
    obtain ⟨p, hp, rfl⟩ := List.mem_map.1 hq
    have := okP_iff.1 (h1 p hp)
    simp only
    omega
  · intro q hq
    obtain ⟨p, hp, rfl⟩ := List.mem_map.1 hq
    have := okP_iff.1 (h1 p hp)
    simp only
    omega
theorem garnerlaw09_awake_ev : Ev (fun k => garnerlaw09_awake.f k) true := Ev.of (fun k => garnerlaw09_awake.mono k) (k := 60) (by decide +kernel)
theorem garnerref09_May_ev (l : List S46) (hl : l.length ≤ 140737488351232) : Ev (fun k => garnerref09_May.f k l) (mayT (prsT l)) := by
  have main : ∀ (d j : Nat) (last : Int), l.length - j = d → j ≤ l.length → 0 ≤ last → (j = 0 → last = 0) → (∀ i : Nat, j = i + 1 → last = (rd_T46 l (i : Int)).f0) → Ev (fun k => garnerref09_May.l0 k l (j : Int)) (decide (l.length ≤ 4096) && sortT last (prsT (l.drop j))) := by
    intro d
    induction d with
    | zero =>
      intro j last hd hj _ _ _
      rw [ev_succ]
      simp only [garnerref09_May.l0, ev_ite]
      rw [if_neg (by omega), ev_some, List.drop_eq_nil_of_le (by omega)]
      have e : sortT last (prsT []) = true := rfl
      rw [e, Bool.and_true, decide_eq_decide]
      omega
    | succ d ih =>
      intro j last hd hj hn h0 hs
      have hjl : j < l.length := by omega
      have ih' := ih (j + 1) (rd_T46 l (j : Int)).f0 (by omega) (by omega)
      have ih' := fun h => ih' h (by omega) (fun i hi => by rw [show i = j by omega])
      have hw : wrap64 ((j : Int) + 1) = ((j + 1 : Nat) : Int) := w64 (by omega) (by omega)
      rw [dropT_eq hjl]
      rw [ev_succ]
      simp only [garnerref09_May.l0, ev_ite, hw]
      generalize rd_T46 l (j : Int) = f at ih' ⊢
      have e2 : sortT last (prsT (f :: l.drop (j + 1))) = (decide (last < f.f0 ∧ f.f0 ≤ 2147483647 ∧ 1 ≤ f.f1 ∧ f.f1 ≤ 1099511627776) && sortT f.f0 (prsT (l.drop (j + 1)))) := rfl
      have no : ¬ (last < f.f0 ∧ f.f0 ≤ 2147483647 ∧ 1 ≤ f.f1 ∧ f.f1 ≤ 1099511627776) → false = (decide (l.length ≤ 4096) && sortT last (prsT (f :: l.drop (j + 1)))) := by
        intro h
        rw [e2, decide_eq_false h, Bool.false_and, Bool.and_false]
      have yes : (last < f.f0 ∧ f.f0 ≤ 2147483647 ∧ 1 ≤ f.f1 ∧ f.f1 ≤ 1099511627776) → (decide (l.length ≤ 4096) && sortT f.f0 (prsT (l.drop (j + 1)))) = (decide (l.length ≤ 4096) && sortT last (prsT (f :: l.drop (j + 1)))) := by
        intro h
        rw [e2, decide_eq_true h, Bool.true_and]
      rw [if_pos (by omega), if_pos (by omega)]
      by_cases h1 : f.f0 < 1
      · rw [if_pos h1, ev_some]; exact no (by omega)
      rw [if_neg h1]
      by_cases h2 : f.f0 > 2147483647
      · rw [if_pos h2, ev_some]; exact no (by omega)
      rw [if_neg h2]
      by_cases h3 : f.f1 < 1
      · rw [if_pos h3, ev_some]; exact no (by omega)
      rw [if_neg h3]
      by_cases h4 : f.f1 > 1099511627776
      · rw [if_pos h4, ev_some]; exact no (by omega)
      rw [if_neg h4]
      by_cases hj0 : j = 0
      · rw [if_neg (by omega)]
        exact ev_eq (ih' (by omega)) (yes (by have := h0 hj0; omega))
      · have hp := hs (j - 1) (by omega)
        have e : wrap64 ((j : Int) - 1) = ((j - 1 : Nat) : Int) := by
          rw [w64 (by omega) (by omega)]
          omega
        rw [if_pos (by omega), e, if_pos (by omega), if_pos (by omega), ← hp]
        by_cases h5 : f.f0 ≤ last
        · rw [if_pos h5, ev_some]; exact no (by omega)
        · rw [if_neg h5]
          exact ev_eq (ih' (by omega)) (yes (by omega))
  have := main (l.length - 0) 0 0 rfl (by omega) (by omega) (fun _ => rfl) (fun i hi => by omega)
  unfold mayT
  rw [prsT_len]
  exact this
theorem garnerref04_May_ev (s a l u : Int) : garnerref04_May.f s a l u = some (mayP s a l) := by
  unfold garnerref04_May.f mayP
  repeat' split
  all_goals (congr 1; first | (symm; rw [decide_eq_false_iff_not]; omega) | (rw [Bool.eq_iff_iff]; simp only [decide_eq_true_eq]; omega))
theorem garnerref09_Points_ev (l : List S43) (hl : l.length ≤ 140737488351232) : Ev (fun k => garnerref09_Points.f k l) (l.all okP) := by
  have main : ∀ (d j : Nat), l.length - j = d → j ≤ l.length → Ev (fun k => garnerref09_Points.l0 k l (j : Int)) ((l.drop j).all okP) := by
    intro d
    induction d with
    | zero =>
      intro j hd hj
      rw [ev_succ]
      simp only [garnerref09_Points.l0, ev_ite]
      rw [if_neg (by omega), ev_some, List.drop_eq_nil_of_le (by omega)]
      rfl
    | succ d ih =>
      intro j hd hj
      have hjl : j < l.length := by omega
      have hw : wrap64 ((j : Int) + 1) = ((j + 1 : Nat) : Int) := w64 (by omega) (by omega)
      have ih' := ih (j + 1) (by omega) (by omega)
      rw [dropQ_eq hjl, List.all_cons]
      rw [ev_succ]
      simp only [garnerref09_Points.l0, ev_ite, hw]
      generalize rd_T43 l (j : Int) = p
      rw [if_pos (by omega), if_pos (by omega), ev_bind_c (garnerref04_May_ev _ _ _ _), ev_ite]
      by_cases h : okP p = true
      · rw [if_pos (show mayP p.f0 p.f1 p.f2 = true from h), h, Bool.true_and]
        exact ih'
      · rw [if_neg (show ¬ mayP p.f0 p.f1 p.f2 = true from h), ev_some]
        rw [Bool.not_eq_true] at h
        rw [h, Bool.false_and]
  exact main (l.length - 0) 0 rfl (by omega)
theorem garnerref09_Same_ev (l : List S46) (hl : l.length ≤ 140737488351232) : Ev (fun k => garnerref09_Same.f k l l) true := by
  have main : ∀ (d j : Nat), l.length - j = d → j ≤ l.length → Ev (fun k => garnerref09_Same.l0 k l l (j : Int)) true := by
    intro d
    induction d with
    | zero =>
      intro j hd hj
      rw [ev_succ]
      simp only [garnerref09_Same.l0, ev_ite]
      rw [if_neg (by omega), ev_some]
    | succ d ih =>
      intro j hd hj
      have hw : wrap64 ((j : Int) + 1) = ((j + 1 : Nat) : Int) := w64 (by omega) (by omega)
      rw [ev_succ]
      simp only [garnerref09_Same.l0, ev_ite, hw]
      rw [if_pos (by omega), if_pos (by omega), if_pos (by omega), if_neg (by simp)]
      exact ih (j + 1) (by omega) (by omega)
  simp only [garnerref09_Same.f, ev_ite]
  rw [if_pos (by trivial)]
  exact main (l.length - 0) 0 rfl (by omega)
theorem find_there {l : List S46} {i : Nat} {s : Int} (hi : i < l.length) (hlt : ∀ p ∈ (prsT l).take i, p.1 < s) (he : l[i].f0 = s) : getT (prsT l) s = l[i].f1 ∧ ∀ n, setT (prsT l) s n = (prsT l).take i ++ (if n = 0 then (prsT l).drop (i + 1) else (s, n) :: (prsT l).drop (i + 1)) := by
  have hd : (prsT l).drop i = (l[i].f0, l[i].f1) :: (prsT l).drop (i + 1) := by
    rw [List.drop_eq_getElem_cons (by rw [prsT_len]; exact hi)]
    congr 1
    simp [prsT, prT]
  refine ⟨by rw [getT_at i (prsT l) (by rw [prsT_len]; omega) hlt, hd, getT, if_pos he], fun n => ?_⟩
  rw [setT_at i (prsT l) (by rw [prsT_len]; omega) hlt, hd, setT, if_neg (by simp only; omega), if_pos he]
theorem find_not {l : List S46} {i : Nat} {s : Int} (hi : i ≤ l.length) (hs : SortP (prsT l)) (hlt : ∀ p ∈ (prsT l).take i, p.1 < s) (h3 : ∀ (h : i < l.length), s ≤ l[i].f0) (he : ¬ (i < l.length ∧ (rd_T46 l (i : Int)).f0 = s)) : getT (prsT l) s = 0 := by
  rw [getT_at i (prsT l) (by rw [prsT_len]; exact hi) hlt]
  refine getT_none (fun p hp => ?_)
  by_cases hil : i < l.length
  · have hd : (prsT l).drop i = (l[i].f0, l[i].f1) :: (prsT l).drop (i + 1) := by
      rw [List.drop_eq_getElem_cons (by rw [prsT_len]; exact hil)]
      congr 1
      simp [prsT, prT]
    have hso : SortP ((prsT l).drop i) := hs.sublist (List.drop_sublist _ _)
    have h4 := h3 hil
    have hne : l[i].f0 ≠ s := fun e => he ⟨hil, by rw [rdT_get hil]; exact e⟩
    rw [hd] at hp hso
    have h5 := List.pairwise_cons.1 hso
    rcases List.mem_cons.1 hp with rfl | hp
    · exact hne
    · have := h5.1 p hp
      simp only at this
      omega
  · rw [List.drop_eq_nil_of_le (by rw [prsT_len]; omega)] at hp
    exact absurd hp (by simp)
def subS (o : Option (List (Int × Int))) : List S46 × Int := match o with
  | some m => (msT m, 0)
  | none => ([], 3)
theorem tally_Sub_loop (ps : List S43) (hps : ps.all okP = true) (hpl : ps.length ≤ 200) (B : Int) (hB : 0 ≤ B) (hB2 : B ≤ 4611686018427387904) : ∀ (d j : Nat) (x : List (Int × Int)), ps.length - j = d → j ≤ ps.length → OkT x → x.length + (ps.length - j) ≤ 4000 → (∀ p ∈ x, p.2 ≤ B) →
    Ev (fun k => tally_Sub.l0 k (msT x) ps (ps.length : Int) (j : Int)) (subS (subT x (ptsT (ps.drop j)))) := by
  intro d
  induction d with
  | zero =>
    intro j x hd hj hx hxl hb
    rw [ev_succ]
    simp only [tally_Sub.l0, ev_ite]
    rw [if_neg (by omega), ev_some, List.drop_eq_nil_of_le (by omega)]
    rfl
  | succ d ih =>
    intro j x hd hj hx hxl hb
    have hjl : j < ps.length := by omega
    have hw : wrap64 ((j : Int) + 1) = ((j + 1 : Nat) : Int) := w64 (by omega) (by omega)
    have hok := okP_iff.1 (List.all_eq_true.1 hps _ (List.getElem_mem hjl))
    have hgx := ok_get hx ps[j].f0
    have hle := get_le hB hb ps[j].f0
    have hsl := setT_len x ps[j].f0 (getT x ps[j].f0 - ps[j].f2)
    have ih' : 0 ≤ getT x ps[j].f0 - ps[j].f2 → _ := fun h => ih (j + 1) (setT x ps[j].f0 (getT x ps[j].f0 - ps[j].f2)) (by omega) (by omega) (ok_set hx ⟨hok.1, hok.2.1⟩ h) (by omega) (setT_bound hb (by omega))
    have ed : subT x (ptsT (ps.drop j)) = if getT x ps[j].f0 - ps[j].f2 < 0 then none else subT (setT x ps[j].f0 (getT x ps[j].f0 - ps[j].f2)) (ptsT (ps.drop (j + 1))) := by
      rw [dropQ_eq hjl, rdQ_get hjl]
      rfl
    rw [ed]
    rw [ev_succ]
    simp only [tally_Sub.l0, ev_ite, hw, rdQ_get hjl]
    rw [if_pos (by omega), if_pos (by omega), if_pos (by omega)]
    by_cases h0 : ps[j].f2 = 0
    · rw [if_pos h0, if_neg (by omega)]
      have := ih' (by omega)
      rw [h0, Int.sub_zero, setT_self hx ⟨hok.1, hok.2.1⟩] at this ⊢
      exact this
    rw [if_neg h0]
    obtain ⟨i, i1, i2, i3, i4⟩ := tally_find_ev (l := msT x) (by rw [msT_len]; omega) (by rw [prs_ms]; exact hx.1) ps[j].f0
    rw [ev_bind i4, ev_ite]
    by_cases hc : i < (msT x).length ∧ (rd_T46 (msT x) (i : Int)).f0 = ps[j].f0
    · obtain ⟨c1, c2⟩ := hc
      rw [rdT_get c1] at c2
      obtain ⟨f1, f2⟩ := find_there c1 i2 c2
      rw [prs_ms] at f1 f2
      rw [msT_len] at c1
      have hlen : i < (msT x).length := by rw [msT_len]; exact c1
      simp only [rdT_get hlen, ev_ite]
      rw [if_pos (decide_eq_true ⟨hlen, c2⟩), if_pos (by omega), if_pos (by rw [msT_len]; omega), ev_succ]
      simp only [tally_Sub.j1, ev_ite, hw, rdT_get hlen]
      rw [← f1]
      by_cases hlt : getT x ps[j].f0 < ps[j].f2
      · rw [decide_eq_true hlt, if_pos (by trivial), ev_some, if_pos (by omega)]
        rfl
      · rw [decide_eq_false hlt, if_neg (by simp), if_pos (by omega), if_pos (by rw [msT_len]; omega), if_neg (show ¬ getT x ps[j].f0 - ps[j].f2 < 0 by omega)]
        have hih := ih' (by omega)
        have hf := f2 (getT x ps[j].f0 - ps[j].f2)
        have et : msT (x.take i) = (msT x).take i := by simp [msT]
        have edr : msT (x.drop (i + 1)) = (msT x).drop (i + 1) := by simp [msT]
        by_cases heq : getT x ps[j].f0 = ps[j].f2
        · rw [if_pos (show getT x ps[j].f0 - ps[j].f2 = 0 by omega)] at hf
          have hde : slices_Delete_api_Share.f (msT x) (i : Int) (wrap64 ((i : Int) + 1)) = some (msT (setT x ps[j].f0 (getT x ps[j].f0 - ps[j].f2))) := by
            rw [w64 (by omega) (by omega)]
            unfold slices_Delete_api_Share.f
            rw [if_pos ⟨by omega, by omega, by rw [msT_len]; omega⟩, hf, msT_append, et, edr]
            rfl
          rw [if_pos heq, ev_bind_c hde]
          exact hih
        · rw [if_neg (show ¬ getT x ps[j].f0 - ps[j].f2 = 0 by omega)] at hf
          have hse : (msT x).set (i : Int).toNat (⟨((msT x)[i]'hlen).f0, wrap64 (getT x ps[j].f0 - ps[j].f2)⟩ : S46) = msT (setT x ps[j].f0 (getT x ps[j].f0 - ps[j].f2)) := by
            rw [w64 (by omega) (by omega), hf, msT_append, et, Int.toNat_natCast, List.set_eq_take_append_cons_drop, if_pos hlen, c2]
            congr 1
            rw [← edr]
            rfl
          rw [if_neg heq, hse]
          exact hih
    · have hg0 := find_not i1 (by rw [prs_ms]; exact hx.1) i2 i3 hc
      rw [prs_ms] at hg0
      rw [if_neg (by simpa using hc), ev_succ]
      simp only [tally_Sub.j1, ev_ite]
      rw [if_pos (by trivial), ev_some, if_pos (by omega)]
      rfl
theorem tally_Sub_ev (l : List S46) (ps : List S43) (hl : l.length ≤ 200) (hp : ps.length ≤ 200) : Ev (fun k => tally_Sub.f k l ps) (if (mayT (prsT l) && ps.all okP) = true then subS (subT (prsT l) (ptsT ps)) else ([], 1)) := by
  simp only [tally_Sub.f]
  rw [ev_bind (tally_may_ev l ps (by omega) (by omega)), ev_ite]
  by_cases h : (mayT (prsT l) && ps.all okP) = true
  · rw [if_pos h, if_pos h]
    rw [Bool.and_eq_true] at h
    obtain ⟨m1, m2, m3⟩ := mayT_ok h.1
    have hcl : slices_Clone_api_Share.f l = some l := by
      unfold slices_Clone_api_Share.f
      rw [if_pos (by omega)]
    have := tally_Sub_loop ps h.2 hp 1099511627776 (by omega) (by omega) (ps.length - 0) 0 (prsT l) rfl (by omega) m1 (by rw [prsT_len]; omega) m3
    rw [ms_prs, List.drop_zero] at this
    rw [ev_bind_c hcl]
    exact this
  · rw [if_neg h, if_neg h, ev_some]
theorem garnerref09_Get_ev (l : List S46) (s : Int) (hl : l.length ≤ 140737488351232) : Ev (fun k => garnerref09_Get.f k l s) (getT (prsT l) s) := by
  have main : ∀ (d j : Nat), l.length - j = d → j ≤ l.length → Ev (fun k => garnerref09_Get.l0 k l s (j : Int)) (getT (prsT (l.drop j)) s) := by
    intro d
    induction d with
    | zero =>
      intro j hd hj
      rw [ev_succ]
      simp only [garnerref09_Get.l0, ev_ite]
      rw [if_neg (by omega), ev_some, List.drop_eq_nil_of_le (by omega)]
      rfl
    | succ d ih =>
      intro j hd hj
      have hjl : j < l.length := by omega
      have hw : wrap64 ((j : Int) + 1) = ((j + 1 : Nat) : Int) := w64 (by omega) (by omega)
      have ih' := ih (j + 1) (by omega) (by omega)
      rw [dropT_eq hjl]
      rw [ev_succ]
      simp only [garnerref09_Get.l0, ev_ite, hw]
      generalize rd_T46 l (j : Int) = p
      have e : getT (prsT (p :: l.drop (j + 1))) s = if p.f0 = s then p.f1 else getT (prsT (l.drop (j + 1))) s := rfl
      rw [if_pos (by omega), if_pos (by omega), e]
      by_cases h : p.f0 = s
      · rw [if_pos h, if_pos h, ev_some]
      · rw [if_neg h, if_neg h]
        exact ih'
  exact main (l.length - 0) 0 rfl (by omega)
theorem garnerref09_Set_done (l : List S46) (s n : Int) (hl : l.length ≤ 4000) : ∀ (d j : Nat) (out : List S46), l.length - j = d → j ≤ l.length → out.length ≤ j + 1 → Ev (fun k => garnerref09_Set.l0 k l s n out true (j : Int)) (out ++ msT ((prsT (l.drop j)).filter (fun p => decide (p.1 ≠ s)))) := by
  intro d
  induction d with
  | zero =>
    intro j out hd hj ho
    rw [ev_succ]
    simp only [garnerref09_Set.l0, ev_ite]
    rw [if_neg (by omega), if_pos (by trivial), ev_some, List.drop_eq_nil_of_le (by omega)]
    simp [prsT, msT]
  | succ d ih =>
    intro j out hd hj ho
    have hjl : j < l.length := by omega
    have hw : wrap64 ((j : Int) + 1) = ((j + 1 : Nat) : Int) := w64 (by omega) (by omega)
    rw [dropT_eq hjl]
    rw [ev_succ]
    simp only [garnerref09_Set.l0, ev_ite]
    rw [if_pos (by omega), if_pos (by trivial), ev_succ]
    simp only [garnerref09_Set.j1, ev_ite, hw]
    generalize rd_T46 l (j : Int) = p
    have e : prsT (p :: l.drop (j + 1)) = (p.f0, p.f1) :: prsT (l.drop (j + 1)) := rfl
    rw [if_neg (by simp), if_pos (by omega), if_pos (by omega), e, List.filter_cons]
    by_cases h : p.f0 = s
    · rw [if_pos h, if_neg (by simp [h])]
      exact ih (j + 1) out (by omega) (by omega) (by omega)
    · rw [if_neg h, if_pos (by omega), if_pos (by simp [h])]
      refine ev_eq (ih (j + 1) (out ++ [⟨p.f0, p.f1⟩]) (by omega) (by omega) (by rw [List.length_append, List.length_singleton]; omega)) ?_
      rw [List.append_assoc]
      rfl
theorem garnerref09_Set_open (l : List S46) (hs : SortP (prsT l)) (s n : Int) (hn : n ≠ 0) (hl : l.length ≤ 4000) : ∀ (d j : Nat) (out : List S46), l.length - j = d → j ≤ l.length → out.length ≤ j → Ev (fun k => garnerref09_Set.l0 k l s n out false (j : Int)) (out ++ msT (setT (prsT (l.drop j)) s n)) := by
  intro d
  induction d with
  | zero =>
    intro j out hd hj ho
    rw [ev_succ]
    simp only [garnerref09_Set.l0, ev_ite]
    rw [if_neg (by omega), if_neg (by simp), if_pos (by omega), ev_some, List.drop_eq_nil_of_le (by omega)]
    have e : prsT ([] : List S46) = [] := rfl
    rw [e, setT, if_neg hn]
    rfl
  | succ d ih =>
    intro j out hd hj ho
    have hjl : j < l.length := by omega
    have hw : wrap64 ((j : Int) + 1) = ((j + 1 : Nat) : Int) := w64 (by omega) (by omega)
    have hso : SortP (prsT (l.drop j)) := by rw [prsT_drop]; exact hs.sublist (List.drop_sublist _ _)
    have hdone := garnerref09_Set_done l s n hl (l.length - (j + 1)) (j + 1)
    rw [dropT_eq hjl] at hso ⊢
    rw [ev_succ]
    simp only [garnerref09_Set.l0, ev_ite]
    rw [if_pos (by omega), if_neg (by simp), if_pos (by omega), ev_succ]
    simp only [garnerref09_Set.j1, ev_ite, hw]
    generalize rd_T46 l (j : Int) = p at hso ⊢
    have e : prsT (p :: l.drop (j + 1)) = (p.f0, p.f1) :: prsT (l.drop (j + 1)) := rfl
    rw [e] at hso ⊢
    have hp := List.pairwise_cons.1 hso
    by_cases h1 : p.f0 < s
    · rw [decide_eq_false (by omega), if_neg (by simp), if_pos (by omega), if_pos (by omega), if_neg (by omega), if_pos (by omega), setT, if_pos h1]
      refine ev_eq (ih (j + 1) (out ++ [⟨p.f0, p.f1⟩]) (by omega) (by omega) (by rw [List.length_append, List.length_singleton]; omega)) ?_
      rw [List.append_assoc]
      rfl
    · have hall : (prsT (l.drop (j + 1))).filter (fun p => decide (p.1 ≠ s)) = prsT (l.drop (j + 1)) := List.filter_eq_self.2 (fun x hx => by have := hp.1 x hx; simp; simp only at this; omega)
      rw [decide_eq_true (by omega), if_pos (by trivial), if_pos (by omega), setT, if_neg h1]
      simp only [Option.bind_some, ev_ite]
      rw [if_pos (by omega), if_pos (by omega)]
      by_cases h2 : p.f0 = s
      · rw [if_pos h2, if_pos h2, if_neg hn]
        refine ev_eq (hdone (out ++ [⟨s, n⟩]) rfl (by omega) (by rw [List.length_append, List.length_singleton]; omega)) ?_
        rw [hall, List.append_assoc]
        rfl
      · rw [if_neg h2, if_neg h2, if_neg hn, if_pos (by rw [List.length_append, List.length_singleton]; omega)]
        refine ev_eq (hdone (out ++ [⟨s, n⟩] ++ [⟨p.f0, p.f1⟩]) rfl (by omega) (by rw [List.length_append, List.length_append, List.length_singleton, List.length_singleton]; omega)) ?_
        rw [hall, List.append_assoc, List.append_assoc]
        rfl
theorem garnerref09_Set_ev (x : List (Int × Int)) (hs : SortP x) (s n : Int) (hl : x.length ≤ 4000) : Ev (fun k => garnerref09_Set.f k (msT x) s n) (msT (setT x s n)) := by
  simp only [garnerref09_Set.f]
  by_cases h : n = 0
  · subst h
    have := garnerref09_Set_done (msT x) s 0 (by rw [msT_len]; exact hl) _ 0 [] rfl (by omega) (by simp)
    rw [List.drop_zero, prs_ms, List.nil_append, ← setT_filter hs] at this
    exact this
  · have := garnerref09_Set_open (msT x) (by rw [prs_ms]; exact hs) s n h (by rw [msT_len]; exact hl) _ 0 [] rfl (by omega) (by simp)
    rw [List.drop_zero, prs_ms, List.nil_append] at this
    have e : (n == 0) = false := by simpa using h
    rw [e]
    exact this
def subR (o : Option (List (Int × Int))) : List S46 × Bool := match o with
  | some m => (msT m, true)
  | none => ([], false)
theorem garnerref09_Sub_loop (ps : List S43) (hps : ps.all okP = true) (hpl : ps.length ≤ 200) (B : Int) (hB : 0 ≤ B) (hB2 : B ≤ 4611686018427387904) : ∀ (d j : Nat) (x : List (Int × Int)), ps.length - j = d → j ≤ ps.length → OkT x → x.length + (ps.length - j) ≤ 4000 → (∀ p ∈ x, p.2 ≤ B) →
    Ev (fun k => garnerref09_Sub.l0 k (msT x) ps (j : Int)) (subR (subT x (ptsT (ps.drop j)))) := by
  intro d
  induction d with
  | zero =>
    intro j x hd hj hx hxl hb
    rw [ev_succ]
    simp only [garnerref09_Sub.l0, ev_ite]
    rw [if_neg (by omega), ev_some, List.drop_eq_nil_of_le (by omega)]
    rfl
  | succ d ih =>
    intro j x hd hj hx hxl hb
    have hjl : j < ps.length := by omega
    have hw : wrap64 ((j : Int) + 1) = ((j + 1 : Nat) : Int) := w64 (by omega) (by omega)
    have hok := okP_iff.1 (List.all_eq_true.1 hps _ (List.getElem_mem hjl))
    have hgt := garnerref09_Get_ev (msT x) ps[j].f0 (by rw [msT_len]; omega)
    rw [prs_ms] at hgt
    have hgx := ok_get hx ps[j].f0
    have hle := get_le hB hb ps[j].f0
    have hwv : wrap64 (getT x ps[j].f0 - ps[j].f2) = getT x ps[j].f0 - ps[j].f2 := w64 (by omega) (by omega)
    have hst := garnerref09_Set_ev x hx.1 ps[j].f0 (getT x ps[j].f0 - ps[j].f2) (by omega)
    have hsl := setT_len x ps[j].f0 (getT x ps[j].f0 - ps[j].f2)
    have ed : subT x (ptsT (ps.drop j)) = if getT x ps[j].f0 - ps[j].f2 < 0 then none else subT (setT x ps[j].f0 (getT x ps[j].f0 - ps[j].f2)) (ptsT (ps.drop (j + 1))) := by
      rw [dropQ_eq hjl, rdQ_get hjl]
      rfl
    rw [ed]
    rw [ev_succ]
    simp only [garnerref09_Sub.l0, ev_ite, hw, rdQ_get hjl]
    rw [if_pos (by omega), if_pos (by omega), ev_bind hgt, hwv, ev_ite]
    by_cases hlt : getT x ps[j].f0 - ps[j].f2 < 0
    · rw [if_pos hlt, if_pos hlt, ev_some]
      rfl
    · rw [if_neg hlt, if_neg hlt, ev_bind hst]
      exact ih (j + 1) (setT x ps[j].f0 (getT x ps[j].f0 - ps[j].f2)) (by omega) (by omega) (ok_set hx ⟨hok.1, hok.2.1⟩ (by omega)) (by omega) (setT_bound hb (by omega))
theorem garnerref09_Sub_ev (l : List S46) (ps : List S43) (hm : mayT (prsT l) = true) (hps : ps.all okP = true) (hl : l.length ≤ 200) (hp : ps.length ≤ 200) : Ev (fun k => garnerref09_Sub.f k l ps) (subR (subT (prsT l) (ptsT ps))) := by
  obtain ⟨m1, m2, m3⟩ := mayT_ok hm
  have := garnerref09_Sub_loop ps hps hp 1099511627776 (by omega) (by omega) (ps.length - 0) 0 (prsT l) rfl (by omega) m1 (by rw [prsT_len]; omega) m3
  rw [ms_prs, List.drop_zero] at this
  simp only [garnerref09_Sub.f]
  exact this
theorem TallySubs : StTallySubs.Pure := by
  intro l ps _ _ _ _ _ _
  refine Ev.rounds (g := fun k => garnerlaw09_TallySubs.f k l ps) ?_
  have fin : Ev (fun k => (garnerlaw09_awake.f k).bind fun t => some t) true := by rw [ev_bind garnerlaw09_awake_ev, ev_some]
  simp only [garnerlaw09_TallySubs.f]
  rw [ev_bind_c (garnerlaw09_light_ev l ps), ev_ite]
  by_cases c1 : l.length ≤ 100 ∧ ps.length ≤ 60
  rotate_left
  · rw [if_neg (by simpa using c1)]
    exact fin
  obtain ⟨hl, hp⟩ := c1
  rw [if_pos (by simp; omega)]
  have t1 := tally_Sub_ev l ps (by omega) (by omega)
  have j0t : Ev (fun k => garnerlaw09_TallySubs.j0 k l ps [] 1 true) true := by
    rw [ev_succ]
    simp only [garnerlaw09_TallySubs.j0, ev_ite]
    rw [if_pos (by trivial), if_pos (by trivial), if_pos (by simp)]
    exact fin
  by_cases hb : (mayT (prsT l) && ps.all okP) = true
  rotate_left
  · rw [if_neg hb] at t1
    rw [ev_bind t1, ev_bind (garnerref09_May_ev l (by omega)), ev_ite]
    by_cases hm : mayT (prsT l) = true
    · rw [hm, Bool.true_and, Bool.not_eq_true] at hb
      rw [if_pos hm, ev_bind (garnerref09_Points_ev ps (by omega)), hb]
      exact j0t
    · rw [if_neg hm]
      exact j0t
  rw [if_pos hb] at t1
  have hm : mayT (prsT l) = true := (Bool.and_eq_true _ _ ▸ hb).1
  have hq : ps.all okP = true := (Bool.and_eq_true _ _ ▸ hb).2
  have r1 := garnerref09_Sub_ev l ps hm hq (by omega) (by omega)
  obtain ⟨m1, m2, m3⟩ := mayT_ok hm
  obtain ⟨g1, g2⟩ := good_pts hq
  cases hs : subT (prsT l) (ptsT ps) with
  | some m =>
    obtain ⟨s1, s2⟩ := subT_spec m1 g1 hs
    have hlm : m.length ≤ 140737488351232 := by
      have key : ∀ (qs x y : List (Int × Int)), subT x qs = some y → y.length ≤ x.length + qs.length := by
        intro qs
        induction qs with
        | nil =>
          intro x y h
          obtain rfl := Option.some.inj h
          simp
        | cons q qs ih =>
          intro x y h
          rw [subT] at h
          split at h
          · cases h
          · have := ih _ _ h
            have := setT_len x q.1 (getT x q.1 - q.2)
            simp only [List.length_cons]
            omega
      have := key _ _ _ hs
      rw [prsT_len, ptsT_len] at this
      omega
    rw [hs] at t1 r1
    simp only [subS, subR] at t1 r1
    rw [ev_bind t1, ev_bind (garnerref09_May_ev l (by omega)), ev_ite, if_pos hm, ev_bind (garnerref09_Points_ev ps (by omega)), hq, ev_succ]
    simp only [garnerlaw09_TallySubs.j0, ev_ite]
    rw [if_neg (by simp), ev_bind r1]
    simp only [ev_ite]
    rw [if_pos (by trivial), if_pos (by trivial), ev_bind (garnerref09_Same_ev _ (by rw [msT_len]; exact hlm)), ev_ite, if_pos (by trivial)]
    exact fin
  | none =>
    rw [hs] at t1 r1
    simp only [subS, subR] at t1 r1
    rw [ev_bind t1, ev_bind (garnerref09_May_ev l (by omega)), ev_ite, if_pos hm, ev_bind (garnerref09_Points_ev ps (by omega)), hq, ev_succ]
    simp only [garnerlaw09_TallySubs.j0, ev_ite]
    rw [if_neg (by simp), ev_bind r1]
    simp only [ev_ite]
    rw [if_neg (by simp), if_pos (by trivial), if_pos (by simp)]
    exact fin
end Go.Proofs.Ytkapmlijeilieaa.Pure
