/- The pure statement of the law TallyJoins: what the printed functions answer, each by its plain law, and that the law's answer is true. -/
import Derived.Test.YtkapmlijeilieaaPTallyJoinsx0
import Derived.Test.YtkapmlijeilieaaPTallyJoinsx1
import Derived.Test.YtkapmlijeilieaaPTallyJoinsx2
import Derived.Test.YtkapmlijeilieaaPTallyJoinsx3
import Derived.Test.YtkapmlijeilieaaPTallyJoinsx4
import Derived.Test.YtkapmlijeilieaaPTallyJoinsx5
import Derived.Test.YtkapmlijeilieaaStTallyJoins
import Derived.Test.YtkapmlijeilieaaQSz
import Derived.Test.YtkapmlijeilieaaQV02
import Derived.Test.YtkapmlijeilieaaQF09
import Derived.Test.YtkapmlijeilieaaQC09
import Derived.Test.YtkapmlijeilieaaQV04
namespace Go.Proofs.Ytkapmlijeilieaa.Pure
open Go.RowKit Go.Proofs.Ytkapmlijeilieaa.PTallyJoins Go.Proofs.Ytkapmlijeilieaa.U Go.Proofs.YtkapmlijeilieaaW.PrintWords Go.Proofs.YtkapmlijeilieaaW.PrintLast Go.Proofs.YtkapmlijeilieaaW.PrintMore
set_option linter.unusedVariables false
set_option linter.unusedSimpArgs false
set_option maxRecDepth 4000
def prT (p : S46) : Int × Int := (p.f0, p.f1)
def prsT (l : List S46) : List (Int × Int) := l.map prT
theorem prsT_len (l : List S46) : (prsT l).length = l.length := by simp [prsT]
theorem rdT_get {l : List S46} {i : Nat} (h : i < l.length) : rd_T46 l (i : Int) = l[i] := by
  simp [rd_T46, h]
theorem dropT_eq {l : List S46} {i : Nat} (h : i < l.length) : l.drop i = rd_T46 l (i : Int) :: l.drop (i + 1) := by
  rw [rdT_get h]
  exact List.drop_eq_getElem_cons h
theorem rdT_lt {l : List S46} (hs : (prsT l).Pairwise fun a b => a.1 < b.1) {i j : Nat} (hij : i < j) (hj : j < l.length) : (rd_T46 l (i : Int)).f0 < (rd_T46 l (j : Int)).f0 := by
  have := List.pairwise_iff_getElem.1 hs i j (by rw [prsT_len]; omega) (by rw [prsT_len]; omega) hij
  rw [rdT_get (by omega), rdT_get hj]
  simpa [prsT, prT] using this
def msT (l : List (Int × Int)) : List S46 := l.map fun p => ⟨p.1, p.2⟩
def ptsT (l : List S43) : List (Int × Int) := l.map fun p => (p.f0, p.f2)
def okP (p : S43) : Bool := mayP p.f0 p.f1 p.f2
theorem ms_prs (l : List S46) : msT (prsT l) = l := by
  unfold msT prsT
  rw [List.map_map]
  exact List.map_id'' (fun _ => rfl) l
theorem prs_ms (l : List (Int × Int)) : prsT (msT l) = l := by
  unfold msT prsT
  rw [List.map_map]
  exact List.map_id'' (fun _ => rfl) l
theorem msT_len (l : List (Int × Int)) : (msT l).length = l.length := by simp [msT]
theorem ptsT_len (l : List S43) : (ptsT l).length = l.length := by simp [ptsT]
theorem msT_append (a b : List (Int × Int)) : msT (a ++ b) = msT a ++ msT b := by simp [msT]
theorem prsT_take (l : List S46) (i : Nat) : prsT (l.take i) = (prsT l).take i := by simp [prsT]
theorem prsT_drop (l : List S46) (i : Nat) : prsT (l.drop i) = (prsT l).drop i := by simp [prsT]
theorem rdQ_get {l : List S43} {i : Nat} (h : i < l.length) : rd_T43 l (i : Int) = l[i] := by
  simp [rd_T43, h]
theorem dropQ_eq {l : List S43} {i : Nat} (h : i < l.length) : l.drop i = rd_T43 l (i : Int) :: l.drop (i + 1) := by
  rw [rdQ_get h]
  exact List.drop_eq_getElem_cons h
theorem okP_iff {p : S43} : okP p = true ↔ 1 ≤ p.f0 ∧ p.f0 ≤ 2147483647 ∧ 0 ≤ p.f1 ∧ p.f1 ≤ 2147483647 ∧ 0 ≤ p.f2 ∧ p.f2 ≤ 4096 := mayP_iff
def fullS (l : List (Int × Int)) : List S46 × Int := if mayT l = true then (msT l, 0) else ([], 7)
theorem garnerlaw09_light_ev (l : List S46) (ps : List S43) : garnerlaw09_light.f l ps = some (decide (l.length ≤ 100 ∧ ps.length ≤ 60)) := by
  unfold garnerlaw09_light.f
  split
  · congr 1
    rw [decide_eq_decide]
    omega
  · congr 1
    symm
    rw [decide_eq_false_iff_not]
    omega
theorem tally_Check_ev (l : List S46) (hl : l.length ≤ 140737488351232) : Ev (fun k => tally_Check.f k l) (if mayT (prsT l) = true then 0 else 1) := by
  have main : ∀ (d j : Nat) (last : Int), l.length - j = d → j ≤ l.length → Ev (fun k => tally_Check.l0 k last l (l.length : Int) (j : Int)) (if sortT last (prsT (l.drop j)) = true then (0 : Int) else 1) := by
    intro d
    induction d with
    | zero =>
      intro j last hd hj
      rw [ev_succ]
      simp only [tally_Check.l0, ev_ite]
      rw [if_neg (by omega), ev_some, List.drop_eq_nil_of_le (by omega)]
      rfl
    | succ d ih =>
      intro j last hd hj
      have hjl : j < l.length := by omega
      have ih' := ih (j + 1) (rd_T46 l (j : Int)).f0 (by omega) (by omega)
      have hw : wrap64 ((j : Int) + 1) = ((j + 1 : Nat) : Int) := w64 (by omega) (by omega)
      rw [dropT_eq hjl]
      rw [ev_succ]
      simp only [tally_Check.l0, ev_ite, hw]
      generalize rd_T46 l (j : Int) = f at ih' ⊢
      have e2 : sortT last (prsT (f :: l.drop (j + 1))) = (decide (last < f.f0 ∧ f.f0 ≤ 2147483647 ∧ 1 ≤ f.f1 ∧ f.f1 ≤ 1099511627776) && sortT f.f0 (prsT (l.drop (j + 1)))) := rfl
      have no : ¬ (last < f.f0 ∧ f.f0 ≤ 2147483647 ∧ 1 ≤ f.f1 ∧ f.f1 ≤ 1099511627776) → (1 : Int) = (if sortT last (prsT (f :: l.drop (j + 1))) = true then 0 else 1) := by
        intro h
        rw [e2, decide_eq_false h, Bool.false_and, if_neg (by simp)]
      rw [if_pos (by omega), if_pos (by omega), if_pos (by omega)]
      by_cases h1 : f.f0 ≤ last
      · rw [if_pos h1, ev_some]; exact no (by omega)
      rw [if_neg h1]
      by_cases h2 : f.f0 > 2147483647
      · rw [if_pos h2, ev_some]; exact no (by omega)
      rw [if_neg h2]
      by_cases h3 : f.f1 < 1
      · rw [if_pos h3, ev_some]; exact no (by omega)
      rw [if_neg h3]
      by_cases h4 : f.f1 > 1099511627776
      · rw [if_pos h4, ev_some]; exact no (by omega)
      rw [if_neg h4]
      refine ev_eq ih' ?_
      rw [e2, decide_eq_true (by omega), Bool.true_and]
  simp only [tally_Check.f, ev_ite]
  unfold mayT
  rw [prsT_len]
  by_cases h : l.length > 4096
  · rw [if_pos (by omega), ev_some, decide_eq_false (by omega), Bool.false_and, if_neg (by simp)]
  · rw [if_neg (by omega), decide_eq_true (by omega), Bool.true_and]
    exact main (l.length - 0) 0 0 rfl (by omega)
theorem tally_find_1_ev (a b s : Int) : tally_find_1.f a b s = some (if a < s then -1 else if a > s then 1 else 0) := by
  have e : ∀ x : Int, cmp_isNaN_int.f x = some false := fun x => by
    unfold cmp_isNaN_int.f
    simp
  unfold tally_find_1.f cmp_Compare_int.f
  rw [e, e]
  simp only [Option.bind_some]
  rw [if_neg (by simp), if_neg (by simp)]
  repeat' split
  all_goals rfl
theorem slices_BinarySearchFunc_api_Share_int_ev (l : List S46) (s : Int) (hl : l.length ≤ 4096) (hs : (prsT l).Pairwise fun a b => a.1 < b.1) :
    ∃ i : Nat, i ≤ l.length ∧ (∀ j : Nat, j < i → (rd_T46 l (j : Int)).f0 < s) ∧ (∀ j : Nat, i ≤ j → j < l.length → s ≤ (rd_T46 l (j : Int)).f0) ∧ Ev (fun k => slices_BinarySearchFunc_api_Share_int.f k l s) ((i : Int), decide (i < l.length ∧ (rd_T46 l (i : Int)).f0 = s)) := by
  have main : ∀ (d lo hi : Nat), hi - lo ≤ d → lo ≤ hi → hi ≤ l.length → (∀ j : Nat, j < lo → (rd_T46 l (j : Int)).f0 < s) → (∀ j : Nat, hi ≤ j → j < l.length → s ≤ (rd_T46 l (j : Int)).f0) →
      ∃ i : Nat, i ≤ l.length ∧ (∀ j : Nat, j < i → (rd_T46 l (j : Int)).f0 < s) ∧ (∀ j : Nat, i ≤ j → j < l.length → s ≤ (rd_T46 l (j : Int)).f0) ∧ Ev (fun k => slices_BinarySearchFunc_api_Share_int.l0 k l s (l.length : Int) (lo : Int) (hi : Int)) ((i : Int), decide (i < l.length ∧ (rd_T46 l (i : Int)).f0 = s)) := by
    intro d
    induction d with
    | zero =>
      intro lo hi hd h1 h2 h3 h4
      obtain rfl : lo = hi := by omega
      refine ⟨lo, h2, h3, h4, ?_⟩
      rw [ev_succ]
      simp only [slices_BinarySearchFunc_api_Share_int.l0, ev_ite]
      rw [if_neg (by omega)]
      by_cases hn : lo < l.length
      · have := h4 lo (by omega) hn
        rw [if_pos (by omega), if_pos (by omega), if_pos (by omega), ev_bind_c (tally_find_1_ev _ _ _), ev_some]
        congr 1
        rw [if_neg (by omega)]
        by_cases he : (rd_T46 l (lo : Int)).f0 = s
        · rw [if_neg (by omega), decide_eq_true ⟨hn, he⟩]
          rfl
        · rw [if_pos (by omega), decide_eq_false (fun h => he h.2)]
          rfl
      · rw [if_neg (by omega), ev_some, decide_eq_false (fun h => hn h.1)]
    | succ d ih =>
      intro lo hi hd h1 h2 h3 h4
      by_cases hlt : lo < hi
      · have em : wrap64 (IntKind.u64.wrap (wrap64 ((lo : Int) + (hi : Int))) / 2) = (((lo + hi) / 2 : Nat) : Int) := by
          rw [w64 (x := (lo : Int) + (hi : Int)) (by omega) (by omega), wu64 (by omega) (by omega), w64 (by omega) (by omega)]
          omega
        have e1 : wrap64 ((((lo + hi) / 2 : Nat) : Int) + 1) = (((lo + hi) / 2 + 1 : Nat) : Int) := by
          rw [w64 (by omega) (by omega)]
          rfl
        generalize hm : (lo + hi) / 2 = m at em e1
        have hmr : lo ≤ m ∧ m < hi := by omega
        by_cases hc : (rd_T46 l (m : Int)).f0 < s
        · obtain ⟨i, i1, i2, i3, i4⟩ := ih (m + 1) hi (by omega) (by omega) h2 (by
            intro j hj
            by_cases hjm : j = m
            · rw [hjm]; exact hc
            · have := rdT_lt hs (i := j) (j := m) (by omega) (by omega)
              omega) h4
          refine ⟨i, i1, i2, i3, ?_⟩
          rw [ev_succ]
          simp only [slices_BinarySearchFunc_api_Share_int.l0, ev_ite, em, e1]
          rw [if_pos (by omega), if_pos (by omega), if_pos (by omega), ev_bind_c (tally_find_1_ev _ _ _), ev_ite, if_pos (by rw [if_pos hc]; omega)]
          exact i4
        · obtain ⟨i, i1, i2, i3, i4⟩ := ih lo m (by omega) (by omega) (by omega) h3 (by
            intro j hj hjl
            by_cases hjm : j = m
            · rw [hjm]; omega
            · have := rdT_lt hs (i := m) (j := j) (by omega) hjl
              omega)
          refine ⟨i, i1, i2, i3, ?_⟩
          rw [ev_succ]
          simp only [slices_BinarySearchFunc_api_Share_int.l0, ev_ite, em, e1]
          rw [if_pos (by omega), if_pos (by omega), if_pos (by omega), ev_bind_c (tally_find_1_ev _ _ _), ev_ite, if_neg (by rw [if_neg hc]; split <;> omega)]
          exact i4
      · exact ih lo hi (by omega) h1 h2 h3 h4
  exact main l.length 0 l.length (by omega) (by omega) (by omega) (fun j hj => by omega) (fun j h1 h2 => by omega)
theorem tally_find_ev {l : List S46} (h1 : l.length ≤ 4096) (hs : (prsT l).Pairwise fun a b => a.1 < b.1) (s : Int) :
    ∃ i : Nat, i ≤ l.length ∧ (∀ p ∈ (prsT l).take i, p.1 < s) ∧ (∀ (h : i < l.length), s ≤ l[i].f0) ∧ Ev (fun k => tally_find.f k l s) ((i : Int), decide (i < l.length ∧ (rd_T46 l (i : Int)).f0 = s)) := by
  obtain ⟨i, i1, i2, i3, i4⟩ := slices_BinarySearchFunc_api_Share_int_ev l s h1 hs
  refine ⟨i, i1, ?_, ?_, ?_⟩
  · intro p hp
    obtain ⟨j, hj, rfl⟩ := List.mem_iff_getElem.1 hp
    rw [List.length_take, prsT_len] at hj
    have := i2 j (by omega)
    rw [rdT_get (by omega)] at this
    rw [List.getElem_take]
    simpa [prsT, prT] using this
  · intro h
    have := i3 i (by omega) h
    rwa [rdT_get h] at this
  · simp only [tally_find.f]
    rw [ev_bind i4, ev_some]
theorem point_Check_ev (s a l u : Int) : point_Check.f s a l u = some (if mayP s a l = true then 0 else 1) := by
  simp only [point_Check.f, mayP_iff]
  repeat' split
  all_goals first | rfl | omega
theorem slices_IndexFunc_api_Point_ev (l : List S43) (hl : l.length ≤ 140737488351232) : ∃ r : Int, Ev (fun k => slices_IndexFunc_api_Point.f k l) r ∧ (r ≥ 0 ↔ l.all okP = false) := by
  have main : ∀ (d j : Nat), l.length - j = d → j ≤ l.length → ∃ r : Int, Ev (fun k => slices_IndexFunc_api_Point.l0 k l (l.length : Int) (j : Int)) r ∧ (r ≥ 0 ↔ (l.drop j).all okP = false) := by
    intro d
    induction d with
    | zero =>
      intro j hd hj
      refine ⟨-1, ?_, ?_⟩
      · rw [ev_succ]
        simp only [slices_IndexFunc_api_Point.l0, ev_ite]
        rw [if_neg (by omega), ev_some]
      · rw [List.drop_eq_nil_of_le (by omega)]
        simp
    | succ d ih =>
      intro j hd hj
      have hjl : j < l.length := by omega
      have hw : wrap64 ((j : Int) + 1) = ((j + 1 : Nat) : Int) := w64 (by omega) (by omega)
      obtain ⟨r, r1, r2⟩ := ih (j + 1) (by omega) (by omega)
      rw [dropQ_eq hjl, List.all_cons]
      generalize hp : rd_T43 l (j : Int) = p
      have hm : tally_may_1.f p.f0 p.f1 p.f2 p.f3 = some (!okP p) := by
        unfold tally_may_1.f
        rw [point_Check_ev]
        simp only [Option.bind_some, okP]
        cases mayP p.f0 p.f1 p.f2 <;> rfl
      by_cases hb : okP p = true
      · refine ⟨r, ?_, by rw [r2, hb, Bool.true_and]⟩
        rw [ev_succ]
        simp only [slices_IndexFunc_api_Point.l0, ev_ite, hw, hp]
        rw [if_pos (by omega), if_pos (by omega), if_pos (by omega), ev_bind_c hm, ev_ite, if_neg (by simp [hb])]
        exact r1
      · refine ⟨j, ?_, ?_⟩
        · rw [ev_succ]
          simp only [slices_IndexFunc_api_Point.l0, ev_ite, hw, hp]
          rw [if_pos (by omega), if_pos (by omega), if_pos (by omega), ev_bind_c hm, ev_ite, if_pos (by simpa using hb), ev_some]
        · rw [Bool.not_eq_true] at hb
          rw [hb, Bool.false_and]
          simp
  obtain ⟨r, h1, h2⟩ := main (l.length - 0) 0 rfl (by omega)
  rw [List.drop_zero] at h2
  refine ⟨r, ?_, h2⟩
  simp only [slices_IndexFunc_api_Point.f]
  exact h1
theorem tally_may_ev (l : List S46) (ps : List S43) (hl : l.length ≤ 140737488351232) (hp : ps.length ≤ 140737488351232) : Ev (fun k => tally_may.f k l ps) (mayT (prsT l) && ps.all okP) := by
  obtain ⟨r, r1, r2⟩ := slices_IndexFunc_api_Point_ev ps hp
  have hc : Ev (fun k => slices_ContainsFunc_api_Point.f k ps) (!ps.all okP) := by
    simp only [slices_ContainsFunc_api_Point.f]
    rw [ev_bind r1, ev_some]
    cases h : ps.all okP with
    | true => rw [h] at r2; simp at r2 ⊢; exact r2
    | false => rw [h] at r2; simp at r2 ⊢; exact r2
  simp only [tally_may.f]
  rw [ev_bind (tally_Check_ev l hl), ev_ite]
  by_cases h : mayT (prsT l) = true
  · rw [if_pos h, if_pos rfl, ev_bind hc, ev_some, h, Bool.not_not, Bool.true_and]
  · rw [if_neg h, if_neg (by decide), ev_some]
    rw [Bool.not_eq_true] at h
    rw [h, Bool.false_and]
theorem tally_more_ev {l : List S46} (h1 : l.length ≤ 4096) (hk : OkT (prsT l)) {B : Int} (hB : 0 ≤ B) (hb : ∀ p ∈ prsT l, p.2 ≤ B) {s n : Int} (hs : 1 ≤ s ∧ s ≤ 2147483647) (hn : 0 ≤ n) (hBn : B + n ≤ 4611686018427387904) :
    Ev (fun k => tally_more.f k l s n) (msT (setT (prsT l) s (getT (prsT l) s + n))) := by
  simp only [tally_more.f, ev_ite]
  by_cases h0 : n = 0
  · rw [if_pos h0, ev_some, h0, Int.add_zero, setT_self hk hs, ms_prs]
  rw [if_neg h0]
  obtain ⟨i, i1, i2, i3, i4⟩ := tally_find_ev h1 hk.1 s
  have ha := setT_at (s := s) (n := getT (prsT l) s + n) i (prsT l) (by rw [prsT_len]; exact i1) i2
  have hg := getT_at (s := s) i (prsT l) (by rw [prsT_len]; exact i1) i2
  rw [ev_bind i4, ev_ite]
  by_cases hc : i < l.length ∧ (rd_T46 l (i : Int)).f0 = s
  · obtain ⟨c1, c2⟩ := hc
    have hd : (prsT l).drop i = (l[i].f0, l[i].f1) :: (prsT l).drop (i + 1) := by
      rw [List.drop_eq_getElem_cons (by rw [prsT_len]; exact c1)]
      congr 1
      simp [prsT, prT]
    rw [rdT_get c1] at c2
    have hgv : getT (prsT l) s = l[i].f1 := by rw [hg, hd, getT, if_pos c2]
    have hv := get_le hB hb s
    have hv0 := hk.2 (prT l[i]) (List.mem_map.2 ⟨_, List.getElem_mem c1, rfl⟩)
    simp only [prT] at hv0
    have hw : wrap64 (l[i].f1 + n) = l[i].f1 + n := w64 (by omega) (by omega)
    simp only [rdT_get c1, hw, Int.toNat_natCast, ev_ite]
    rw [if_pos (decide_eq_true ⟨c1, c2⟩), if_pos (by omega), if_pos (by omega), ev_some, ha, hd, hgv, setT, if_neg (by simp only; omega), if_pos c2, if_neg (by omega), msT_append, List.set_eq_take_append_cons_drop, if_pos c1, ← prsT_take, ms_prs]
    congr 1
    have e : msT ((s, l[i].f1 + n) :: (prsT l).drop (i + 1)) = ⟨s, l[i].f1 + n⟩ :: msT ((prsT l).drop (i + 1)) := rfl
    rw [e, ← prsT_drop, ms_prs, ← c2]
  · rw [decide_eq_false hc]
    have hfi : slices_Insert_api_Share.f l (i : Int) [⟨s, n⟩] = some (l.take i ++ [⟨s, n⟩] ++ l.drop i) := by
      unfold slices_Insert_api_Share.f
      rw [if_pos ⟨by omega, by omega, rfl, by omega⟩, Int.toNat_natCast]
    have hdr : setT ((prsT l).drop i) s (getT (prsT l) s + n) = (s, n) :: (prsT l).drop i ∧ getT (prsT l) s = 0 := by
      by_cases hil : i < l.length
      · have hd : (prsT l).drop i = (l[i].f0, l[i].f1) :: (prsT l).drop (i + 1) := by
          rw [List.drop_eq_getElem_cons (by rw [prsT_len]; exact hil)]
          congr 1
          simp [prsT, prT]
        have h3 := i3 hil
        have hne : l[i].f0 ≠ s := fun e => hc ⟨hil, by rw [rdT_get hil]; exact e⟩
        have hso : SortP ((prsT l).drop i) := hk.1.sublist (List.drop_sublist _ _)
        have hg0 : getT (prsT l) s = 0 := by
          rw [hg]
          refine getT_none (fun p hp => ?_)
          rw [hd] at hp hso
          have h4 := List.pairwise_cons.1 hso
          rcases List.mem_cons.1 hp with rfl | hp
          · exact hne
          · have := h4.1 p hp
            simp only at this
            omega
        refine ⟨?_, hg0⟩
        rw [hg0, Int.zero_add, hd, setT, if_neg (by simp only; omega), if_neg hne, if_neg h0]
      · have hd : (prsT l).drop i = [] := List.drop_eq_nil_of_le (by rw [prsT_len]; omega)
        have hg0 : getT (prsT l) s = 0 := by rw [hg, hd]; rfl
        refine ⟨?_, hg0⟩
        rw [hg0, Int.zero_add, hd, setT, if_neg h0]
    rw [if_neg (by simp), ev_bind_c hfi, ev_some, ha, hdr.1, msT_append, ← prsT_take, ms_prs]
    have e : msT ((s, n) :: (prsT l).drop i) = ⟨s, n⟩ :: msT ((prsT l).drop i) := rfl
    rw [e, ← prsT_drop, ms_prs, List.append_assoc]
    rfl
theorem tally_full_ev (l : List S46) (hl : l.length ≤ 140737488351232) : Ev (fun k => tally_full.f k l) (fullS (prsT l)) := by
  simp only [tally_full.f]
  rw [ev_bind (tally_Check_ev l hl), ev_ite]
  unfold fullS
  by_cases h : mayT (prsT l) = true
  · rw [if_pos h, if_pos h, if_pos rfl, ev_some, ms_prs]
  · rw [if_neg h, if_neg h, if_neg (by decide), ev_some]
theorem good_pts {ps : List S43} (h : ps.all okP = true) : GoodP (ptsT ps) ∧ ∀ q ∈ ptsT ps, q.2 ≤ 4096 := by
  have h1 := List.all_eq_true.1 h
  constructor
  · intro q hq
    obtain ⟨p, hp, rfl⟩ := List.mem_map.1 hq
    have := okP_iff.1 (h1 p hp)
    simp only
    omega
  · intro q hq
    obtain ⟨p, hp, rfl⟩ := List.mem_map.1 hq
    have := okP_iff.1 (h1 p hp)
    simp only
    omega
theorem tally_Add_loop (ps : List S43) (hps : ps.all okP = true) (hpl : ps.length ≤ 200) : ∀ (d j : Nat) (x : List (Int × Int)) (B : Int), ps.length - j = d → j ≤ ps.length → OkT x → x.length + (ps.length - j) ≤ 4000 → 0 ≤ B → (∀ p ∈ x, p.2 ≤ B) → B + 4096 * d ≤ 4611686018427387904 →
    Ev (fun k => tally_Add.l0 k (msT x) ps (ps.length : Int) (j : Int)) (fullS (addT x (ptsT (ps.drop j)))) := by
  have hg := good_pts hps
  intro d
  induction d with
  | zero =>
    intro j x B hd hj hx hxl hB hb hBd
    rw [ev_succ]
    simp only [tally_Add.l0, ev_ite]
    rw [if_neg (by omega), ev_bind (tally_full_ev _ (by rw [msT_len]; omega)), ev_some, List.drop_eq_nil_of_le (by omega), prs_ms]
    rfl
  | succ d ih =>
    intro j x B hd hj hx hxl hB hb hBd
    have hjl : j < ps.length := by omega
    have hw : wrap64 ((j : Int) + 1) = ((j + 1 : Nat) : Int) := w64 (by omega) (by omega)
    have hok := okP_iff.1 (List.all_eq_true.1 hps _ (List.getElem_mem hjl))
    have hm := tally_more_ev (l := msT x) (by rw [msT_len]; omega) (by rw [prs_ms]; exact hx) hB (by rw [prs_ms]; exact hb) (s := ps[j].f0) (n := ps[j].f2) ⟨hok.1, hok.2.1⟩ (by omega) (by omega)
    rw [prs_ms] at hm
    have hgx := ok_get hx ps[j].f0
    have hle := get_le hB hb ps[j].f0
    have hsl := setT_len x ps[j].f0 (getT x ps[j].f0 + ps[j].f2)
    have ih' := ih (j + 1) (setT x ps[j].f0 (getT x ps[j].f0 + ps[j].f2)) (B + 4096) (by omega) (by omega) (ok_set hx ⟨hok.1, hok.2.1⟩ (by omega)) (by omega) (by omega) (setT_bound (fun p hp => by have := hb p hp; omega) (by omega)) (by omega)
    rw [ev_succ]
    simp only [tally_Add.l0, ev_ite, hw, rdQ_get hjl]
    rw [if_pos (by omega), if_pos (by omega), if_pos (by omega), ev_bind hm]
    refine ev_eq ih' ?_
    rw [dropQ_eq hjl, rdQ_get hjl]
    rfl
theorem tally_Add_ev (l : List S46) (ps : List S43) (hl : l.length ≤ 200) (hp : ps.length ≤ 200) : Ev (fun k => tally_Add.f k l ps) (if (mayT (prsT l) && ps.all okP) = true then fullS (addT (prsT l) (ptsT ps)) else ([], 1)) := by
  simp only [tally_Add.f]
  rw [ev_bind (tally_may_ev l ps (by omega) (by omega)), ev_ite]
  by_cases h : (mayT (prsT l) && ps.all okP) = true
  · rw [if_pos h, if_pos h]
    rw [Bool.and_eq_true] at h
    obtain ⟨m1, m2, m3⟩ := mayT_ok h.1
    have hcl : slices_Clone_api_Share.f l = some l := by
      unfold slices_Clone_api_Share.f
      rw [if_pos (by omega)]
    have := tally_Add_loop ps h.2 hp (ps.length - 0) 0 (prsT l) 1099511627776 rfl (by omega) m1 (by rw [prsT_len]; omega) (by omega) m3 (by omega)
    rw [ms_prs, List.drop_zero] at this
    rw [ev_bind_c hcl]
    exact this
  · rw [if_neg h, if_neg h, ev_some]
theorem tally_Of_ev (ps : List S43) (hp : ps.length ≤ 200) : Ev (fun k => tally_Of.f k ps) (if ps.all okP = true then fullS (addT [] (ptsT ps)) else ([], 1)) := by
  have h := tally_Add_ev [] ps (by simp) hp
  have e : mayT (prsT []) = true := by decide
  rw [e, Bool.true_and] at h
  simp only [tally_Of.f]
  rw [ev_bind h, ev_some]
  rfl
theorem garnerlaw09_awake_ev : Ev (fun k => garnerlaw09_awake.f k) true := Ev.of (fun k => garnerlaw09_awake.mono k) (k := 60) (by decide +kernel)
theorem garnerref09_May_ev (l : List S46) (hl : l.length ≤ 140737488351232) : Ev (fun k => garnerref09_May.f k l) (mayT (prsT l)) := by
  have main : ∀ (d j : Nat) (last : Int), l.length - j = d → j ≤ l.length → 0 ≤ last → (j = 0 → last = 0) → (∀ i : Nat, j = i + 1 → last = (rd_T46 l (i : Int)).f0) → Ev (fun k => garnerref09_May.l0 k l (j : Int)) (decide (l.length ≤ 4096) && sortT last (prsT (l.drop j))) := by
    intro d
    induction d with
    | zero =>
      intro j last hd hj _ _ _
      rw [ev_succ]
      simp only [garnerref09_May.l0, ev_ite]
      rw [if_neg (by omega), ev_some, List.drop_eq_nil_of_le (by omega)]
      have e : sortT last (prsT []) = true := rfl
      rw [e, Bool.and_true, decide_eq_decide]
      omega
    | succ d ih =>
      intro j last hd hj hn h0 hs
      have hjl : j < l.length := by omega
      have ih' := ih (j + 1) (rd_T46 l (j : Int)).f0 (by omega) (by omega)
      have ih' := fun h => ih' h (by omega) (fun i hi => by rw [show i = j by omega])
      have hw : wrap64 ((j : Int) + 1) = ((j + 1 : Nat) : Int) := w64 (by omega) (by omega)
      rw [dropT_eq hjl]
      rw [ev_succ]
      simp only [garnerref09_May.l0, ev_ite, hw]
      generalize rd_T46 l (j : Int) = f at ih' ⊢
      have e2 : sortT last (prsT (f :: l.drop (j + 1))) = (decide (last < f.f0 ∧ f.f0 ≤ 2147483647 ∧ 1 ≤ f.f1 ∧ f.f1 ≤ 1099511627776) && sortT f.f0 (prsT (l.drop (j + 1)))) := rfl
      have no : ¬ (last < f.f0 ∧ f.f0 ≤ 2147483647 ∧ 1 ≤ f.f1 ∧ f.f1 ≤ 1099511627776) → false = (decide (l.length ≤ 4096) && sortT last (prsT (f :: l.drop (j + 1)))) := by
        intro h
        rw [e2, decide_eq_false h, Bool.false_and, Bool.and_false]
      have yes : (last < f.f0 ∧ f.f0 ≤ 2147483647 ∧ 1 ≤ f.f1 ∧ f.f1 ≤ 1099511627776) → (decide (l.length ≤ 4096) && sortT f.f0 (prsT (l.drop (j + 1)))) = (decide (l.length ≤ 4096) && sortT last (prsT (f :: l.drop (j + 1)))) := by
        intro h
        rw [e2, decide_eq_true h, Bool.true_and]
      rw [if_pos (by omega), if_pos (by omega)]
      by_cases h1 : f.f0 < 1
      · rw [if_pos h1, ev_some]; exact no (by omega)
      rw [if_neg h1]
      by_cases h2 : f.f0 > 2147483647
      · rw [if_pos h2, ev_some]; exact no (by omega)
      rw [if_neg h2]
      by_cases h3 : f.f1 < 1
      · rw [if_pos h3, ev_some]; exact no (by omega)
      rw [if_neg h3]
      by_cases h4 : f.f1 > 1099511627776
      · rw [if_pos h4, ev_some]; exact no (by omega)
      rw [if_neg h4]
      by_cases hj0 : j = 0
      · rw [if_neg (by omega)]
        exact ev_eq (ih' (by omega)) (yes (by have := h0 hj0; omega))
      · have hp := hs (j - 1) (by omega)
        have e : wrap64 ((j : Int) - 1) = ((j - 1 : Nat) : Int) := by
          rw [w64 (by omega) (by omega)]
          omega
        rw [if_pos (by omega), e, if_pos (by omega), if_pos (by omega), ← hp]
        by_cases h5 : f.f0 ≤ last
        · rw [if_pos h5, ev_some]; exact no (by omega)
        · rw [if_neg h5]
          exact ev_eq (ih' (by omega)) (yes (by omega))
  have := main (l.length - 0) 0 0 rfl (by omega) (by omega) (fun _ => rfl) (fun i hi => by omega)
  unfold mayT
  rw [prsT_len]
  exact this
theorem garnerref09_Same_ev (l : List S46) (hl : l.length ≤ 140737488351232) : Ev (fun k => garnerref09_Same.f k l l) true := by
  have main : ∀ (d j : Nat), l.length - j = d → j ≤ l.length → Ev (fun k => garnerref09_Same.l0 k l l (j : Int)) true := by
    intro d
    induction d with
    | zero =>
      intro j hd hj
      rw [ev_succ]
      simp only [garnerref09_Same.l0, ev_ite]
      rw [if_neg (by omega), ev_some]
    | succ d ih =>
      intro j hd hj
      have hw : wrap64 ((j : Int) + 1) = ((j + 1 : Nat) : Int) := w64 (by omega) (by omega)
      rw [ev_succ]
      simp only [garnerref09_Same.l0, ev_ite, hw]
      rw [if_pos (by omega), if_pos (by omega), if_pos (by omega), if_neg (by simp)]
      exact ih (j + 1) (by omega) (by omega)
  simp only [garnerref09_Same.f, ev_ite]
  rw [if_pos (by trivial)]
  exact main (l.length - 0) 0 rfl (by omega)
theorem tally_Join_loop (y : List S46) (hy : OkT (prsT y)) (hyb : ∀ p ∈ prsT y, p.2 ≤ 1099511627776) (hyl : y.length ≤ 200) : ∀ (d j : Nat) (x : List (Int × Int)) (B : Int), y.length - j = d → j ≤ y.length → OkT x → x.length + (y.length - j) ≤ 4000 → 0 ≤ B → (∀ p ∈ x, p.2 ≤ B) → B + 1099511627776 * d ≤ 4611686018427387904 →
    Ev (fun k => tally_Join.l0 k (msT x) y (y.length : Int) (j : Int)) (fullS (addT x (prsT (y.drop j)))) := by
  intro d
  induction d with
  | zero =>
    intro j x B hd hj hx hxl hB hb hBd
    rw [ev_succ]
    simp only [tally_Join.l0, ev_ite]
    rw [if_neg (by omega), ev_bind (tally_full_ev _ (by rw [msT_len]; omega)), ev_some, List.drop_eq_nil_of_le (by omega), prs_ms]
    rfl
  | succ d ih =>
    intro j x B hd hj hx hxl hB hb hBd
    have hjl : j < y.length := by omega
    have hw : wrap64 ((j : Int) + 1) = ((j + 1 : Nat) : Int) := w64 (by omega) (by omega)
    have hme : prT y[j] ∈ prsT y := List.mem_map.2 ⟨_, List.getElem_mem hjl, rfl⟩
    have hok := hy.2 _ hme
    have hokb := hyb _ hme
    simp only [prT] at hok hokb
    have hm := tally_more_ev (l := msT x) (by rw [msT_len]; omega) (by rw [prs_ms]; exact hx) hB (by rw [prs_ms]; exact hb) (s := y[j].f0) (n := y[j].f1) ⟨hok.1, hok.2.1⟩ (by omega) (by omega)
    rw [prs_ms] at hm
    have hgx := ok_get hx y[j].f0
    have hle := get_le hB hb y[j].f0
    have hsl := setT_len x y[j].f0 (getT x y[j].f0 + y[j].f1)
    have ih' := ih (j + 1) (setT x y[j].f0 (getT x y[j].f0 + y[j].f1)) (B + 1099511627776) (by omega) (by omega) (ok_set hx ⟨hok.1, hok.2.1⟩ (by omega)) (by omega) (by omega) (setT_bound (fun p hp => by have := hb p hp; omega) (by omega)) (by omega)
    rw [ev_succ]
    simp only [tally_Join.l0, ev_ite, hw, rdT_get hjl]
    rw [if_pos (by omega), if_pos (by omega), if_pos (by omega), ev_bind hm]
    refine ev_eq ih' ?_
    rw [dropT_eq hjl, rdT_get hjl]
    rfl
theorem tally_Join_ev (l y : List S46) (hl : l.length ≤ 200) (hyl : y.length ≤ 200) : Ev (fun k => tally_Join.f k l y) (if (mayT (prsT l) && mayT (prsT y)) = true then fullS (addT (prsT l) (prsT y)) else ([], 1)) := by
  have j0t : Ev (fun k => tally_Join.j0 k l y true) ([], 1) := by
    rw [ev_succ]
    simp only [tally_Join.j0, ev_ite]
    rw [if_pos (by trivial), ev_some]
  simp only [tally_Join.f]
  rw [ev_bind (tally_Check_ev l (by omega)), ev_ite]
  by_cases h : mayT (prsT l) = true
  rotate_left
  · rw [if_neg h, if_neg (by decide)]
    rw [Bool.not_eq_true] at h
    rw [h, Bool.false_and, if_neg (by simp)]
    exact j0t
  rw [if_pos h, if_pos rfl, ev_bind (tally_Check_ev y (by omega))]
  by_cases h2 : mayT (prsT y) = true
  rotate_left
  · rw [if_neg h2]
    rw [Bool.not_eq_true] at h2
    rw [h2, Bool.and_false, if_neg (by simp)]
    exact j0t
  obtain ⟨m1, m2, m3⟩ := mayT_ok h
  obtain ⟨n1, n2, n3⟩ := mayT_ok h2
  have hcl : slices_Clone_api_Share.f l = some l := by
    unfold slices_Clone_api_Share.f
    rw [if_pos (by omega)]
  have := tally_Join_loop y n1 n3 hyl (y.length - 0) 0 (prsT l) 1099511627776 rfl (by omega) m1 (by rw [prsT_len]; omega) (by omega) m3 (by omega)
  rw [ms_prs, List.drop_zero] at this
  rw [if_pos h2, h, h2, if_pos (by rfl), ev_succ]
  simp only [tally_Join.j0, ev_ite]
  rw [if_neg (by decide), ev_bind_c hcl]
  exact this
theorem TallyJoins : StTallyJoins.Pure := by
  intro a b l _ _ _ _ _ _ _ _ _
  refine Ev.rounds (g := fun k => garnerlaw09_TallyJoins.f k a b l) ?_
  have fin : Ev (fun k => (garnerlaw09_awake.f k).bind fun t => some t) true := by rw [ev_bind garnerlaw09_awake_ev, ev_some]
  have j0t : Ev (fun k => garnerlaw09_TallyJoins.j0 k a b l true) true := by
    rw [ev_succ]
    simp only [garnerlaw09_TallyJoins.j0, ev_ite]
    rw [if_pos (by trivial)]
    exact fin
  have j1t : ∀ x y, Ev (fun k => garnerlaw09_TallyJoins.j1 k a b x y true) true := by
    intro x y
    rw [ev_succ]
    simp only [garnerlaw09_TallyJoins.j1, ev_ite]
    rw [if_pos (by trivial)]
    exact fin
  simp only [garnerlaw09_TallyJoins.f]
  rw [ev_bind_c (garnerlaw09_light_ev l a), ev_ite]
  by_cases c1 : l.length ≤ 100 ∧ a.length ≤ 60
  rotate_left
  · rw [if_neg (by simpa using c1)]
    exact j0t
  obtain ⟨hl, ha⟩ := c1
  rw [if_pos (by simp; omega)]
  by_cases hb : b.length ≤ 60
  rotate_left
  · rw [decide_eq_true (by omega)]
    exact j0t
  rw [decide_eq_false (by omega), ev_succ]
  simp only [garnerlaw09_TallyJoins.j0, ev_ite]
  have hj := tally_Join_ev l [] (by omega) (by simp)
  have e0 : mayT (prsT ([] : List S46)) = true := by decide
  rw [e0, Bool.and_true] at hj
  rw [if_neg (by simp), ev_bind hj, ev_bind (garnerref09_May_ev l (by omega)), ev_ite]
  have hne : ¬ (((if mayT (prsT l) = true then fullS (addT (prsT l) (prsT [])) else ([], 1)).2 == 1) == mayT (prsT l)) = true := by
    have e1 : addT (prsT l) (prsT ([] : List S46)) = prsT l := rfl
    rw [e1]
    unfold fullS
    by_cases hm : mayT (prsT l) = true
    · rw [if_pos hm, if_pos hm, hm]
      simp
    · rw [if_neg hm]
      rw [Bool.not_eq_true] at hm
      rw [hm]
      simp
  rw [if_neg hne, ev_bind (tally_Of_ev a (by omega)), ev_bind (tally_Of_ev b (by omega)), ev_ite]
  by_cases qa : a.all okP = true
  rotate_left
  · rw [if_neg qa, if_neg (by decide)]
    exact j1t _ _
  obtain ⟨ga, ga2⟩ := good_pts qa
  obtain ⟨x1, x2, x3⟩ := addT_spec ok_nil ga
  rw [ptsT_len] at x3
  simp only [List.length_nil, Nat.zero_add] at x3
  rw [if_pos qa]
  have g0 : ∀ t, getT [] t = 0 := fun _ => rfl
  have bound : ∀ {c : List S43} (hc : c.all okP = true) (hcl : c.length ≤ 120) (t : Int), sumT (ptsT c) t ≤ 491520 := fun {c} hc hcl t => by
    have h1 := sum_le (good_pts hc).2 (by omega) t
    rw [ptsT_len] at h1
    omega
  have mayOf : ∀ {c : List S43} (hc : c.all okP = true), c.length ≤ 120 → mayT (addT [] (ptsT c)) = true := fun {c} hc hcl => by
    obtain ⟨z1, z2, z3⟩ := addT_spec ok_nil (good_pts hc).1
    rw [ptsT_len] at z3
    simp only [List.length_nil, Nat.zero_add] at z3
    exact ok_mayT z1 (by omega) (le_of_get z1 (fun t => by
      have h1 := z2 t
      have h2 := bound hc hcl t
      rw [g0] at h1
      omega))
  have ma := mayOf qa (by omega)
  unfold fullS
  rw [if_pos ma, if_pos rfl]
  by_cases qb : b.all okP = true
  rotate_left
  · rw [if_neg qb]
    exact j1t _ _
  obtain ⟨gb, gb2⟩ := good_pts qb
  obtain ⟨y1, y2, y3⟩ := addT_spec ok_nil gb
  rw [ptsT_len] at y3
  simp only [List.length_nil, Nat.zero_add] at y3
  have mb := mayOf qb (by omega)
  rw [if_pos qb, if_pos mb, ev_succ]
  simp only [garnerlaw09_TallyJoins.j1, ev_ite]
  have hjj := tally_Join_ev (msT (addT [] (ptsT a))) (msT (addT [] (ptsT b))) (by rw [msT_len]; omega) (by rw [msT_len]; omega)
  rw [prs_ms, prs_ms, ma, mb, if_pos (by rfl)] at hjj
  have qab : (a ++ b).all okP = true := by rw [List.all_append, qa, qb]; rfl
  have mab := mayOf qab (by rw [List.length_append]; omega)
  obtain ⟨w1, w2, w3⟩ := addT_spec ok_nil (good_pts qab).1
  rw [ptsT_len, List.length_append] at w3
  simp only [List.length_nil, Nat.zero_add] at w3
  have gy : GoodP (addT [] (ptsT b)) := fun p hp => by have := y1.2 p hp; omega
  obtain ⟨v1, v2, _⟩ := addT_spec x1 gy
  have pab : ptsT (a ++ b) = ptsT a ++ ptsT b := by simp [ptsT]
  have e : addT (addT [] (ptsT a)) (addT [] (ptsT b)) = addT [] (ptsT (a ++ b)) := ok_ext v1 w1 (fun t => by
    rw [v2, w2, x2, sum_own y1.1, y2, pab, sum_append, g0]
    omega)
  unfold fullS at hjj
  rw [e, if_pos mab] at hjj
  have hof := tally_Of_ev (a ++ b) (by rw [List.length_append]; omega)
  unfold fullS at hof
  rw [if_pos qab, if_pos mab] at hof
  rw [if_neg (by decide), ev_bind hjj]
  simp only [Option.bind_some, List.nil_append, ev_ite, List.length_nil, Nat.zero_add]
  rw [if_pos (by omega), if_pos (by omega), ev_bind hof]
  simp only [ev_ite]
  rw [if_pos (by trivial), if_pos (by trivial), ev_bind (garnerref09_Same_ev _ (by rw [msT_len]; omega)), ev_ite, if_pos (by trivial)]
  exact fin
end Go.Proofs.Ytkapmlijeilieaa.Pure
