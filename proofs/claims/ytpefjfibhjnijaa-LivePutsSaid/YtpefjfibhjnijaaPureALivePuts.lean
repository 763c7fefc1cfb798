/- The pure statement of the law LivePuts: what the printed functions answer, each by its plain law, and that the law's answer is true. -/
import Derived.Test.YtpefjfibhjnijaaPLivePutsx0
import Derived.Test.YtpefjfibhjnijaaPLivePutsx4
import Derived.Test.YtpefjfibhjnijaaPLivePutsx5
import Derived.Test.YtpefjfibhjnijaaPLivePutsx7
import Derived.Test.YtpefjfibhjnijaaPLivePutsx9
import Derived.Test.YtpefjfibhjnijaaPLivePutsx16
import Derived.Test.YtpefjfibhjnijaaQSz
import Derived.Test.YtpefjfibhjnijaaQV02
import Derived.Test.YtpefjfibhjnijaaQV04
import Derived.Test.YtpefjfibhjnijaaQG04
import Derived.Test.YtpefjfibhjnijaaQF09
import Derived.Test.YtpefjfibhjnijaaQC09
namespace Go.Proofs.Ytpefjfibhjnijaa.Pure
open Go.RowKit Go.Proofs.Ytpefjfibhjnijaa.PLivePuts Go.Proofs.Ytpefjfibhjnijaa.U Go.Proofs.YtpefjfibhjnijaaW.PrintWords Go.Proofs.YtpefjfibhjnijaaW.PrintLast Go.Proofs.YtpefjfibhjnijaaW.PrintMore
set_option linter.unusedVariables false
set_option linter.unusedSimpArgs false
set_option maxRecDepth 4000
def prT (p : S79) : Int × Int := (p.f0, p.f1)
def prsT (l : List S79) : List (Int × Int) := l.map prT
theorem prsT_len (l : List S79) : (prsT l).length = l.length := by simp [prsT]
theorem rdT_get {l : List S79} {i : Nat} (h : i < l.length) : rd_T79 l (i : Int) = l[i] := by
 simp [rd_T79, h]
theorem dropT_eq {l : List S79} {i : Nat} (h : i < l.length) : l.drop i = rd_T79 l (i : Int) :: l.drop (i + 1) := by
 rw [rdT_get h]
 exact List.drop_eq_getElem_cons h
theorem rdT_lt {l : List S79} (hs : (prsT l).Pairwise fun a b => a.1 < b.1) {i j : Nat} (hij : i < j) (hj : j < l.length) : (rd_T79 l (i : Int)).f0 < (rd_T79 l (j : Int)).f0 := by
 have := List.pairwise_iff_getElem.1 hs i j (by rw [prsT_len]; omega) (by rw [prsT_len]; omega) hij
 rw [rdT_get (by omega), rdT_get hj]
 simpa [prsT, prT] using this
def msT (l : List (Int × Int)) : List S79 := l.map fun p => ⟨p.1, p.2⟩
def ptsT (l : List S24) : List (Int × Int) := l.map fun p => (p.f0, p.f2)
def okP (p : S24) : Bool := mayP p.f0 p.f1 p.f2
theorem ms_prs (l : List S79) : msT (prsT l) = l := by
 unfold msT prsT
 rw [List.map_map]
 exact List.map_id'' (fun _ => rfl) l
theorem prs_ms (l : List (Int × Int)) : prsT (msT l) = l := by
 unfold msT prsT
 rw [List.map_map]
 exact List.map_id'' (fun _ => rfl) l
theorem msT_len (l : List (Int × Int)) : (msT l).length = l.length := by simp [msT]
theorem ptsT_len (l : List S24) : (ptsT l).length = l.length := by simp [ptsT]
theorem msT_append (a b : List (Int × Int)) : msT (a ++ b) = msT a ++ msT b := by simp [msT]
theorem prsT_take (l : List S79) (i : Nat) : prsT (l.take i) = (prsT l).take i := by simp [prsT]
theorem prsT_drop (l : List S79) (i : Nat) : prsT (l.drop i) = (prsT l).drop i := by simp [prsT]
theorem rdQ_get {l : List S24} {i : Nat} (h : i < l.length) : rd_T24 l (i : Int) = l[i] := by
 simp [rd_T24, h]
theorem dropQ_eq {l : List S24} {i : Nat} (h : i < l.length) : l.drop i = rd_T24 l (i : Int) :: l.drop (i + 1) := by
 rw [rdQ_get h]
 exact List.drop_eq_getElem_cons h
theorem okP_iff {p : S24} : okP p = true ↔ 1 ≤ p.f0 ∧ p.f0 ≤ 2147483647 ∧ 0 ≤ p.f1 ∧ p.f1 ≤ 2147483647 ∧ 0 ≤ p.f2 ∧ p.f2 ≤ 4096 := mayP_iff
def fullS (l : List (Int × Int)) : List S79 × Int := if mayT l = true then (msT l, 0) else ([], 7)
def keyP (p : S24) : Int × Int := (p.f0, p.f1)
def ltP (p q : S24) : Prop := p.f0 < q.f0 ∨ (p.f0 = q.f0 ∧ p.f1 < q.f1)
instance (p q : S24) : Decidable (ltP p q) := by unfold ltP; infer_instance
theorem totP : Tot ltP := ⟨fun {x y w} h1 h2 h3 => by unfold ltP at *; omega, fun {x y} h1 h2 => by unfold ltP at *; omega⟩
theorem keyP_iff {x y : S24} : keyP x = keyP y ↔ x.f0 = y.f0 ∧ x.f1 = y.f1 := by simp [keyP]
theorem ltP_key {x y : S24} (h : keyP x = keyP y) : ¬ ltP x y := by
 rw [keyP_iff] at h
 unfold ltP
 omega
theorem keyP_of {x y : S24} (h1 : ¬ ltP x y) (h2 : ¬ ltP y x) : keyP x = keyP y := by
 rw [keyP_iff]
 unfold ltP at h1 h2
 omega
theorem ltP_ne {x y w : S24} (h1 : ltP x y) (h2 : ¬ ltP x w) : keyP y ≠ keyP w := by
 rw [Ne, keyP_iff]
 unfold ltP at h1 h2
 omega
theorem ltP_ne2 {x y w : S24} (h1 : ltP x y) (h2 : ¬ ltP w y) : keyP x ≠ keyP w := by
 rw [Ne, keyP_iff]
 unfold ltP at h1 h2
 omega
theorem rdP (l : List S24) (j : Nat) : rd_T24 l (j : Int) = l.getD j z24 := by simp [rd_T24]
theorem cmpP (p q : S24) : point_Order_1.f p.f0 p.f1 p.f2 p.f3 q.f0 q.f1 q.f2 q.f3 = some (if ltP p q then -1 else if ltP q p then 1 else 0) := by
 simp only [point_Order_1.f, point_Less.f, ltP]
 by_cases h1 : p.f0 < q.f0
 ·simp [h1]
 ·by_cases h2 : p.f0 = q.f0
  ·by_cases h3 : p.f1 < q.f1
   ·simp [h1, h2, h3]
   ·by_cases h4 : q.f1 < p.f1
    ·simp [h1, h2, h3, h4]
    ·simp [h1, h2, h3, h4]
  ·have h5 : q.f0 < p.f0 := by omega
   simp [h1, h2, h5]
theorem cmpP_neg (p q : S24) : ((if ltP p q then -1 else if ltP q p then 1 else 0 : Int) < 0) ↔ ltP p q := by
 split
 ·simp [*]
 ·split <;> simp [*]
theorem swP (l : List S24) (i j : Nat) : (l.set ((i : Int)).toNat (⟨(rd_T24 l (j : Int)).f0, (rd_T24 l (j : Int)).f1, (rd_T24 l (j : Int)).f2, (rd_T24 l (j : Int)).f3⟩ : S24)).set ((j : Int)).toNat (⟨(rd_T24 l (i : Int)).f0, (rd_T24 l (i : Int)).f1, (rd_T24 l (i : Int)).f2, (rd_T24 l (i : Int)).f3⟩ : S24) = sw z24 l i j := rfl
structure Good (l r : List S24) (a b : Nat) : Prop where
 acts : Acts z24 l r a b
 stb : Stb keyP l r
 up : Up ltP z24 r a b
def prP (p : S24) : Int × Int × Int × Int := (p.f0, p.f1, p.f2, p.f3)
theorem rdP_get {l : List S24} {i : Nat} (h : i < l.length) : rd_T24 l (i : Int) = l[i] := by
 simp [rd_T24, h]
theorem dropP_eq {l : List S24} {i : Nat} (h : i < l.length) : l.drop i = rd_T24 l (i : Int) :: l.drop (i + 1) := by
 rw [rdP_get h]
 exact List.drop_eq_getElem_cons h
theorem point_Check_ev (s a l u : Int) : point_Check.f s a l u = some (if mayP s a l = true then 0 else 1) := by
 simp only [point_Check.f, mayP_iff]
 repeat' split
 all_goals first | rfl | omega
theorem slices_IndexFunc_api_Point_ev (l : List S24) (hl : l.length ≤ 140737488351232) : ∃ r : Int, Ev (fun k => slices_IndexFunc_api_Point.f k l) r ∧ (r ≥ 0 ↔ l.all okP = false) := by
 have main : ∀ (d j : Nat), l.length - j = d → j ≤ l.length → ∃ r : Int, Ev (fun k => slices_IndexFunc_api_Point.l0 k l (l.length : Int) (j : Int)) r ∧ (r ≥ 0 ↔ (l.drop j).all okP = false) := by
  intro d
  induction d with
  | zero =>
   intro j hd hj
   refine ⟨-1, ?_, ?_⟩
   ·rw [ev_succ]
    simp only [slices_IndexFunc_api_Point.l0, ev_ite]
    rw [if_neg (by omega), ev_some]
   ·rw [List.drop_eq_nil_of_le (by omega)]
    simp
  | succ d ih =>
   intro j hd hj
   have hjl : j < l.length := by omega
   have hw : wrap64 ((j : Int) + 1) = ((j + 1 : Nat) : Int) := w64 (by omega) (by omega)
   obtain ⟨r, r1, r2⟩ := ih (j + 1) (by omega) (by omega)
   rw [dropQ_eq hjl, List.all_cons]
   generalize hp : rd_T24 l (j : Int) = p
   have hm : tally_may_1.f p.f0 p.f1 p.f2 p.f3 = some (!okP p) := by
    unfold tally_may_1.f
    rw [point_Check_ev]
    simp only [Option.bind_some, okP]
    cases mayP p.f0 p.f1 p.f2 <;> rfl
   by_cases hb : okP p = true
   ·refine ⟨r, ?_, by rw [r2, hb, Bool.true_and]⟩
    rw [ev_succ]
    simp only [slices_IndexFunc_api_Point.l0, ev_ite, hw, hp]
    rw [if_pos (by omega), if_pos (by omega), if_pos (by omega), ev_bind_c hm, ev_ite, if_neg (by simp [hb])]
    exact r1
   ·refine ⟨j, ?_, ?_⟩
    ·rw [ev_succ]
     simp only [slices_IndexFunc_api_Point.l0, ev_ite, hw, hp]
     rw [if_pos (by omega), if_pos (by omega), if_pos (by omega), ev_bind_c hm, ev_ite, if_pos (by simpa using hb), ev_some]
    ·rw [Bool.not_eq_true] at hb
     rw [hb, Bool.false_and]
     simp
 obtain ⟨r, h1, h2⟩ := main (l.length - 0) 0 rfl (by omega)
 rw [List.drop_zero] at h2
 refine ⟨r, ?_, h2⟩
 simp only [slices_IndexFunc_api_Point.f]
 exact h1
theorem insP_inner {a i b N : Nat} (hai : a ≤ i) (hib : i < b) (hbN : b ≤ N) (hN : N ≤ 1000000)
 (hnext : ∀ x1 : List S24, x1.length = N → Up ltP z24 x1 a (i + 1) → ∃ r, Ev (fun k => slices_insertionSortCmpFunc_api_Point.l0 k x1 (a : Int) (b : Int) ((i + 1 : Nat) : Int)) r ∧ Good x1 r a b) :
 ∀ (j : Nat) (x0 : List S24), a ≤ j → j ≤ i → x0.length = N → (∀ p q, a ≤ p → p < q → q ≤ i → p ≠ j → q ≠ j → ¬ ltP (x0.getD q z24) (x0.getD p z24)) → (∀ q, j < q → q ≤ i → ltP (x0.getD j z24) (x0.getD q z24)) →
  ∃ r, Ev (fun k => slices_insertionSortCmpFunc_api_Point.l1 k x0 (a : Int) (b : Int) (i : Int) (j : Int)) r ∧ Good x0 r a b := by
 have hw : wrap64 ((i : Int) + 1) = ((i + 1 : Nat) : Int) := w64 (by omega) (by omega)
 intro j
 induction j with
 | zero =>
  intro x0 h1 h2 h3 h4 h5
  obtain ⟨r, h6, h7⟩ := hnext x0 h3 (up_insert_stop totP h1 h2 h4 h5 (.inl (by omega)))
  refine ⟨r, ?_, h7⟩
  rw [ev_succ]
  simp only [slices_insertionSortCmpFunc_api_Point.l1, ev_ite]
  rw [if_neg (by omega), hw]
  exact h6
 | succ j ih =>
  intro x0 h1 h2 h3 h4 h5
  have hwj : wrap64 (((j + 1 : Nat) : Int) - 1) = (j : Int) := (w64 (by omega) (by omega)).trans (by omega)
  by_cases ha : j + 1 = a
  ·obtain ⟨r, h6, h7⟩ := hnext x0 h3 (up_insert_stop totP h1 h2 h4 h5 (.inl ha))
   refine ⟨r, ?_, h7⟩
   rw [ev_succ]
   simp only [slices_insertionSortCmpFunc_api_Point.l1, ev_ite]
   rw [if_neg (by omega), hw]
   exact h6
  ·by_cases hc : ltP (x0.getD (j + 1) z24) (x0.getD j z24)
   ·obtain ⟨s1, s2⟩ := up_insert_step (lt := ltP) (z := z24) (l := x0) (a := a) (i := i) (j := j + 1) (by omega) h2 (by omega) h4 h5 (by simpa using hc)
    simp only [Nat.add_sub_cancel] at s1 s2
    obtain ⟨r, h6, h7⟩ := ih (sw z24 x0 (j + 1) j) (by omega) (by omega) (by rw [sw_len, h3]) s1 s2
    have hst := (stb_sw (z := z24) (key := keyP) (l := x0) (i := j) (by omega) (fun e => ltP_key e.symm hc)).2
    refine ⟨r, ?_, ⟨(Acts.sw x0 (by omega) (by omega) (by omega) (by omega) (by omega)).trans h7.acts, hst.trans h7.stb, h7.up⟩⟩
    rw [ev_succ]
    simp only [slices_insertionSortCmpFunc_api_Point.l1, ev_ite, hwj, swP]
    rw [if_pos (by omega), if_pos (by omega), if_pos (by omega), if_pos (by omega), if_pos (by omega), rdP, rdP, ev_bind_c (cmpP _ _), ev_ite, if_pos ((cmpP_neg _ _).2 hc)]
    exact h6
   ·obtain ⟨r, h6, h7⟩ := hnext x0 h3 (up_insert_stop totP h1 h2 h4 h5 (.inr (by simpa using hc)))
    refine ⟨r, ?_, h7⟩
    rw [ev_succ]
    simp only [slices_insertionSortCmpFunc_api_Point.l1, ev_ite, hwj]
    rw [if_pos (by omega), if_pos (by omega), if_pos (by omega), if_pos (by omega), if_pos (by omega), rdP, rdP, ev_bind_c (cmpP _ _), ev_ite, if_neg (fun h => hc ((cmpP_neg _ _).1 h)), hw]
    exact h6
theorem insP_outer {a b N : Nat} (hbN : b ≤ N) (hN : N ≤ 1000000) : ∀ (d i : Nat) (x0 : List S24), b - i = d → a ≤ i → x0.length = N → (i ≤ b ∨ b ≤ a + 1) → Up ltP z24 x0 a i → ∃ r, Ev (fun k => slices_insertionSortCmpFunc_api_Point.l0 k x0 (a : Int) (b : Int) (i : Int)) r ∧ Good x0 r a b := by
 intro d
 induction d with
 | zero =>
  intro i x0 hd hi hl hib hup
  refine ⟨x0, ?_, ⟨Acts.refl _ _ _, Stb.refl _, ?_⟩⟩
  ·rw [ev_succ]
   simp only [slices_insertionSortCmpFunc_api_Point.l0, ev_ite]
   rw [if_neg (by omega), ev_some]
  ·rcases hib with h | h
   ·exact hup.sub (Nat.le_refl _) (by omega)
   ·exact Up.one _ _ h
 | succ d ih =>
  intro i x0 hd hi hl hib hup
  obtain ⟨r, h1, h2⟩ := insP_inner (a := a) (i := i) (b := b) (N := N) hi (by omega) hbN hN (fun x1 h1 h2 => ih (i + 1) x1 (by omega) (by omega) h1 (.inl (by omega)) h2) i x0 hi (Nat.le_refl _) hl (fun p q h1 h2 h3 h4 h5 => hup p q h1 h2 (by omega)) (fun q h1 h2 => by omega)
  refine ⟨r, ?_, h2⟩
  rw [ev_succ]
  simp only [slices_insertionSortCmpFunc_api_Point.l0, ev_ite]
  rw [if_pos (by omega)]
  exact h1
theorem insP_ev {a b : Nat} {x0 : List S24} (hb : b ≤ x0.length) (hN : x0.length ≤ 1000000) (hab : a ≤ b) : ∃ r, Ev (fun k => slices_insertionSortCmpFunc_api_Point.f k x0 (a : Int) (b : Int)) r ∧ Good x0 r a b := by
 have hw : wrap64 ((a : Int) + 1) = ((a + 1 : Nat) : Int) := w64 (by omega) (by omega)
 simp only [slices_insertionSortCmpFunc_api_Point.f, hw]
 exact insP_outer (N := x0.length) hb hN (b - (a + 1)) (a + 1) x0 rfl (by omega) rfl (by omega) (Up.one _ _ (by omega))
theorem swrP_l0 {a b n : Nat} {l : List S24} (hab : a + n ≤ b) (hbl : b + n ≤ l.length) (hN : l.length ≤ 1000000) : ∀ (d i : Nat), n - i = d → i ≤ n → Ev (fun k => slices_swapRangeCmpFunc_api_Point.l0 k (swr z24 l a b i) (a : Int) (b : Int) (n : Int) (i : Int)) (swr z24 l a b n) := by
 intro d
 induction d with
 | zero =>
  intro i hd hi
  have e : i = n := by omega
  subst e
  rw [ev_succ]
  simp only [slices_swapRangeCmpFunc_api_Point.l0, ev_ite]
  rw [if_neg (by omega), ev_some]
 | succ d ih =>
  intro i hd hi
  have h1 : wrap64 ((b : Int) + (i : Int)) = ((b + i : Nat) : Int) := (w64 (by omega) (by omega)).trans (by omega)
  have h2 : wrap64 ((a : Int) + (i : Int)) = ((a + i : Nat) : Int) := (w64 (by omega) (by omega)).trans (by omega)
  have h3 : wrap64 ((i : Int) + 1) = ((i + 1 : Nat) : Int) := w64 (by omega) (by omega)
  have hl := swr_len (z := z24) l a b i
  rw [ev_succ]
  simp only [slices_swapRangeCmpFunc_api_Point.l0, ev_ite, h1, h2, h3, swP]
  rw [if_pos (by omega), if_pos (by omega), if_pos (by rw [hl]; omega), if_pos (by omega), if_pos (by rw [hl]; omega)]
  exact ih (i + 1) (by omega) (by omega)
theorem swrP_ev {a b n : Nat} {l : List S24} (hab : a + n ≤ b) (hbl : b + n ≤ l.length) (hN : l.length ≤ 1000000) : Ev (fun k => slices_swapRangeCmpFunc_api_Point.f k l (a : Int) (b : Int) (n : Int)) (swr z24 l a b n) := swrP_l0 hab hbl hN (n - 0) 0 rfl (by omega)
theorem rotP_l0 {N : Nat} (hN : N ≤ 1000000) : ∀ (d a m b : Nat) (l : List S24), b - a ≤ d → a < m → m < b → b ≤ N → l.length = N →
 ∃ r, Ev (fun k => slices_rotateCmpFunc_api_Point.l0 k l (m : Int) ((m - a : Nat) : Int) ((b - m : Nat) : Int)) r ∧ r.length = N ∧ ∀ k, r.getD k z24 = l.getD (rotAt a m b k) z24 := by
 intro d
 induction d with
 | zero => intro a m b l hd h1 h2; omega
 | succ d ih =>
  intro a m b l hd h1 h2 h3 hl
  rcases Nat.lt_trichotomy (m - a) (b - m) with hc | hc | hc
  ·obtain ⟨r, h4, h5, h6⟩ := ih a m (b - (m - a)) (swr z24 l a (b - (m - a)) (m - a)) (by omega) h1 (by omega) (by omega) (by rw [swr_len]; exact hl)
   have hsw := swrP_ev (a := a) (b := b - (m - a)) (n := m - a) (l := l) (by omega) (by omega) (by omega)
   have c1 : ¬ ((m - a : Nat) : Int) = ((b - m : Nat) : Int) := by omega
   have c2 : ¬ ((m - a : Nat) : Int) > ((b - m : Nat) : Int) := by omega
   have hg := swr_get (z := z24) l (a := a) (b := b - (m - a)) (m - a) (by omega) (by omega)
   have hrr := fun k => rot_right (k := k) h1 h2 hc
   have e0 : (m : Int) - ((m - a : Nat) : Int) = (a : Int) := by omega
   have e1 : (m : Int) + ((b - m : Nat) : Int) = (b : Int) := by omega
   have e2 : (b : Int) - ((m - a : Nat) : Int) = ((b - (m - a) : Nat) : Int) := by omega
   have e3 : ((b - m : Nat) : Int) - ((m - a : Nat) : Int) = ((b - (m - a) - m : Nat) : Int) := by omega
   have f0 : wrap64 (a : Int) = (a : Int) := w64 (by omega) (by omega)
   have f1 : wrap64 (b : Int) = (b : Int) := by clear f0; exact w64 (by omega) (by omega)
   have f2 : wrap64 ((b - (m - a) : Nat) : Int) = ((b - (m - a) : Nat) : Int) := by clear f0 f1; exact w64 (by omega) (by omega)
   have f3 : wrap64 ((b - (m - a) - m : Nat) : Int) = ((b - (m - a) - m : Nat) : Int) := by clear f0 f1 f2; exact w64 (by omega) (by omega)
   refine ⟨r, ?_, h5, fun k => ?_⟩
   ·rw [ev_succ]
    simp only [slices_rotateCmpFunc_api_Point.l0, ev_ite, e0, e1, e2, e3, f0, f1, f2, f3]
    rw [if_neg c1, if_neg c2, ev_bind hsw]
    exact h4
   ·rw [h6, hg, ← hrr k]
    generalize rotAt a m (b - (m - a)) k = x
    simp only
    by_cases g1 : a ≤ x ∧ x < a + (m - a)
    ·rw [if_pos g1, if_pos g1]
    ·rw [if_neg g1, if_neg g1]
     by_cases g2 : b - (m - a) ≤ x ∧ x < b - (m - a) + (m - a)
     ·rw [if_pos g2, if_pos g2]
     ·rw [if_neg g2, if_neg g2]
  ·have hsw := swrP_ev (a := a) (b := m) (n := m - a) (l := l) (by omega) (by omega) (by omega)
   have hg := swr_get (z := z24) l (a := a) (b := m) (m - a) (by omega) (by omega)
   have c1 : ((m - a : Nat) : Int) = ((b - m : Nat) : Int) := by omega
   have e0 : (m : Int) - ((m - a : Nat) : Int) = (a : Int) := by omega
   have f0 : wrap64 (a : Int) = (a : Int) := w64 (by omega) (by omega)
   refine ⟨swr z24 l a m (m - a), ?_, by rw [swr_len]; exact hl, fun k => ?_⟩
   ·rw [ev_succ]
    simp only [slices_rotateCmpFunc_api_Point.l0, ev_ite, e0, f0]
    rw [if_pos c1, ev_bind hsw, ev_some]
   ·rw [hg, ← rot_same (k := k) h1 h2 hc]
    by_cases g1 : a ≤ k ∧ k < a + (m - a)
    ·rw [if_pos g1, if_pos g1]
    ·rw [if_neg g1, if_neg g1]
     by_cases g2 : m ≤ k ∧ k < m + (m - a)
     ·rw [if_pos g2, if_pos g2]
     ·rw [if_neg g2, if_neg g2]
  ·obtain ⟨r, h4, h5, h6⟩ := ih (a + (b - m)) m b (swr z24 l a m (b - m)) (by omega) (by omega) h2 h3 (by rw [swr_len]; exact hl)
   have hsw := swrP_ev (a := a) (b := m) (n := b - m) (l := l) (by omega) (by omega) (by omega)
   have hg := swr_get (z := z24) l (a := a) (b := m) (b - m) (by omega) (by omega)
   have hrr := fun k => rot_left (k := k) h1 h2 hc
   have c1 : ¬ ((m - a : Nat) : Int) = ((b - m : Nat) : Int) := by omega
   have c2 : ((m - a : Nat) : Int) > ((b - m : Nat) : Int) := by omega
   have e0 : (m : Int) - ((m - a : Nat) : Int) = (a : Int) := by omega
   have e3 : ((m - a : Nat) : Int) - ((b - m : Nat) : Int) = ((m - (a + (b - m)) : Nat) : Int) := by omega
   have f0 : wrap64 (a : Int) = (a : Int) := w64 (by omega) (by omega)
   have f3 : wrap64 ((m - (a + (b - m)) : Nat) : Int) = ((m - (a + (b - m)) : Nat) : Int) := by clear f0; exact w64 (by omega) (by omega)
   refine ⟨r, ?_, h5, fun k => ?_⟩
   ·rw [ev_succ]
    simp only [slices_rotateCmpFunc_api_Point.l0, ev_ite, e0, e3, f0, f3]
    rw [if_neg c1, if_pos c2, ev_bind hsw]
    exact h4
   ·rw [h6, hg, ← hrr k]
    generalize rotAt (a + (b - m)) m b k = x
    simp only
    by_cases g1 : a ≤ x ∧ x < a + (b - m)
    ·rw [if_pos g1, if_pos g1]
    ·rw [if_neg g1, if_neg g1]
     by_cases g2 : m ≤ x ∧ x < m + (b - m)
     ·rw [if_pos g2, if_pos g2]
     ·rw [if_neg g2, if_neg g2]
theorem rotP_ev {a m b : Nat} {l : List S24} (h1 : a < m) (h2 : m < b) (h3 : b ≤ l.length) (hN : l.length ≤ 1000000) :
 ∃ r, Ev (fun k => slices_rotateCmpFunc_api_Point.f k l (a : Int) (m : Int) (b : Int)) r ∧ r.length = l.length ∧ ∀ k, r.getD k z24 = l.getD (rotAt a m b k) z24 := by
 have hw1 : wrap64 ((m : Int) - (a : Int)) = ((m - a : Nat) : Int) := (w64 (by omega) (by omega)).trans (by omega)
 have hw2 : wrap64 ((b : Int) - (m : Int)) = ((b - m : Nat) : Int) := (w64 (by omega) (by omega)).trans (by omega)
 simp only [slices_rotateCmpFunc_api_Point.f, hw1, hw2]
 exact rotP_l0 hN (b - a) a m b l (Nat.le_refl _) h1 h2 h3 rfl
theorem halfP (i j : Nat) (h : i + j ≤ 4000000) : wrap64 ((IntKind.u64.wrap (wrap64 ((i : Int) + (j : Int)))) / 2) = (((i + j) / 2 : Nat) : Int) := by
 rw [w64 (x := (i : Int) + (j : Int)) (by omega) (by omega), wu64 (by omega) (by omega), w64 (by omega) (by omega)]
 omega
theorem symP_l1 {x0 : List S24} {a i : Nat} (hai : a + 1 ≤ i) (hi : i ≤ x0.length) (hN : x0.length ≤ 1000000) : ∀ (d n : Nat), i - 1 - a - n = d → n ≤ i - 1 - a → Ev (fun k => slices_symMergeCmpFunc_api_Point.l1 k (shr z24 x0 a n) (i : Int) ((a + n : Nat) : Int)) (shr z24 x0 a (i - 1 - a)) := by
 have hwi : wrap64 ((i : Int) - 1) = ((i - 1 : Nat) : Int) := (w64 (by omega) (by omega)).trans (by omega)
 intro d
 induction d with
 | zero =>
  intro n hd hn
  have e : n = i - 1 - a := by clear hwi; omega
  rw [ev_succ]
  simp only [slices_symMergeCmpFunc_api_Point.l1, ev_ite, hwi]
  rw [if_neg (by clear hwi; omega), ev_some, e]
 | succ d ih =>
  intro n hd hn
  have hl : (shr z24 x0 a n).length = x0.length := (shr_acts (z := z24) x0 (Nat.le_refl _) n (by clear hwi ih; omega)).len
  have h1 : wrap64 (((a + n : Nat) : Int) + 1) = ((a + n + 1 : Nat) : Int) := by clear hwi ih; exact w64 (by omega) (by omega)
  have h2 := ih (n + 1) (by clear hwi h1; omega) (by clear hwi h1; omega)
  have c1 : ((a + n : Nat) : Int) < ((i - 1 : Nat) : Int) := by clear hwi h1 h2 ih; omega
  have c2 : (0 : Int) ≤ ((a + n + 1 : Nat) : Int) := by clear hwi h1 h2 ih; omega
  have c3 : ((a + n + 1 : Nat) : Int) < ((shr z24 x0 a n).length : Int) := by rw [hl]; clear hwi h1 h2 ih; omega
  have c4 : (0 : Int) ≤ ((a + n : Nat) : Int) := by clear hwi h1 h2 ih; omega
  have c5 : ((a + n : Nat) : Int) < ((shr z24 x0 a n).length : Int) := by rw [hl]; clear hwi h1 h2 ih; omega
  rw [ev_succ]
  simp only [slices_symMergeCmpFunc_api_Point.l1, ev_ite, hwi, h1, swP]
  rw [if_pos c1, if_pos c2, if_pos c3, if_pos c4, if_pos c5]
  exact h2
theorem symP_l0 {x0 : List S24} {a b : Nat} (hab : a + 1 < b) (hb : b ≤ x0.length) (hN : x0.length ≤ 1000000) (hup : Up ltP z24 x0 (a + 1) b) : ∀ (d i j : Nat), j - i ≤ d → a + 1 ≤ i → i ≤ j → j ≤ b → (i = a + 1 ∨ ltP (x0.getD (i - 1) z24) (x0.getD a z24)) → (j = b ∨ ¬ ltP (x0.getD j z24) (x0.getD a z24)) →
 ∃ r, Ev (fun k => slices_symMergeCmpFunc_api_Point.l0 k x0 (a : Int) (i : Int) (j : Int)) r ∧ Good x0 r a b := by
 intro d
 induction d with
 | zero =>
  intro i j hd h1 h2 h3 hA hB
  have e : j = i := by omega
  subst e
  have hl1 := symP_l1 (x0 := x0) (a := a) (i := j) h1 (by omega) hN (j - 1 - a - 0) 0 rfl (by omega)
  refine ⟨shr z24 x0 a (j - 1 - a), ?_, ⟨shr_acts x0 hb _ (by omega), shr_stb _ (by omega) (fun k h4 h5 => ?_), ins_first totP hb hup h1 h3 hA hB⟩⟩
  ·rw [ev_succ]
   simp only [slices_symMergeCmpFunc_api_Point.l0, ev_ite]
   rw [if_neg (by omega)]
   exact hl1
  ·rcases hA with hA | hA
   ·omega
   ·exact ltP_ne hA (hup.le totP (by omega) (by omega : k ≤ j - 1) (by omega))
 | succ d ih =>
  intro i j hd h1 h2 h3 hA hB
  by_cases hij : i = j
  ·exact ih i j (by omega) h1 h2 h3 hA hB
  ·have hh := halfP i j (by omega)
   have hH := Aside0.mk hh
   clear hh
   obtain ⟨h, hhe⟩ : ∃ h, h = (i + j) / 2 := ⟨_, rfl⟩
   have q1 : i ≤ h := by omega
   have q2 : h < j := by omega
   have hw : Aside0 (wrap64 ((h : Int) + 1) = ((h + 1 : Nat) : Int)) := ⟨w64 (by omega) (by omega)⟩
   rw [← hhe] at hH
   have c1 : (i : Int) < (j : Int) := by omega
   have c2 : (0 : Int) ≤ (h : Int) := by omega
   have c3 : (h : Int) < (x0.length : Int) := by omega
   have c4 : (0 : Int) ≤ (a : Int) := by omega
   have c5 : (a : Int) < (x0.length : Int) := by omega
   by_cases hc : ltP (x0.getD h z24) (x0.getD a z24)
   ·obtain ⟨r, h4, h5⟩ := ih (h + 1) j (by omega) (by omega) (by omega) h3 (.inr (by simpa using hc)) hB
    refine ⟨r, ?_, h5⟩
    rw [ev_succ]
    simp only [slices_symMergeCmpFunc_api_Point.l0, ev_ite, hH.out, hw.out]
    rw [if_pos c1, if_pos c2, if_pos c3, if_pos c4, if_pos c5, rdP, rdP, ev_bind_c (cmpP _ _), ev_ite, if_pos ((cmpP_neg _ _).2 hc)]
    exact h4
   ·obtain ⟨r, h4, h5⟩ := ih i h (by omega) h1 q1 (by omega) hA (.inr hc)
    refine ⟨r, ?_, h5⟩
    rw [ev_succ]
    simp only [slices_symMergeCmpFunc_api_Point.l0, ev_ite, hH.out, hw.out]
    rw [if_pos c1, if_pos c2, if_pos c3, if_pos c4, if_pos c5, rdP, rdP, ev_bind_c (cmpP _ _), ev_ite, if_neg (fun h => hc ((cmpP_neg _ _).1 h))]
    exact h4
theorem symP_l3 {x0 : List S24} {i m : Nat} (him : i ≤ m) (hm : m < x0.length) (hN : x0.length ≤ 1000000) : ∀ (d n : Nat), m - i - n = d → n ≤ m - i → Ev (fun k => slices_symMergeCmpFunc_api_Point.l3 k (shl z24 x0 m n) (i : Int) ((m - n : Nat) : Int)) (shl z24 x0 m (m - i)) := by
 intro d
 induction d with
 | zero =>
  intro n hd hn
  have e : n = m - i := by omega
  rw [ev_succ]
  simp only [slices_symMergeCmpFunc_api_Point.l3, ev_ite]
  rw [if_neg (by omega), ev_some, e]
 | succ d ih =>
  intro n hd hn
  have hl : (shl z24 x0 m n).length = x0.length := (shl_acts (z := z24) (a := 0) x0 (Nat.le_refl _) hm n (by omega)).len
  have h2 := ih (n + 1) (by omega) (by omega)
  rw [show m - (n + 1) = m - n - 1 by omega] at h2
  have c1 : ((m - n : Nat) : Int) > (i : Int) := by omega
  have c2 : (0 : Int) ≤ ((m - n - 1 : Nat) : Int) := by omega
  have c3 : ((m - n - 1 : Nat) : Int) < ((shl z24 x0 m n).length : Int) := by rw [hl]; omega
  have c4 : (0 : Int) ≤ ((m - n : Nat) : Int) := by omega
  have c5 : ((m - n : Nat) : Int) < ((shl z24 x0 m n).length : Int) := by rw [hl]; omega
  have h1 : wrap64 (((m - n : Nat) : Int) - 1) = ((m - n - 1 : Nat) : Int) := by clear ih h2; exact (w64 (by omega) (by omega)).trans (by omega)
  rw [ev_succ]
  simp only [slices_symMergeCmpFunc_api_Point.l3, ev_ite, h1, swP]
  rw [if_pos c1, if_pos c2, if_pos c3, if_pos c4, if_pos c5]
  exact h2
theorem symP_l2 {x0 : List S24} {a m : Nat} (ham : a < m) (hm : m < x0.length) (hN : x0.length ≤ 1000000) (hup : Up ltP z24 x0 a m) : ∀ (d i j : Nat), j - i ≤ d → a ≤ i → i ≤ j → j ≤ m → (i = a ∨ ¬ ltP (x0.getD m z24) (x0.getD (i - 1) z24)) → (j = m ∨ ltP (x0.getD m z24) (x0.getD j z24)) →
 ∃ r, Ev (fun k => slices_symMergeCmpFunc_api_Point.l2 k x0 (m : Int) (i : Int) (j : Int)) r ∧ Good x0 r a (m + 1) := by
 intro d
 induction d with
 | zero =>
  intro i j hd h1 h2 h3 hA hB
  have e : j = i := by omega
  subst e
  have hl1 := symP_l3 (x0 := x0) (i := j) (m := m) h3 hm hN (m - j - 0) 0 rfl (by omega)
  refine ⟨shl z24 x0 m (m - j), ?_, ⟨shl_acts x0 (by omega) (by omega) _ (by omega), shl_stb hm _ (by omega) (fun k h4 h5 => ?_), ins_last totP hm hup h1 h3 hA hB⟩⟩
  ·rw [ev_succ]
   simp only [slices_symMergeCmpFunc_api_Point.l2, ev_ite]
   rw [if_neg (by omega)]
   exact hl1
  ·rcases hB with hB | hB
   ·omega
   ·exact ltP_ne2 hB (hup.le totP h1 (by omega : j ≤ k) h5)
 | succ d ih =>
  intro i j hd h1 h2 h3 hA hB
  by_cases hij : i = j
  ·exact ih i j (by omega) h1 h2 h3 hA hB
  ·have hh := halfP i j (by omega)
   have hH := Aside0.mk hh
   clear hh
   obtain ⟨h, hhe⟩ : ∃ h, h = (i + j) / 2 := ⟨_, rfl⟩
   have q1 : i ≤ h := by omega
   have q2 : h < j := by omega
   have hw : Aside0 (wrap64 ((h : Int) + 1) = ((h + 1 : Nat) : Int)) := ⟨w64 (by omega) (by omega)⟩
   rw [← hhe] at hH
   have c1 : (i : Int) < (j : Int) := by omega
   have c2 : (0 : Int) ≤ (h : Int) := by omega
   have c3 : (h : Int) < (x0.length : Int) := by omega
   have c4 : (0 : Int) ≤ (m : Int) := by omega
   have c5 : (m : Int) < (x0.length : Int) := by omega
   by_cases hc : ltP (x0.getD m z24) (x0.getD h z24)
   ·obtain ⟨r, h4, h5⟩ := ih i h (by omega) h1 q1 (by omega) hA (.inr hc)
    refine ⟨r, ?_, h5⟩
    rw [ev_succ]
    simp only [slices_symMergeCmpFunc_api_Point.l2, ev_ite, hH.out, hw.out]
    rw [if_pos c1, if_pos c4, if_pos c5, if_pos c2, if_pos c3, rdP, rdP, ev_bind_c (cmpP _ _), ev_ite, if_pos ((cmpP_neg _ _).2 hc)]
    exact h4
   ·obtain ⟨r, h4, h5⟩ := ih (h + 1) j (by omega) (by omega) (by omega) h3 (.inr (by simpa using hc)) hB
    refine ⟨r, ?_, h5⟩
    rw [ev_succ]
    simp only [slices_symMergeCmpFunc_api_Point.l2, ev_ite, hH.out, hw.out]
    rw [if_pos c1, if_pos c4, if_pos c5, if_pos c2, if_pos c3, rdP, rdP, ev_bind_c (cmpP _ _), ev_ite, if_neg (fun h => hc ((cmpP_neg _ _).1 h))]
    exact h4
theorem symP_l4 {x0 : List S24} {a m b mid n lo hi : Nat} (hb : b ≤ x0.length) (hN : x0.length ≤ 1000000) (hlo : a ≤ lo) (hhi : hi ≤ m) (hmb : m ≤ b) (hn1 : m + hi ≤ n) (hn2 : n ≤ b + lo) (G : List S24 → Prop)
 (hnext : ∀ (s : Nat) (v : Bool), lo ≤ s → s ≤ hi → (s = lo ∨ ¬ ltP (x0.getD (n - s) z24) (x0.getD (s - 1) z24)) → (s = hi ∨ ltP (x0.getD (n - 1 - s) z24) (x0.getD s z24)) → (v = true ↔ s < m ∧ m < n - s) →
  ∃ r, Ev (fun k => slices_symMergeCmpFunc_api_Point.j6 k x0 (a : Int) (m : Int) (b : Int) (mid : Int) (s : Int) ((n - s : Nat) : Int) v) r ∧ G r) :
 ∀ (d s r : Nat), r - s ≤ d → lo ≤ s → s ≤ r → r ≤ hi → (s = lo ∨ ¬ ltP (x0.getD (n - s) z24) (x0.getD (s - 1) z24)) → (r = hi ∨ ltP (x0.getD (n - 1 - r) z24) (x0.getD r z24)) →
  ∃ y, Ev (fun k => slices_symMergeCmpFunc_api_Point.l4 k x0 (a : Int) (m : Int) (b : Int) (mid : Int) (n : Int) (s : Int) (r : Int) ((n - 1 : Nat) : Int)) y ∧ G y := by
 intro d
 induction d with
 | zero =>
  intro s r hd h1 h2 h3 hA hB
  have e : r = s := by clear hnext; omega
  subst e
  have q0 : ¬ (r : Int) < (r : Int) := by omega
  have qe : (n : Int) - (r : Int) = ((n - r : Nat) : Int) := by clear hnext; omega
  have qw : Aside0 (wrap64 (((n - r : Nat) : Int)) = ((n - r : Nat) : Int)) := ⟨by clear hnext; exact w64 (by omega) (by omega)⟩
  by_cases c1 : r < m
  ·obtain ⟨y, h4, h5⟩ := hnext r (decide ((m : Int) < ((n - r : Nat) : Int))) h1 h3 hA hB (by rw [decide_eq_true_iff]; clear hnext; omega)
   refine ⟨y, ?_, h5⟩
   have c1' : (r : Int) < (m : Int) := by omega
   rw [ev_succ]
   simp only [slices_symMergeCmpFunc_api_Point.l4, ev_ite, qe, qw.out]
   rw [if_neg q0, if_pos c1']
   exact h4
  ·obtain ⟨y, h4, h5⟩ := hnext r false h1 h3 hA hB (by clear hnext; simp; omega)
   refine ⟨y, ?_, h5⟩
   have c1' : ¬ (r : Int) < (m : Int) := by omega
   rw [ev_succ]
   simp only [slices_symMergeCmpFunc_api_Point.l4, ev_ite, qe, qw.out]
   rw [if_neg q0, if_neg c1']
   exact h4
 | succ d ih =>
  intro s r hd h1 h2 h3 hA hB
  by_cases hij : s = r
  ·exact ih s r (by omega) h1 h2 h3 hA hB
  ·clear hnext
   have hh := halfP s r (by omega)
   have hH := Aside0.mk hh
   clear hh
   obtain ⟨h, hhe⟩ : ∃ h, h = (s + r) / 2 := ⟨_, rfl⟩
   have q1 : s ≤ h := by omega
   have q2 : h < r := by omega
   have hw : Aside0 (wrap64 ((h : Int) + 1) = ((h + 1 : Nat) : Int)) := ⟨w64 (by omega) (by omega)⟩
   rw [← hhe] at hH
   have c1 : (s : Int) < (r : Int) := by omega
   have e0 : ((n - 1 : Nat) : Int) - (h : Int) = ((n - 1 - h : Nat) : Int) := by omega
   have f0 : Aside0 (wrap64 (((n - 1 - h : Nat) : Int)) = ((n - 1 - h : Nat) : Int)) := ⟨w64 (by omega) (by omega)⟩
   have c2 : (0 : Int) ≤ ((n - 1 - h : Nat) : Int) := by omega
   have c3 : ((n - 1 - h : Nat) : Int) < (x0.length : Int) := by omega
   have c4 : (0 : Int) ≤ (h : Int) := by omega
   have c5 : (h : Int) < (x0.length : Int) := by omega
   by_cases hc : ltP (x0.getD (n - 1 - h) z24) (x0.getD h z24)
   ·obtain ⟨y, h4, h5⟩ := ih s h (by omega) h1 q1 (by omega) hA (.inr hc)
    refine ⟨y, ?_, h5⟩
    rw [ev_succ]
    simp only [slices_symMergeCmpFunc_api_Point.l4, ev_ite, hH.out, hw.out, e0, f0.out]
    rw [if_pos c1, if_pos c2, if_pos c3, if_pos c4, if_pos c5, rdP, rdP, ev_bind_c (cmpP _ _), ev_ite, if_pos ((cmpP_neg _ _).2 hc)]
    exact h4
   ·obtain ⟨y, h4, h5⟩ := ih (h + 1) r (by omega) (by omega) (by omega) h3 (.inr (by rw [show n - (h + 1) = n - 1 - h by omega, Nat.add_sub_cancel]; exact hc)) hB
    refine ⟨y, ?_, h5⟩
    rw [ev_succ]
    simp only [slices_symMergeCmpFunc_api_Point.l4, ev_ite, hH.out, hw.out, e0, f0.out]
    rw [if_pos c1, if_pos c2, if_pos c3, if_pos c4, if_pos c5, rdP, rdP, ev_bind_c (cmpP _ _), ev_ite, if_neg (fun h => hc ((cmpP_neg _ _).1 h))]
    exact h4
theorem Good.same {y : List S24} {a b : Nat} (h : Up ltP z24 y a b) : Good y y a b := ⟨Acts.refl _ _ _, Stb.refl _, h⟩
theorem Good.halves {y y1 r : List S24} {a mid b : Nat} (ha : a ≤ mid) (hb : mid ≤ b) (h1 : Good y y1 a mid) (h2 : Good y1 r mid b) (hs : ∀ i j, a ≤ i → i < mid → mid ≤ j → j < b → ¬ ltP (y.getD j z24) (y.getD i z24)) : Good y r a b := by
 refine ⟨(h1.acts.wide (Nat.le_refl _) hb).trans (h2.acts.wide ha (Nat.le_refl _)), h1.stb.trans h2.stb, ?_⟩
 refine Up.join (m := mid) (h1.up.same (fun k _ h3 => h2.acts.out k (by omega))) h2.up (fun i j h3 h4 h5 h6 => ?_)
 rw [h2.acts.out i (by omega)]
 obtain ⟨i', q1, q2, q3⟩ := h1.acts.inn i h3 h4
 obtain ⟨j', q4, q5, q6⟩ := h2.acts.inn j h5 h6
 rw [q3, q6, h1.acts.out j' (by omega)]
 exact hs i' j' q1 q2 q4 q5
theorem symP_tail {y1 : List S24} {mid e b : Nat} (hme : mid ≤ e) (heb : e ≤ b) (hu1 : Up ltP z24 y1 mid e) (hu2 : Up ltP z24 y1 e b)
 (ih : mid < e → e < b → ∃ r, Ev (fun k => slices_symMergeCmpFunc_api_Point.f k y1 (mid : Int) (e : Int) (b : Int)) r ∧ Good y1 r mid b) :
 ∃ r, Ev (fun k => if (mid : Int) < (e : Int) then (if (e : Int) < (b : Int) then ((slices_symMergeCmpFunc_api_Point.f k y1 (mid : Int) (e : Int) (b : Int)).bind fun t => some t) else some y1) else some y1) r ∧ Good y1 r mid b := by
 simp only [ev_ite]
 by_cases c1 : mid < e
 ·have c1' : (mid : Int) < (e : Int) := by omega
  by_cases c2 : e < b
  ·have c2' : (e : Int) < (b : Int) := by omega
   obtain ⟨r, h1, h2⟩ := ih c1 c2
   refine ⟨r, ?_, h2⟩
   rw [if_pos c1', if_pos c2', ev_bind h1, ev_some]
  ·have c2' : ¬ (e : Int) < (b : Int) := by omega
   have e1 : e = b := by omega
   refine ⟨y1, ?_, Good.same (by rw [← e1]; exact hu1)⟩
   rw [if_pos c1', if_neg c2', ev_some]
 ·have c1' : ¬ (mid : Int) < (e : Int) := by omega
  have e1 : mid = e := by omega
  refine ⟨y1, ?_, Good.same (by rw [e1]; exact hu2)⟩
  rw [if_neg c1', ev_some]
theorem symP_j7 {N : Nat} {y : List S24} {a s mid e b : Nat} (hN : y.length = N) (has : a ≤ s) (hsm : s ≤ mid) (hme : mid ≤ e) (heb : e ≤ b) (u1 : Up ltP z24 y a s) (u2 : Up ltP z24 y s mid) (u3 : Up ltP z24 y mid e) (u4 : Up ltP z24 y e b)
 (hs : ∀ i j, a ≤ i → i < mid → mid ≤ j → j < b → ¬ ltP (y.getD j z24) (y.getD i z24))
 (ih1 : a < s → s < mid → ∃ r, Ev (fun k => slices_symMergeCmpFunc_api_Point.f k y (a : Int) (s : Int) (mid : Int)) r ∧ Good y r a mid)
 (ih2 : mid < e → e < b → ∀ y1 : List S24, y1.length = N → Up ltP z24 y1 mid e → Up ltP z24 y1 e b → ∃ r, Ev (fun k => slices_symMergeCmpFunc_api_Point.f k y1 (mid : Int) (e : Int) (b : Int)) r ∧ Good y1 r mid b) :
 ∃ r, Ev (fun k => slices_symMergeCmpFunc_api_Point.j7 k y (a : Int) (b : Int) (mid : Int) (s : Int) (e : Int)) r ∧ Good y r a b := by
 by_cases c1 : a < s ∧ s < mid
 ·obtain ⟨y1, h1, h2⟩ := ih1 c1.1 c1.2
  have v3 : Up ltP z24 y1 mid e := u3.same (fun k h3 h4 => h2.acts.out k (by omega))
  have v4 : Up ltP z24 y1 e b := u4.same (fun k h3 h4 => h2.acts.out k (by omega))
  obtain ⟨r, h3, h4⟩ := symP_tail hme heb v3 v4 (fun g1 g2 => ih2 g1 g2 y1 (h2.acts.len.trans hN) v3 v4)
  refine ⟨r, ?_, Good.halves (by omega) (by omega) h2 h4 hs⟩
  have c1' : (a : Int) < (s : Int) := by omega
  have c2' : (s : Int) < (mid : Int) := by omega
  rw [ev_succ]
  simp only [slices_symMergeCmpFunc_api_Point.j7, ev_ite]
  rw [if_pos c1', ev_succ]
  simp only [slices_symMergeCmpFunc_api_Point.j8, ev_ite]
  rw [if_pos (decide_eq_true c2'), ev_bind h1]
  exact h3
 ·have v : Up ltP z24 y a mid := by
   by_cases g : a < s
   ·rw [show mid = s by omega]; exact u1
   ·rw [show a = s by omega]; exact u2
  obtain ⟨r, h3, h4⟩ := symP_tail hme heb u3 u4 (fun g1 g2 => ih2 g1 g2 y hN u3 u4)
  refine ⟨r, ?_, Good.halves (by omega) (by omega) (Good.same v) h4 hs⟩
  have key : Ev (fun k => slices_symMergeCmpFunc_api_Point.j8 k y (a : Int) (b : Int) (mid : Int) (s : Int) (e : Int) false) r := by
   rw [ev_succ]
   simp only [slices_symMergeCmpFunc_api_Point.j8, ev_ite]
   rw [if_neg (by decide)]
   simp only [ev_ite] at h3
   exact h3
  rw [ev_succ]
  simp only [slices_symMergeCmpFunc_api_Point.j7, ev_ite]
  by_cases g : (a : Int) < (s : Int)
  ·rw [if_pos g, decide_eq_false (by omega)]
   exact key
  ·rw [if_neg g]
   exact key
theorem symP_ev {N : Nat} (hN : N ≤ 1000000) : ∀ (d a m b : Nat) (x0 : List S24), b - a ≤ d → a < m → m < b → b ≤ N → x0.length = N → Up ltP z24 x0 a m → Up ltP z24 x0 m b →
 ∃ r, Ev (fun k => slices_symMergeCmpFunc_api_Point.f k x0 (a : Int) (m : Int) (b : Int)) r ∧ Good x0 r a b := by
 intro d
 induction d with
 | zero => intro a m b x0 hd h1 h2; omega
 | succ d ih =>
  intro a m b x0 hd h1 h2 hb hl hu1 hu2
  have e1 : (m : Int) - (a : Int) = ((m - a : Nat) : Int) := by clear ih; omega
  have e2 : (b : Int) - (m : Int) = ((b - m : Nat) : Int) := by clear ih; omega
  have f1 : Aside0 (wrap64 (((m - a : Nat) : Int)) = ((m - a : Nat) : Int)) := ⟨w64 (by clear ih; omega) (by clear ih; omega)⟩
  have f2 : Aside0 (wrap64 (((b - m : Nat) : Int)) = ((b - m : Nat) : Int)) := ⟨w64 (by clear ih; omega) (by clear ih; omega)⟩
  by_cases c1 : m - a = 1
  ·have e : m = a + 1 := by clear ih; omega
   subst e
   obtain ⟨r, h3, h4⟩ := symP_l0 (x0 := x0) (a := a) (b := b) (by clear ih; omega) (by clear ih; omega) (by clear ih; omega) hu2 (b - (a + 1)) (a + 1) b (Nat.le_refl _) (Nat.le_refl _) (by clear ih; omega) (Nat.le_refl _) (.inl rfl) (.inl rfl)
   refine ⟨r, ?_, h4⟩
   have c1' : ((a + 1 - a : Nat) : Int) = 1 := by clear ih; omega
   rw [ev_succ]
   simp only [slices_symMergeCmpFunc_api_Point.f, ev_ite, e1, f1.out]
   rw [if_pos c1']
   exact h3
  ·have c1' : ¬ ((m - a : Nat) : Int) = 1 := by clear ih; omega
   by_cases c2 : b - m = 1
   ·have e : b = m + 1 := by clear ih; omega
    subst e
    obtain ⟨r, h3, h4⟩ := symP_l2 (x0 := x0) (a := a) (m := m) h1 (by clear ih; omega) (by clear ih; omega) hu1 (m - a) a m (Nat.le_refl _) (Nat.le_refl _) (by clear ih; omega) (Nat.le_refl _) (.inl rfl) (.inl rfl)
    refine ⟨r, ?_, h4⟩
    have c2' : ((m + 1 - m : Nat) : Int) = 1 := by clear ih; omega
    rw [ev_succ]
    simp only [slices_symMergeCmpFunc_api_Point.f, ev_ite, e1, e2, f1.out, f2.out]
    rw [if_neg c1', if_pos c2']
    exact h3
   ·have c2' : ¬ ((b - m : Nat) : Int) = 1 := by clear ih; omega
    have hH : Aside0 (wrap64 ((IntKind.u64.wrap (wrap64 ((a : Int) + (b : Int)))) / 2) = (((a + b) / 2 : Nat) : Int)) := ⟨halfP a b (by clear ih; omega)⟩
    obtain ⟨mid, hmid⟩ : ∃ h, h = (a + b) / 2 := ⟨_, rfl⟩
    rw [← hmid] at hH
    have m1 : a < mid := by clear ih; omega
    have m2 : mid < b := by clear ih; omega
    have g1 : Aside0 (wrap64 ((mid : Int) + (m : Int)) = ((mid + m : Nat) : Int)) := ⟨by clear ih; exact w64 (by omega) (by omega)⟩
    -- the halves, behind the search
    have hnext : ∀ (lo hi : Nat), a ≤ lo → hi ≤ m → m + hi ≤ mid + m → mid + m ≤ b + lo → (lo = a ∨ mid + m = b + lo) → (hi = m ∨ hi = mid) →
     ∀ (s : Nat) (v : Bool), lo ≤ s → s ≤ hi → (s = lo ∨ ¬ ltP (x0.getD (mid + m - s) z24) (x0.getD (s - 1) z24)) → (s = hi ∨ ltP (x0.getD (mid + m - 1 - s) z24) (x0.getD s z24)) → (v = true ↔ s < m ∧ m < mid + m - s) →
     ∃ r, Ev (fun k => slices_symMergeCmpFunc_api_Point.j6 k x0 (a : Int) (m : Int) (b : Int) (mid : Int) (s : Int) ((mid + m - s : Nat) : Int) v) r ∧ Good x0 r a b := by
     intro lo hi k1 k2 k3 k4 k5 k6 s v k7 k8 hA hB hv
     obtain ⟨e, he⟩ : ∃ e, e = mid + m - s := ⟨_, rfl⟩
     rw [← he] at hA hv ⊢
     have he1 : mid + m - 1 - s = e - 1 := by clear ih; omega
     rw [he1] at hB
     have o1 : s ≤ m := by clear ih; omega
     have o2 : m ≤ e := by clear ih; omega
     have o3 : e ≤ b := by clear ih; omega
     have o4 : mid = s + (e - m) := by clear ih; omega
     have o5 : a ≤ s := by clear ih; omega
     have hA' : s = a ∨ e = b ∨ ¬ ltP (x0.getD e z24) (x0.getD (s - 1) z24) := by
      rcases hA with hA | hA
      ·clear ih; omega
      ·exact .inr (.inr hA)
     have hB' : s = m ∨ e = m ∨ ltP (x0.getD (e - 1) z24) (x0.getD s z24) := by
      rcases hB with hB | hB
      ·clear ih; omega
      ·exact .inr (.inr hB)
     have key : ∀ y : List S24, y.length = N → Acts z24 x0 y a b → Stb keyP x0 y → (∀ k, y.getD k z24 = x0.getD (rotAt s m e k) z24) →
      ∃ r, Ev (fun k => slices_symMergeCmpFunc_api_Point.j7 k y (a : Int) (b : Int) (mid : Int) (s : Int) (e : Int)) r ∧ Good x0 r a b := by
      intro y y1 y2 y3 y4
      obtain ⟨s1, s2, s3, s4, s5⟩ := sym_split totP (r := y) hu1 hu2 o5 o1 o2 o3 o4 hA' hB' y4
      obtain ⟨r, t1, t2⟩ := symP_j7 (N := N) y1 o5 (by clear ih; omega) (by clear ih; omega) o3 s1 s2 s3 s4 s5 (fun g1 g2 => ih a s mid y (by omega) g1 g2 (by omega) y1 s1 s2) (fun g1 g2 z1 z2 z3 z4 => ih mid e b z1 (by omega) g1 g2 hb z2 z3 z4)
      exact ⟨r, t1, ⟨y2.trans t2.acts, y3.trans t2.stb, t2.up⟩⟩
     by_cases c3 : s < m ∧ m < e
     ·obtain ⟨y, r1, r2, r3⟩ := rotP_ev (a := s) (m := m) (b := e) (l := x0) c3.1 c3.2 (by clear ih; omega) (by clear ih; omega)
      have hac : Acts z24 x0 y a b := (Acts.rot o1 o2 r2 r3).wide o5 o3
      have hst : Stb keyP x0 y := by
       refine stb_rot (z := z24) o1 o2 (by clear ih; omega) r2 r3 (fun i j w1 w2 w3 w4 => ?_)
       have hlt : ltP (x0.getD (e - 1) z24) (x0.getD s z24) := by
        rcases hB' with h | h | h
        ·clear ih; omega
        ·clear ih; omega
        ·exact h
       have q1 := hu2.le totP (i := j) (j := e - 1) w3 (by clear ih; omega) (by clear ih; omega)
       have q2 := hu1.le totP (i := s) (j := i) o5 w1 w2
       intro he
       exact totP.tr (totP.tr q2 (ltP_key he.symm)) q1 hlt
      obtain ⟨r, t1, t2⟩ := key y (r2.trans hl) hac hst r3
      refine ⟨r, ?_, t2⟩
      rw [ev_succ]
      simp only [slices_symMergeCmpFunc_api_Point.j6, ev_ite]
      rw [if_pos (hv.2 c3), ev_bind r1]
      exact t1
     ·have hid : ∀ k, rotAt s m e k = k := by
       intro k
       clear ih
       unfold rotAt
       repeat' split
       all_goals omega
      obtain ⟨r, t1, t2⟩ := key x0 hl (Acts.refl _ _ _) (Stb.refl _) (fun k => by rw [hid])
      refine ⟨r, ?_, t2⟩
      rw [ev_succ]
      simp only [slices_symMergeCmpFunc_api_Point.j6, ev_ite]
      rw [if_neg (fun h => c3 (hv.1 h))]
      exact t1
    clear ih
    have g2 : ((mid + m - 1 : Nat) : Int) = ((mid + m : Nat) : Int) - 1 := by omega
    have g3 : Aside0 (wrap64 (((mid + m : Nat) : Int) - 1) = ((mid + m - 1 : Nat) : Int)) := ⟨(w64 (by omega) (by omega)).trans g2.symm⟩
    have hl4 : ∀ lo hi : Nat, a ≤ lo → lo ≤ hi → hi ≤ m → m + hi ≤ mid + m → mid + m ≤ b + lo → (lo = a ∨ mid + m = b + lo) → (hi = m ∨ hi = mid) →
     ∃ r, Ev (fun k => slices_symMergeCmpFunc_api_Point.j4 k x0 (a : Int) (m : Int) (b : Int) (mid : Int) ((mid + m : Nat) : Int) (lo : Int) (hi : Int)) r ∧ Good x0 r a b := by
     intro lo hi k1 k2 k3 k4 k5 k6 k7
     obtain ⟨r, t1, t2⟩ := symP_l4 (x0 := x0) (a := a) (m := m) (b := b) (mid := mid) (n := mid + m) (lo := lo) (hi := hi) (by omega) (by omega) k1 k3 (by omega) k4 k5 (fun r => Good x0 r a b) (hnext lo hi k1 k3 k4 k5 k6 k7) (hi - lo) lo hi (Nat.le_refl _) (Nat.le_refl _) k2 (Nat.le_refl _) (.inl rfl) (.inl rfl)
     refine ⟨r, ?_, t2⟩
     rw [ev_succ]
     simp only [slices_symMergeCmpFunc_api_Point.j4, g3.out]
     exact t1
    by_cases c3 : m > mid
    ·have c3' : (m : Int) > (mid : Int) := by omega
     have g4 : ((mid + m : Nat) : Int) - (b : Int) = ((mid + m - b : Nat) : Int) := by omega
     have g5 : Aside0 (wrap64 (((mid + m - b : Nat) : Int)) = ((mid + m - b : Nat) : Int)) := ⟨w64 (by omega) (by omega)⟩
     obtain ⟨r, t1, t2⟩ := hl4 (mid + m - b) mid (by omega) (by omega) (by omega) (by omega) (by omega) (by omega) (.inr rfl)
     refine ⟨r, ?_, t2⟩
     rw [ev_succ]
     simp only [slices_symMergeCmpFunc_api_Point.f, ev_ite, e1, e2, f1.out, f2.out, hH.out, g1.out, g4, g5.out]
     rw [if_neg c1', if_neg c2', if_pos c3']
     exact t1
    ·have c3' : ¬ (m : Int) > (mid : Int) := by omega
     obtain ⟨r, t1, t2⟩ := hl4 a m (by omega) (by omega) (by omega) (by omega) (by omega) (.inl rfl) (.inl rfl)
     refine ⟨r, ?_, t2⟩
     rw [ev_succ]
     simp only [slices_symMergeCmpFunc_api_Point.f, ev_ite, e1, e2, f1.out, f2.out, hH.out, g1.out]
     rw [if_neg c1', if_neg c2', if_neg c3']
     exact t1
def BlkP (l : List S24) (bs lo n : Nat) : Prop := ∀ c, lo ≤ c * bs → Up ltP z24 l (c * bs) (min (c * bs + bs) n)
def DonP (l : List S24) (bs hi : Nat) : Prop := ∀ c, c * bs + bs ≤ hi → Up ltP z24 l (c * bs) (c * bs + bs)
def EndP (l r : List S24) (n : Nat) : Prop := r.length = n ∧ Stb keyP l r ∧ Up ltP z24 r 0 n
theorem mulP {c c' t : Nat} (h : c' < c) : c' * t + t ≤ c * t := by
 have := Nat.mul_le_mul_right t h
 rw [Nat.succ_mul] at this
 exact this
theorem donP_step {l r : List S24} {c t : Nat} (h : DonP l t (c * t)) (ha : Acts z24 l r (c * t) (c * t + t)) (hu : Up ltP z24 r (c * t) (c * t + t)) : DonP r t (c * t + t) := by
 intro c' hc
 rcases Nat.lt_trichotomy c' c with h1 | h1 | h1
 ·have h2 := mulP (t := t) h1
  exact (h c' h2).same (fun k h3 h4 => ha.out k (by omega))
 ·rw [h1]; exact hu
 ·have h2 := mulP (t := t) h1
  exact Up.one _ _ (by omega)
theorem blkP_of {r : List S24} {c t n : Nat} (h : DonP r t (c * t)) (hn : n < c * t + t) (hu : Up ltP z24 r (c * t) n) : BlkP r t 0 n := by
 intro c' _
 rcases Nat.lt_trichotomy c' c with h1 | h1 | h1
 ·have h2 := mulP (t := t) h1
  exact (h c' h2).sub (Nat.le_refl _) (Nat.min_le_left _ _)
 ·rw [h1]; exact hu.sub (Nat.le_refl _) (Nat.min_le_right _ _)
 ·have h2 := mulP (t := t) h1
  exact Up.one _ _ (by omega)
theorem stabP_l0 {n : Nat} (hN : n ≤ 1000000) (hnext : ∀ x1 : List S24, x1.length = n → BlkP x1 20 0 n → ∃ r, Ev (fun k => slices_stableCmpFunc_api_Point.l1 k x1 (n : Int) 20) r ∧ EndP x1 r n) :
 ∀ (d c : Nat) (x0 : List S24), n + 1 - c * 20 ≤ d → c * 20 ≤ n → x0.length = n → DonP x0 20 (c * 20) →
  ∃ r, Ev (fun k => slices_stableCmpFunc_api_Point.l0 k x0 (n : Int) 20 ((c * 20 : Nat) : Int) ((c * 20 + 20 : Nat) : Int)) r ∧ EndP x0 r n := by
 intro d
 induction d with
 | zero => intro c x0 h1 h2; omega
 | succ d ih =>
  intro c x0 h1 h2 h3 h4
  by_cases hc : c * 20 + 20 ≤ n
  ·obtain ⟨y, h5, h6⟩ := insP_ev (a := c * 20) (b := c * 20 + 20) (x0 := x0) (by omega) (by omega) (by omega)
   obtain ⟨r, h7, h8⟩ := ih (c + 1) y (by omega) (by omega) (h6.acts.len.trans h3) (by rw [Nat.succ_mul]; exact donP_step h4 h6.acts h6.up)
   refine ⟨r, ?_, h8.1, h6.stb.trans h8.2.1, h8.2.2⟩
   have c1 : ((c * 20 + 20 : Nat) : Int) ≤ (n : Int) := by omega
   have hw : wrap64 (((c * 20 + 20 : Nat) : Int) + 20) = ((c * 20 + 20 + 20 : Nat) : Int) := by clear ih hnext h7; exact w64 (by omega) (by omega)
   rw [ev_succ]
   simp only [slices_stableCmpFunc_api_Point.l0, ev_ite, hw]
   rw [if_pos c1, ev_bind h5]
   rw [Nat.succ_mul] at h7
   exact h7
  ·obtain ⟨y, h5, h6⟩ := insP_ev (a := c * 20) (b := n) (x0 := x0) (by omega) (by omega) (by omega)
   obtain ⟨r, h7, h8⟩ := hnext y (h6.acts.len.trans h3) (blkP_of (c := c) (fun c' hc' => (h4 c' hc').same (fun k h3 h4 => h6.acts.out k (by omega))) (by omega) h6.up)
   refine ⟨r, ?_, h8.1, h6.stb.trans h8.2.1, h8.2.2⟩
   have c1 : ¬ ((c * 20 + 20 : Nat) : Int) ≤ (n : Int) := by omega
   rw [ev_succ]
   simp only [slices_stableCmpFunc_api_Point.l0, ev_ite]
   rw [if_neg c1, ev_bind h5]
   exact h7
theorem stabP_l2 {n bs : Nat} (hN : n ≤ 1000000) (hbs : 0 < bs) (hbn : bs < n) (hnext : ∀ x1 : List S24, x1.length = n → BlkP x1 (2 * bs) 0 n → ∃ r, Ev (fun k => slices_stableCmpFunc_api_Point.l1 k x1 (n : Int) ((2 * bs : Nat) : Int)) r ∧ EndP x1 r n) :
 ∀ (d c a : Nat) (x0 : List S24), a = c * (2 * bs) → n + 1 - a ≤ d → a ≤ n → x0.length = n → DonP x0 (2 * bs) (c * (2 * bs)) → BlkP x0 bs a n →
  ∃ r, Ev (fun k => slices_stableCmpFunc_api_Point.l2 k x0 (n : Int) (bs : Int) (a : Int) ((a + 2 * bs : Nat) : Int)) r ∧ EndP x0 r n := by
 have w1 : Aside0 (wrap64 ((bs : Int) * 2) = ((2 * bs : Nat) : Int)) := ⟨(w64 (by omega) (by omega)).trans (by omega)⟩
 have w2 : Aside0 (wrap64 (2 * (bs : Int)) = ((2 * bs : Nat) : Int)) := ⟨(w64 (by omega) (by omega)).trans (by omega)⟩
 intro d
 induction d with
 | zero => intro c a x0 h0 h1 h2; omega
 | succ d ih =>
  intro c a x0 h0 h1 h2 h3 h4 hB
  have w3 : Aside0 (wrap64 ((a : Int) + (bs : Int)) = ((a + bs : Nat) : Int)) := ⟨by clear ih hnext; exact w64 (by omega) (by omega)⟩
  have eq1 : 2 * c * bs = a := by rw [h0, Nat.mul_comm 2 c, Nat.mul_assoc]
  have eq2 : (2 * c + 1) * bs = a + bs := by rw [Nat.succ_mul, eq1]
  have b1 := hB (2 * c) (by rw [eq1]; exact Nat.le_refl _)
  have b2 := hB (2 * c + 1) (by rw [eq2]; omega)
  rw [eq1] at b1
  rw [eq2] at b2
  by_cases hc : a + 2 * bs ≤ n
  ·obtain ⟨y, h5, h6⟩ := symP_ev hN (a + 2 * bs - a) a (a + bs) (a + 2 * bs) x0 (Nat.le_refl _) (by omega) (by omega) hc h3 (b1.sub (Nat.le_refl _) (by omega)) (b2.sub (Nat.le_refl _) (by omega))
   have hsm : (c + 1) * (2 * bs) = c * (2 * bs) + 2 * bs := Nat.succ_mul _ _
   have hd : DonP y (2 * bs) ((c + 1) * (2 * bs)) := by
    rw [hsm]
    exact donP_step h4 (by rw [← h0]; exact h6.acts) (by rw [← h0]; exact h6.up)
   obtain ⟨r, h7, h8⟩ := ih (c + 1) (a + 2 * bs) y (by rw [hsm, ← h0]) (by omega) hc (h6.acts.len.trans h3) hd (fun c' hc' => (hB c' (by omega)).same (fun k g1 g2 => h6.acts.out k (by omega)))
   refine ⟨r, ?_, h8.1, h6.stb.trans h8.2.1, h8.2.2⟩
   have c1 : ((a + 2 * bs : Nat) : Int) ≤ (n : Int) := by omega
   have w4 : Aside0 (wrap64 (((a + 2 * bs : Nat) : Int) + ((2 * bs : Nat) : Int)) = ((a + 2 * bs + 2 * bs : Nat) : Int)) := ⟨by clear ih hnext h7; exact w64 (by omega) (by omega)⟩
   rw [ev_succ]
   simp only [slices_stableCmpFunc_api_Point.l2, ev_ite, w2.out, w3.out, w4.out]
   rw [if_pos c1, ev_bind h5]
   exact h7
  ·have c1 : ¬ ((a + 2 * bs : Nat) : Int) ≤ (n : Int) := by omega
   by_cases hc2 : a + bs < n
   ·have c2 : ((a + bs : Nat) : Int) < (n : Int) := by omega
    obtain ⟨y, h5, h6⟩ := symP_ev hN (n - a) a (a + bs) n x0 (Nat.le_refl _) (by omega) hc2 (Nat.le_refl _) h3 (b1.sub (Nat.le_refl _) (by omega)) (b2.sub (Nat.le_refl _) (by omega))
    obtain ⟨r, h7, h8⟩ := hnext y (h6.acts.len.trans h3) (blkP_of (c := c) (fun c' hc' => (h4 c' hc').same (fun k h3 h4 => h6.acts.out k (by omega))) (by omega) (by rw [← h0]; exact h6.up))
    refine ⟨r, ?_, h8.1, h6.stb.trans h8.2.1, h8.2.2⟩
    rw [ev_succ]
    simp only [slices_stableCmpFunc_api_Point.l2, ev_ite, w1.out, w3.out]
    rw [if_neg c1, if_pos c2, ev_bind h5]
    exact h7
   ·have c2 : ¬ ((a + bs : Nat) : Int) < (n : Int) := by omega
    obtain ⟨r, h7, h8⟩ := hnext x0 h3 (blkP_of (c := c) h4 (by omega) (by rw [← h0]; exact b1.sub (Nat.le_refl _) (by omega)))
    refine ⟨r, ?_, h8⟩
    rw [ev_succ]
    simp only [slices_stableCmpFunc_api_Point.l2, ev_ite, w1.out, w3.out]
    rw [if_neg c1, if_neg c2]
    exact h7
theorem stabP_l1 {n : Nat} (hN : n ≤ 1000000) : ∀ (d bs : Nat) (x0 : List S24), n - bs ≤ d → 0 < bs → x0.length = n → BlkP x0 bs 0 n →
 ∃ r, Ev (fun k => slices_stableCmpFunc_api_Point.l1 k x0 (n : Int) (bs : Int)) r ∧ EndP x0 r n := by
 intro d
 induction d with
 | zero =>
  intro bs x0 h1 h2 h3 h4
  have c1 : ¬ (bs : Int) < (n : Int) := by omega
  have h5 := h4 0 (Nat.zero_le _)
  rw [Nat.zero_mul] at h5
  refine ⟨x0, ?_, h3, Stb.refl _, h5.sub (Nat.le_refl _) (by omega)⟩
  rw [ev_succ]
  simp only [slices_stableCmpFunc_api_Point.l1, ev_ite]
  rw [if_neg c1, ev_some]
 | succ d ih =>
  intro bs x0 h1 h2 h3 h4
  by_cases hc : bs < n
  ·have c1 : (bs : Int) < (n : Int) := by omega
   have w2 : Aside0 (wrap64 (2 * (bs : Int)) = ((2 * bs : Nat) : Int)) := ⟨by clear ih; exact (w64 (by omega) (by omega)).trans (by omega)⟩
   obtain ⟨r, h7, h8⟩ := stabP_l2 hN h2 hc (fun x1 g1 g2 => ih (2 * bs) x1 (by omega) (by omega) g1 g2) (n + 1) 0 0 x0 (by omega) (by omega) (by omega) h3 (fun c' hc' => Up.one _ _ (by omega)) (fun c' _ => h4 c' (Nat.zero_le _))
   refine ⟨r, ?_, h8⟩
   rw [ev_succ]
   simp only [slices_stableCmpFunc_api_Point.l1, ev_ite, w2.out]
   rw [if_pos c1]
   rw [Nat.zero_add] at h7
   exact h7
  ·have c1 : ¬ (bs : Int) < (n : Int) := by omega
   have h5 := h4 0 (Nat.zero_le _)
   rw [Nat.zero_mul] at h5
   refine ⟨x0, ?_, h3, Stb.refl _, h5.sub (Nat.le_refl _) (by omega)⟩
   rw [ev_succ]
   simp only [slices_stableCmpFunc_api_Point.l1, ev_ite]
   rw [if_neg c1, ev_some]
theorem stabP_ev {x0 : List S24} (hN : x0.length ≤ 1000000) : ∃ r, Ev (fun k => slices_stableCmpFunc_api_Point.f k x0 (x0.length : Int)) r ∧ EndP x0 r x0.length := by
 obtain ⟨r, h1, h2⟩ := stabP_l0 hN (fun x1 g1 g2 => stabP_l1 hN x0.length 20 x1 (by omega) (by omega) g1 g2) (x0.length + 1) 0 x0 (by omega) (by omega) rfl (fun c' hc' => Up.one _ _ (by omega))
 exact ⟨r, h1, h2⟩
theorem stableFuncP_ev {x0 : List S24} (hN : x0.length ≤ 1000000) : ∃ r, Ev (fun k => slices_SortStableFunc_api_Point.f k x0) r ∧ EndP x0 r x0.length := by
 obtain ⟨r, h1, h2⟩ := stabP_ev hN
 refine ⟨r, ?_, h2⟩
 simp only [slices_SortStableFunc_api_Point.f]
 rw [ev_bind h1, ev_some]
theorem pointOrder_ev {x0 : List S24} (hN : x0.length ≤ 1000000) : ∃ r, Ev (fun k => point_Order.f k x0) r ∧ EndP x0 r x0.length := by
 obtain ⟨r, h1, h2⟩ := stableFuncP_ev hN
 refine ⟨r, ?_, h2⟩
 simp only [point_Order.f]
 rw [ev_bind_c (show slices_Clone_api_Point.f x0 = some x0 by simp only [slices_Clone_api_Point.f]; rw [if_pos (by omega)]), ev_bind h1, ev_some]
theorem upP_pairwise {l : List S24} (h : Up ltP z24 l 0 l.length) : l.Pairwise (fun a b => ¬ ltP b a) := by
 rw [List.pairwise_iff_getElem]
 intro i j hi hj hij
 have := h i j (Nat.zero_le _) hij hj
 rwa [List.getD_eq_getElem?_getD, List.getD_eq_getElem?_getD, List.getElem?_eq_getElem hi, List.getElem?_eq_getElem hj] at this
theorem EndP.one {l r s : List S24} (h1 : EndP l r l.length) (h2 : EndP l s l.length) : r = s := by
 have u1 : Up ltP z24 r 0 r.length := by rw [h1.1]; exact h1.2.2
 have u2 : Up ltP z24 s 0 s.length := by rw [h2.1]; exact h2.2.2
 have hs : Stb keyP s l := fun c => (h2.2.1 c).symm
 exact (stb_one (key := keyP) (lt := ltP) (fun x y => keyP_of) (hs.trans h1.2.1) (upP_pairwise u2) (upP_pairwise u1)).symm
theorem tally_Check_ev (l : List S79) (hl : l.length ≤ 140737488351232) : Ev (fun k => tally_Check.f k l) (if mayT (prsT l) = true then 0 else 1) := by
 have main : ∀ (d j : Nat) (last : Int), l.length - j = d → j ≤ l.length → Ev (fun k => tally_Check.l0 k last l (l.length : Int) (j : Int)) (if sortT last (prsT (l.drop j)) = true then (0 : Int) else 1) := by
  intro d
  induction d with
  | zero =>
   intro j last hd hj
   rw [ev_succ]
   simp only [tally_Check.l0, ev_ite]
   rw [if_neg (by omega), ev_some, List.drop_eq_nil_of_le (by omega)]
   rfl
  | succ d ih =>
   intro j last hd hj
   have hjl : j < l.length := by omega
   have ih' := ih (j + 1) (rd_T79 l (j : Int)).f0 (by omega) (by omega)
   have hw : wrap64 ((j : Int) + 1) = ((j + 1 : Nat) : Int) := w64 (by omega) (by omega)
   rw [dropT_eq hjl]
   rw [ev_succ]
   simp only [tally_Check.l0, ev_ite, hw]
   generalize rd_T79 l (j : Int) = f at ih' ⊢
   have e2 : sortT last (prsT (f :: l.drop (j + 1))) = (decide (last < f.f0 ∧ f.f0 ≤ 2147483647 ∧ 1 ≤ f.f1 ∧ f.f1 ≤ 1099511627776) && sortT f.f0 (prsT (l.drop (j + 1)))) := rfl
   have no : ¬ (last < f.f0 ∧ f.f0 ≤ 2147483647 ∧ 1 ≤ f.f1 ∧ f.f1 ≤ 1099511627776) → (1 : Int) = (if sortT last (prsT (f :: l.drop (j + 1))) = true then 0 else 1) := by
    intro h
    rw [e2, decide_eq_false h, Bool.false_and, if_neg (by simp)]
   rw [if_pos (by omega), if_pos (by omega), if_pos (by omega)]
   by_cases h1 : f.f0 ≤ last
   ·rw [if_pos h1, ev_some]; exact no (by omega)
   rw [if_neg h1]
   by_cases h2 : f.f0 > 2147483647
   ·rw [if_pos h2, ev_some]; exact no (by omega)
   rw [if_neg h2]
   by_cases h3 : f.f1 < 1
   ·rw [if_pos h3, ev_some]; exact no (by omega)
   rw [if_neg h3]
   by_cases h4 : f.f1 > 1099511627776
   ·rw [if_pos h4, ev_some]; exact no (by omega)
   rw [if_neg h4]
   refine ev_eq ih' ?_
   rw [e2, decide_eq_true (by omega), Bool.true_and]
 simp only [tally_Check.f, ev_ite]
 unfold mayT
 rw [prsT_len]
 by_cases h : l.length > 4096
 ·rw [if_pos (by omega), ev_some, decide_eq_false (by omega), Bool.false_and, if_neg (by simp)]
 ·rw [if_neg (by omega), decide_eq_true (by omega), Bool.true_and]
  exact main (l.length - 0) 0 0 rfl (by omega)
theorem tally_may_ev (l : List S79) (ps : List S24) (hl : l.length ≤ 140737488351232) (hp : ps.length ≤ 140737488351232) : Ev (fun k => tally_may.f k l ps) (mayT (prsT l) && ps.all okP) := by
 obtain ⟨r, r1, r2⟩ := slices_IndexFunc_api_Point_ev ps hp
 have hc : Ev (fun k => slices_ContainsFunc_api_Point.f k ps) (!ps.all okP) := by
  simp only [slices_ContainsFunc_api_Point.f]
  rw [ev_bind r1, ev_some]
  cases h : ps.all okP with
  | true => rw [h] at r2; simp at r2 ⊢; exact r2
  | false => rw [h] at r2; simp at r2 ⊢; exact r2
 simp only [tally_may.f]
 rw [ev_bind (tally_Check_ev l hl), ev_ite]
 by_cases h : mayT (prsT l) = true
 ·rw [if_pos h, if_pos rfl, ev_bind hc, ev_some, h, Bool.not_not, Bool.true_and]
 ·rw [if_neg h, if_neg (by decide), ev_some]
  rw [Bool.not_eq_true] at h
  rw [h, Bool.false_and]
theorem tally_find_1_ev (a b s : Int) : tally_find_1.f a b s = some (if a < s then -1 else if a > s then 1 else 0) := by
 have e : ∀ x : Int, cmp_isNaN_int.f x = some false := fun x => by
  unfold cmp_isNaN_int.f
  simp
 unfold tally_find_1.f cmp_Compare_int.f
 rw [e, e]
 simp only [Option.bind_some]
 rw [if_neg (by simp), if_neg (by simp)]
 repeat' split
 all_goals rfl
theorem slices_BinarySearchFunc_api_Share_int_ev (l : List S79) (s : Int) (hl : l.length ≤ 4096) (hs : (prsT l).Pairwise fun a b => a.1 < b.1) :
 ∃ i : Nat, i ≤ l.length ∧ (∀ j : Nat, j < i → (rd_T79 l (j : Int)).f0 < s) ∧ (∀ j : Nat, i ≤ j → j < l.length → s ≤ (rd_T79 l (j : Int)).f0) ∧ Ev (fun k => slices_BinarySearchFunc_api_Share_int.f k l s) ((i : Int), decide (i < l.length ∧ (rd_T79 l (i : Int)).f0 = s)) := by
 have main : ∀ (d lo hi : Nat), hi - lo ≤ d → lo ≤ hi → hi ≤ l.length → (∀ j : Nat, j < lo → (rd_T79 l (j : Int)).f0 < s) → (∀ j : Nat, hi ≤ j → j < l.length → s ≤ (rd_T79 l (j : Int)).f0) →
  ∃ i : Nat, i ≤ l.length ∧ (∀ j : Nat, j < i → (rd_T79 l (j : Int)).f0 < s) ∧ (∀ j : Nat, i ≤ j → j < l.length → s ≤ (rd_T79 l (j : Int)).f0) ∧ Ev (fun k => slices_BinarySearchFunc_api_Share_int.l0 k l s (l.length : Int) (lo : Int) (hi : Int)) ((i : Int), decide (i < l.length ∧ (rd_T79 l (i : Int)).f0 = s)) := by
  intro d
  induction d with
  | zero =>
   intro lo hi hd h1 h2 h3 h4
   obtain rfl : lo = hi := by omega
   refine ⟨lo, h2, h3, h4, ?_⟩
   rw [ev_succ]
   simp only [slices_BinarySearchFunc_api_Share_int.l0, ev_ite]
   rw [if_neg (by omega)]
   by_cases hn : lo < l.length
   ·have := h4 lo (by omega) hn
    rw [if_pos (by omega), if_pos (by omega), if_pos (by omega), ev_bind_c (tally_find_1_ev _ _ _), ev_some]
    congr 1
    rw [if_neg (by omega)]
    by_cases he : (rd_T79 l (lo : Int)).f0 = s
    ·rw [if_neg (by omega), decide_eq_true ⟨hn, he⟩]
     rfl
    ·rw [if_pos (by omega), decide_eq_false (fun h => he h.2)]
     rfl
   ·rw [if_neg (by omega), ev_some, decide_eq_false (fun h => hn h.1)]
  | succ d ih =>
   intro lo hi hd h1 h2 h3 h4
   by_cases hlt : lo < hi
   ·have em : wrap64 (IntKind.u64.wrap (wrap64 ((lo : Int) + (hi : Int))) / 2) = (((lo + hi) / 2 : Nat) : Int) := by
     rw [w64 (x := (lo : Int) + (hi : Int)) (by omega) (by omega), wu64 (by omega) (by omega), w64 (by omega) (by omega)]
     omega
    have e1 : wrap64 ((((lo + hi) / 2 : Nat) : Int) + 1) = (((lo + hi) / 2 + 1 : Nat) : Int) := by
     rw [w64 (by omega) (by omega)]
     rfl
    generalize hm : (lo + hi) / 2 = m at em e1
    have hmr : lo ≤ m ∧ m < hi := by omega
    by_cases hc : (rd_T79 l (m : Int)).f0 < s
    ·obtain ⟨i, i1, i2, i3, i4⟩ := ih (m + 1) hi (by omega) (by omega) h2 (by
      intro j hj
      by_cases hjm : j = m
      ·rw [hjm]; exact hc
      ·have := rdT_lt hs (i := j) (j := m) (by omega) (by omega)
       omega) h4
     refine ⟨i, i1, i2, i3, ?_⟩
     rw [ev_succ]
     simp only [slices_BinarySearchFunc_api_Share_int.l0, ev_ite, em, e1]
     rw [if_pos (by omega), if_pos (by omega), if_pos (by omega), ev_bind_c (tally_find_1_ev _ _ _), ev_ite, if_pos (by rw [if_pos hc]; omega)]
     exact i4
    ·obtain ⟨i, i1, i2, i3, i4⟩ := ih lo m (by omega) (by omega) (by omega) h3 (by
      intro j hj hjl
      by_cases hjm : j = m
      ·rw [hjm]; omega
      ·have := rdT_lt hs (i := m) (j := j) (by omega) hjl
       omega)
     refine ⟨i, i1, i2, i3, ?_⟩
     rw [ev_succ]
     simp only [slices_BinarySearchFunc_api_Share_int.l0, ev_ite, em, e1]
     rw [if_pos (by omega), if_pos (by omega), if_pos (by omega), ev_bind_c (tally_find_1_ev _ _ _), ev_ite, if_neg (by rw [if_neg hc]; split <;> omega)]
     exact i4
   ·exact ih lo hi (by omega) h1 h2 h3 h4
 exact main l.length 0 l.length (by omega) (by omega) (by omega) (fun j hj => by omega) (fun j h1 h2 => by omega)
theorem tally_find_ev {l : List S79} (h1 : l.length ≤ 4096) (hs : (prsT l).Pairwise fun a b => a.1 < b.1) (s : Int) :
 ∃ i : Nat, i ≤ l.length ∧ (∀ p ∈ (prsT l).take i, p.1 < s) ∧ (∀ (h : i < l.length), s ≤ l[i].f0) ∧ Ev (fun k => tally_find.f k l s) ((i : Int), decide (i < l.length ∧ (rd_T79 l (i : Int)).f0 = s)) := by
 obtain ⟨i, i1, i2, i3, i4⟩ := slices_BinarySearchFunc_api_Share_int_ev l s h1 hs
 refine ⟨i, i1, ?_, ?_, ?_⟩
 ·intro p hp
  obtain ⟨j, hj, rfl⟩ := List.mem_iff_getElem.1 hp
  rw [List.length_take, prsT_len] at hj
  have := i2 j (by omega)
  rw [rdT_get (by omega)] at this
  rw [List.getElem_take]
  simpa [prsT, prT] using this
 ·intro h
  have := i3 i (by omega) h
  rwa [rdT_get h] at this
 ·simp only [tally_find.f]
  rw [ev_bind i4, ev_some]
theorem tally_more_ev {l : List S79} (h1 : l.length ≤ 4096) (hk : OkT (prsT l)) {B : Int} (hB : 0 ≤ B) (hb : ∀ p ∈ prsT l, p.2 ≤ B) {s n : Int} (hs : 1 ≤ s ∧ s ≤ 2147483647) (hn : 0 ≤ n) (hBn : B + n ≤ 4611686018427387904) :
 Ev (fun k => tally_more.f k l s n) (msT (setT (prsT l) s (getT (prsT l) s + n))) := by
 simp only [tally_more.f, ev_ite]
 by_cases h0 : n = 0
 ·rw [if_pos h0, ev_some, h0, Int.add_zero, setT_self hk hs, ms_prs]
 rw [if_neg h0]
 obtain ⟨i, i1, i2, i3, i4⟩ := tally_find_ev h1 hk.1 s
 have ha := setT_at (s := s) (n := getT (prsT l) s + n) i (prsT l) (by rw [prsT_len]; exact i1) i2
 have hg := getT_at (s := s) i (prsT l) (by rw [prsT_len]; exact i1) i2
 rw [ev_bind i4, ev_ite]
 by_cases hc : i < l.length ∧ (rd_T79 l (i : Int)).f0 = s
 ·obtain ⟨c1, c2⟩ := hc
  have hd : (prsT l).drop i = (l[i].f0, l[i].f1) :: (prsT l).drop (i + 1) := by
   rw [List.drop_eq_getElem_cons (by rw [prsT_len]; exact c1)]
   congr 1
   simp [prsT, prT]
  rw [rdT_get c1] at c2
  have hgv : getT (prsT l) s = l[i].f1 := by rw [hg, hd, getT, if_pos c2]
  have hv := get_le hB hb s
  have hv0 := hk.2 (prT l[i]) (List.mem_map.2 ⟨_, List.getElem_mem c1, rfl⟩)
  simp only [prT] at hv0
  have hw : wrap64 (l[i].f1 + n) = l[i].f1 + n := w64 (by omega) (by omega)
  simp only [rdT_get c1, hw, Int.toNat_natCast, ev_ite]
  rw [if_pos (decide_eq_true ⟨c1, c2⟩), if_pos (by omega), if_pos (by omega), ev_some, ha, hd, hgv, setT, if_neg (by simp only; omega), if_pos c2, if_neg (by omega), msT_append, List.set_eq_take_append_cons_drop, if_pos c1, ← prsT_take, ms_prs]
  congr 1
  have e : msT ((s, l[i].f1 + n) :: (prsT l).drop (i + 1)) = ⟨s, l[i].f1 + n⟩ :: msT ((prsT l).drop (i + 1)) := rfl
  rw [e, ← prsT_drop, ms_prs, ← c2]
 ·rw [decide_eq_false hc]
  have hfi : slices_Insert_api_Share.f l (i : Int) [⟨s, n⟩] = some (l.take i ++ [⟨s, n⟩] ++ l.drop i) := by
   unfold slices_Insert_api_Share.f
   rw [if_pos ⟨by omega, by omega, rfl, by omega⟩, Int.toNat_natCast]
  have hdr : setT ((prsT l).drop i) s (getT (prsT l) s + n) = (s, n) :: (prsT l).drop i ∧ getT (prsT l) s = 0 := by
   by_cases hil : i < l.length
   ·have hd : (prsT l).drop i = (l[i].f0, l[i].f1) :: (prsT l).drop (i + 1) := by
     rw [List.drop_eq_getElem_cons (by rw [prsT_len]; exact hil)]
     congr 1
     simp [prsT, prT]
    have h3 := i3 hil
    have hne : l[i].f0 ≠ s := fun e => hc ⟨hil, by rw [rdT_get hil]; exact e⟩
    have hso : SortP ((prsT l).drop i) := hk.1.sublist (List.drop_sublist _ _)
    have hg0 : getT (prsT l) s = 0 := by
     rw [hg]
     refine getT_none (fun p hp => ?_)
     rw [hd] at hp hso
     have h4 := List.pairwise_cons.1 hso
     rcases List.mem_cons.1 hp with rfl | hp
     ·exact hne
     ·have := h4.1 p hp
      simp only at this
      omega
    refine ⟨?_, hg0⟩
    rw [hg0, Int.zero_add, hd, setT, if_neg (by simp only; omega), if_neg hne, if_neg h0]
   ·have hd : (prsT l).drop i = [] := List.drop_eq_nil_of_le (by rw [prsT_len]; omega)
    have hg0 : getT (prsT l) s = 0 := by rw [hg, hd]; rfl
    refine ⟨?_, hg0⟩
    rw [hg0, Int.zero_add, hd, setT, if_neg h0]
  rw [if_neg (by simp), ev_bind_c hfi, ev_some, ha, hdr.1, msT_append, ← prsT_take, ms_prs]
  have e : msT ((s, n) :: (prsT l).drop i) = ⟨s, n⟩ :: msT ((prsT l).drop i) := rfl
  rw [e, ← prsT_drop, ms_prs, List.append_assoc]
  rfl
theorem tally_full_ev (l : List S79) (hl : l.length ≤ 140737488351232) : Ev (fun k => tally_full.f k l) (fullS (prsT l)) := by
 simp only [tally_full.f]
 rw [ev_bind (tally_Check_ev l hl), ev_ite]
 unfold fullS
 by_cases h : mayT (prsT l) = true
 ·rw [if_pos h, if_pos h, if_pos rfl, ev_some, ms_prs]
 ·rw [if_neg h, if_neg h, if_neg (by decide), ev_some]
theorem good_pts {ps : List S24} (h : ps.all okP = true) : GoodP (ptsT ps) ∧ ∀ q ∈ ptsT ps, q.2 ≤ 4096 := by
 have h1 := List.all_eq_true.1 h
 constructor
 ·intro q hq
  obtain ⟨p, hp, rfl⟩ := List.mem_map.1 hq
  have := okP_iff.1 (h1 p hp)
  simp only
  omega
 ·intro q hq
  obtain ⟨p, hp, rfl⟩ := List.mem_map.1 hq
  have := okP_iff.1 (h1 p hp)
  simp only
  omega
theorem tally_Add_loop (ps : List S24) (hps : ps.all okP = true) (hpl : ps.length ≤ 200) : ∀ (d j : Nat) (x : List (Int × Int)) (B : Int), ps.length - j = d → j ≤ ps.length → OkT x → x.length + (ps.length - j) ≤ 4000 → 0 ≤ B → (∀ p ∈ x, p.2 ≤ B) → B + 4096 * d ≤ 4611686018427387904 →
 Ev (fun k => tally_Add.l0 k (msT x) ps (ps.length : Int) (j : Int)) (fullS (addT x (ptsT (ps.drop j)))) := by
 have hg := good_pts hps
 intro d
 induction d with
 | zero =>
  intro j x B hd hj hx hxl hB hb hBd
  rw [ev_succ]
  simp only [tally_Add.l0, ev_ite]
  rw [if_neg (by omega), ev_bind (tally_full_ev _ (by rw [msT_len]; omega)), ev_some, List.drop_eq_nil_of_le (by omega), prs_ms]
  rfl
 | succ d ih =>
  intro j x B hd hj hx hxl hB hb hBd
  have hjl : j < ps.length := by omega
  have hw : wrap64 ((j : Int) + 1) = ((j + 1 : Nat) : Int) := w64 (by omega) (by omega)
  have hok := okP_iff.1 (List.all_eq_true.1 hps _ (List.getElem_mem hjl))
  have hm := tally_more_ev (l := msT x) (by rw [msT_len]; omega) (by rw [prs_ms]; exact hx) hB (by rw [prs_ms]; exact hb) (s := ps[j].f0) (n := ps[j].f2) ⟨hok.1, hok.2.1⟩ (by omega) (by omega)
  rw [prs_ms] at hm
  have hgx := ok_get hx ps[j].f0
  have hle := get_le hB hb ps[j].f0
  have hsl := setT_len x ps[j].f0 (getT x ps[j].f0 + ps[j].f2)
  have ih' := ih (j + 1) (setT x ps[j].f0 (getT x ps[j].f0 + ps[j].f2)) (B + 4096) (by omega) (by omega) (ok_set hx ⟨hok.1, hok.2.1⟩ (by omega)) (by omega) (by omega) (setT_bound (fun p hp => by have := hb p hp; omega) (by omega)) (by omega)
  rw [ev_succ]
  simp only [tally_Add.l0, ev_ite, hw, rdQ_get hjl]
  rw [if_pos (by omega), if_pos (by omega), if_pos (by omega), ev_bind hm]
  refine ev_eq ih' ?_
  rw [dropQ_eq hjl, rdQ_get hjl]
  rfl
theorem tally_Add_ev (l : List S79) (ps : List S24) (hl : l.length ≤ 200) (hp : ps.length ≤ 200) : Ev (fun k => tally_Add.f k l ps) (if (mayT (prsT l) && ps.all okP) = true then fullS (addT (prsT l) (ptsT ps)) else ([], 1)) := by
 simp only [tally_Add.f]
 rw [ev_bind (tally_may_ev l ps (by omega) (by omega)), ev_ite]
 by_cases h : (mayT (prsT l) && ps.all okP) = true
 ·rw [if_pos h, if_pos h]
  rw [Bool.and_eq_true] at h
  obtain ⟨m1, m2, m3⟩ := mayT_ok h.1
  have hcl : slices_Clone_api_Share.f l = some l := by
   unfold slices_Clone_api_Share.f
   rw [if_pos (by omega)]
  have := tally_Add_loop ps h.2 hp (ps.length - 0) 0 (prsT l) 1099511627776 rfl (by omega) m1 (by rw [prsT_len]; omega) (by omega) m3 (by omega)
  rw [ms_prs, List.drop_zero] at this
  rw [ev_bind_c hcl]
  exact this
 ·rw [if_neg h, if_neg h, ev_some]
theorem tally_Of_ev (ps : List S24) (hp : ps.length ≤ 200) : Ev (fun k => tally_Of.f k ps) (if ps.all okP = true then fullS (addT [] (ptsT ps)) else ([], 1)) := by
 have h := tally_Add_ev [] ps (by simp) hp
 have e : mayT (prsT []) = true := by decide
 rw [e, Bool.true_and] at h
 simp only [tally_Of.f]
 rw [ev_bind h, ev_some]
 rfl
theorem garnerref04_May_ev (s a l u : Int) : garnerref04_May.f s a l u = some (mayP s a l) := by
 unfold garnerref04_May.f mayP
 repeat' split
 all_goals (congr 1; first | (symm; rw [decide_eq_false_iff_not]; omega) | (rw [Bool.eq_iff_iff]; simp only [decide_eq_true_eq]; omega))
theorem garnerref09_Points_ev (l : List S24) (hl : l.length ≤ 140737488351232) : Ev (fun k => garnerref09_Points.f k l) (l.all okP) := by
 have main : ∀ (d j : Nat), l.length - j = d → j ≤ l.length → Ev (fun k => garnerref09_Points.l0 k l (j : Int)) ((l.drop j).all okP) := by
  intro d
  induction d with
  | zero =>
   intro j hd hj
   rw [ev_succ]
   simp only [garnerref09_Points.l0, ev_ite]
   rw [if_neg (by omega), ev_some, List.drop_eq_nil_of_le (by omega)]
   rfl
  | succ d ih =>
   intro j hd hj
   have hjl : j < l.length := by omega
   have hw : wrap64 ((j : Int) + 1) = ((j + 1 : Nat) : Int) := w64 (by omega) (by omega)
   have ih' := ih (j + 1) (by omega) (by omega)
   rw [dropQ_eq hjl, List.all_cons]
   rw [ev_succ]
   simp only [garnerref09_Points.l0, ev_ite, hw]
   generalize rd_T24 l (j : Int) = p
   rw [if_pos (by omega), if_pos (by omega), ev_bind_c (garnerref04_May_ev _ _ _ _), ev_ite]
   by_cases h : okP p = true
   ·rw [if_pos (show mayP p.f0 p.f1 p.f2 = true from h), h, Bool.true_and]
    exact ih'
   ·rw [if_neg (show ¬ mayP p.f0 p.f1 p.f2 = true from h), ev_some]
    rw [Bool.not_eq_true] at h
    rw [h, Bool.false_and]
 exact main (l.length - 0) 0 rfl (by omega)
def hasP (l : List S24) (k : Int × Int) : Bool := l.any (fun x => decide (keyP x = k))
theorem garnerref28_Has_ev (l : List S24) (s a : Int) (hl : l.length ≤ 140737488351232) : Ev (fun k => garnerref28_Has.f k l s a) (hasP l (s, a)) := by
 have main : ∀ (d j : Nat), l.length - j = d → j ≤ l.length → Ev (fun k => garnerref28_Has.l0 k l s a (j : Int)) (hasP (l.drop j) (s, a)) := by
  intro d
  induction d with
  | zero =>
   intro j hd hj
   rw [ev_succ]
   simp only [garnerref28_Has.l0, ev_ite]
   rw [if_neg (by omega), ev_some, List.drop_eq_nil_of_le (by omega)]
   rfl
  | succ d ih =>
   intro j hd hj
   have hjl : j < l.length := by omega
   have hw : wrap64 ((j : Int) + 1) = ((j + 1 : Nat) : Int) := w64 (by omega) (by omega)
   have ih' := ih (j + 1) (by omega) (by omega)
   rw [dropQ_eq hjl]
   rw [ev_succ]
   simp only [garnerref28_Has.l0, ev_ite, hw]
   generalize rd_T24 l (j : Int) = p
   rw [if_pos (by omega), if_pos (by omega)]
   have e : hasP (p :: l.drop (j + 1)) (s, a) = (decide (keyP p = (s, a)) || hasP (l.drop (j + 1)) (s, a)) := rfl
   rw [e]
   by_cases h1 : p.f0 = s
   ·by_cases h2 : p.f1 = a
    ·rw [if_pos h1, if_pos h2, ev_some, decide_eq_true (show keyP p = (s, a) by simp [keyP, h1, h2]), Bool.true_or]
    ·rw [if_pos h1, if_neg h2, decide_eq_false (show ¬ keyP p = (s, a) by simp [keyP, h2]), Bool.false_or]
     exact ih'
   ·rw [if_neg h1, decide_eq_false (show ¬ keyP p = (s, a) by simp [keyP, h1]), Bool.false_or]
    exact ih'
 have := main (l.length - 0) 0 rfl (by omega)
 rw [List.drop_zero] at this
 exact this
theorem lessP_iff (a b : S24) : garnerref04_Order.less a b = true ↔ ltP a b := by
 unfold garnerref04_Order.less ltP
 split
 ·rw [decide_eq_true_iff]
  omega
 ·rw [decide_eq_true_iff]
  omega
theorem posP (x : S24) (o : List S24) : ∀ k, garnerref04_Order.pos x o k ≤ k ∧ (∀ j, garnerref04_Order.pos x o k ≤ j → j < k → ltP x (o.getD j z24)) ∧ (garnerref04_Order.pos x o k = 0 ∨ ¬ ltP x (o.getD (garnerref04_Order.pos x o k - 1) z24))
 | 0 => ⟨Nat.le_refl _, fun j h1 h2 => by omega, .inl rfl⟩
 | k + 1 => by
  have ih := posP x o k
  simp only [garnerref04_Order.pos, rdP]
  by_cases h : garnerref04_Order.less x (o.getD k z24) = true
  ·rw [if_pos h]
   refine ⟨by omega, fun j h1 h2 => ?_, ih.2.2⟩
   by_cases e : j = k
   ·rw [e]
    exact (lessP_iff _ _).1 h
   ·exact ih.2.1 j h1 (by omega)
  ·rw [if_neg h]
   refine ⟨Nat.le_refl _, fun j h1 h2 => by omega, .inr ?_⟩
   rw [Nat.add_sub_cancel]
   exact fun h2 => h ((lessP_iff _ _).2 h2)
theorem insP_up {o : List S24} (h : o.Pairwise (fun a b => ¬ ltP b a)) (x : S24) : (garnerref04_Order.ins o x).Pairwise (fun a b => ¬ ltP b a) ∧ Stb keyP (o ++ [x]) (garnerref04_Order.ins o x) ∧ (garnerref04_Order.ins o x).length = o.length + 1 := by
 obtain ⟨h1, h2, h3⟩ := posP x o o.length
 unfold garnerref04_Order.ins
 generalize garnerref04_Order.pos x o o.length = p at h1 h2 h3
 have hd : ∀ b ∈ o.drop p, ltP x b := by
  intro b hb
  obtain ⟨i, hi, rfl⟩ := List.mem_iff_getElem.1 hb
  rw [List.length_drop] at hi
  have := h2 (p + i) (by omega) (by omega)
  rw [List.getD_eq_getElem?_getD, List.getElem?_eq_getElem (by omega)] at this
  rw [List.getElem_drop]
  exact this
 have ht : ∀ a ∈ o.take p, ¬ ltP x a := by
  intro a ha
  obtain ⟨i, hi, rfl⟩ := List.mem_iff_getElem.1 ha
  rw [List.length_take] at hi
  rw [List.getElem_take]
  rcases h3 with h3 | h3
  ·omega
  ·rw [List.getD_eq_getElem?_getD, List.getElem?_eq_getElem (by omega)] at h3
   simp only [Option.getD_some] at h3
   by_cases e : i = p - 1
   ·subst e
    exact h3
   ·have := (List.pairwise_iff_getElem.1 h) i (p - 1) (by omega) (by omega) (by omega)
    exact totP.tr this h3
 have hs := h
 rw [← List.take_append_drop p o, List.pairwise_append] at hs
 refine ⟨?_, ?_, ?_⟩
 ·rw [List.pairwise_append, List.pairwise_cons]
  refine ⟨hs.1, ⟨fun b hb => totP.as (hd b hb), hs.2.1⟩, fun a ha b hb => ?_⟩
  rcases List.mem_cons.1 hb with e | hb
  ·rw [e]
   exact ht a ha
  ·exact hs.2.2 a ha b hb
 ·intro c
  have e : (o ++ [x]).filter (fun y => decide (keyP y = c)) = ((o.take p).filter (fun y => decide (keyP y = c)) ++ (o.drop p).filter (fun y => decide (keyP y = c))) ++ [x].filter (fun y => decide (keyP y = c)) := by
   rw [← List.filter_append, List.take_append_drop, List.filter_append]
  rw [e, List.filter_append, show x :: o.drop p = [x] ++ o.drop p from rfl, List.filter_append, List.append_assoc]
  congr 1
  by_cases hk : keyP x = c
  ·have : (o.drop p).filter (fun y => decide (keyP y = c)) = [] := by
    rw [List.filter_eq_nil_iff]
    intro b hb hc
    have h4 : keyP b = c := of_decide_eq_true hc
    exact ltP_key (hk.trans h4.symm) (hd b hb)
   rw [this]
   simp
  ·have : [x].filter (fun y => decide (keyP y = c)) = [] := by
    rw [List.filter_eq_nil_iff]
    intro b hb hc
    rw [List.mem_singleton] at hb
    subst hb
    exact hk (of_decide_eq_true hc)
   rw [this]
   simp
 ·rw [List.length_append, List.length_cons, List.length_take, List.length_drop]
  omega
theorem foldP : ∀ (l o pre : List S24), o.Pairwise (fun a b => ¬ ltP b a) → Stb keyP pre o → (l.foldl garnerref04_Order.ins o).Pairwise (fun a b => ¬ ltP b a) ∧ Stb keyP (pre ++ l) (l.foldl garnerref04_Order.ins o) ∧ (l.foldl garnerref04_Order.ins o).length = o.length + l.length
 | [], o, pre, h1, h2 => by
  rw [List.foldl_nil, List.append_nil]
  exact ⟨h1, h2, rfl⟩
 | x :: l, o, pre, h1, h2 => by
  obtain ⟨a1, a2, a3⟩ := insP_up h1 x
  have h4 : Stb keyP (pre ++ [x]) (o ++ [x]) := fun c => by
   rw [List.filter_append, List.filter_append, h2 c]
  obtain ⟨b1, b2, b3⟩ := foldP l (garnerref04_Order.ins o x) (pre ++ [x]) a1 (h4.trans a2)
  rw [List.foldl_cons]
  refine ⟨b1, ?_, ?_⟩
  ·rw [List.append_assoc] at b2
   exact b2
  ·rw [b3, a3, List.length_cons]
   omega
theorem orderP_end (l : List S24) : (l.foldl garnerref04_Order.ins []).length = l.length ∧ Stb keyP l (l.foldl garnerref04_Order.ins []) ∧ Up ltP z24 (l.foldl garnerref04_Order.ins []) 0 l.length := by
 obtain ⟨h1, h2, h3⟩ := foldP l [] [] List.Pairwise.nil (Stb.refl _)
 rw [List.length_nil, Nat.zero_add] at h3
 rw [List.nil_append] at h2
 refine ⟨h3, h2, fun i j _ hij hj => ?_⟩
 have := (List.pairwise_iff_getElem.1 h1) i j (by omega) (by omega) hij
 rw [List.getD_eq_getElem?_getD, List.getD_eq_getElem?_getD, List.getElem?_eq_getElem (by omega), List.getElem?_eq_getElem (by omega)]
 exact this
def putR (l : List S24) (x : S24) : List S24 := if hasP l (keyP x) = true then l else (l ++ [x]).foldl garnerref04_Order.ins []
theorem putR_len (l : List S24) (x : S24) : (putR l x).length ≤ l.length + 1 := by
 unfold putR
 split
 ·omega
 ·rw [(orderP_end _).1]
  simp
theorem garnerref28_Put_ev (more : List S24) : ∀ l : List S24, l.length + more.length ≤ 1000000 → Ev (fun k => garnerref28_Put.f k l more) (more.foldl putR l) := by
 intro l0 hb0
 have hmb : more.length ≤ 1000000 := by omega
 have main : ∀ (d j : Nat) (l : List S24), more.length - j = d → j ≤ more.length → l.length + (more.length - j) ≤ 1000000 → Ev (fun k => garnerref28_Put.l0 k l more (j : Int)) ((more.drop j).foldl putR l) := by
  intro d
  induction d with
  | zero =>
   intro j l hd hj hb
   rw [ev_succ]
   simp only [garnerref28_Put.l0, ev_ite]
   rw [if_neg (by omega), ev_some, List.drop_eq_nil_of_le (by omega)]
   rfl
  | succ d ih =>
   intro j l hd hj hb
   have hjl : j < more.length := by omega
   have hw : wrap64 ((j : Int) + 1) = ((j + 1 : Nat) : Int) := w64 (by omega) (by omega)
   rw [dropQ_eq hjl, List.foldl_cons]
   rw [ev_succ]
   simp only [garnerref28_Put.l0, ev_ite, hw]
   generalize rd_T24 more (j : Int) = p
   have hlen := putR_len l p
   have ih' := ih (j + 1) (putR l p) (by omega) (by omega) (by omega)
   rw [if_pos (by omega), if_pos (by omega), ev_bind (garnerref28_Has_ev l p.f0 p.f1 (by omega)), ev_ite]
   by_cases h : hasP l (p.f0, p.f1) = true
   ·rw [if_pos h]
    have e : putR l p = l := by unfold putR; rw [if_pos (show hasP l (keyP p) = true from h)]
    rw [e] at ih' ⊢
    exact ih'
   ·rw [if_neg h]
    have e : putR l p = (l ++ [p]).foldl garnerref04_Order.ins [] := by unfold putR; rw [if_neg (show ¬ hasP l (keyP p) = true from h)]
    have h3 : garnerref04_Order.f (l ++ [p]) = some ((l ++ [p]).foldl garnerref04_Order.ins []) := by
     unfold garnerref04_Order.f
     rw [if_pos (by rw [List.length_append, List.length_singleton]; omega)]
    rw [e] at ih' ⊢
    simp only [Option.bind_some, List.nil_append, List.length_nil, List.length_singleton, ev_ite]
    rw [if_pos (by omega), if_pos (by omega), ev_bind_c h3]
    exact ih'
 have := main (more.length - 0) 0 l0 rfl (by omega) (by omega)
 rw [List.drop_zero] at this
 simp only [garnerref28_Put.f]
 exact this
theorem garnerref04_Same_ev {a b : List S24} (hl : a.length ≤ maxLen) : Ev (fun k => garnerref04_Same.f k a b) (decide (a.map prP = b.map prP)) := by
 have hlm := maxLen_le hl
 simp only [garnerref04_Same.f, ev_ite]
 by_cases h : a.length = b.length
 ·rw [if_pos (by omega)]
  have main : ∀ (d i : Nat), a.length - i = d → i ≤ a.length → Ev (fun k => garnerref04_Same.l0 k a b (i : Int)) (decide ((a.drop i).map prP = (b.drop i).map prP)) := by
   intro d
   induction d with
   | zero =>
    intro i hd hi
    rw [ev_succ]
    simp only [garnerref04_Same.l0, ev_ite]
    rw [if_neg (by omega), ev_some, List.drop_eq_nil_of_le (by omega), List.drop_eq_nil_of_le (by omega)]
    simp
   | succ d ih =>
    intro i hd hi
    rw [ev_succ]
    simp only [garnerref04_Same.l0, ev_ite]
    rw [if_pos (by omega), if_pos (by omega), if_pos (by omega), dropP_eq (l := a) (by omega), dropP_eq (l := b) (by omega), List.map_cons, List.map_cons, w64 (by omega) (by omega)]
    generalize rd_T24 a (i : Int) = f
    generalize rd_T24 b (i : Int) = g
    by_cases h0 : prP f = prP g
    ·have h1 := h0
     simp only [prP, Prod.mk.injEq] at h1
     rw [if_neg (by simp [h1]), h0]
     refine ev_eq (ih (i + 1) (by omega) (by omega)) ?_
     rw [decide_eq_decide, List.cons.injEq]
     exact ⟨fun h => ⟨rfl, h⟩, fun h => h.2⟩
    ·rw [if_pos (by
      simp only [prP, Prod.mk.injEq] at h0
      simp only [Bool.or_eq_true, Bool.not_eq_true', beq_eq_false_iff_ne]
      omega), ev_some]
     symm
     rw [decide_eq_false_iff_not, List.cons.injEq]
     exact fun h => h0 h.1
  exact main (a.length - 0) 0 rfl (by omega)
 ·rw [if_neg (by omega), ev_some]
  symm
  rw [decide_eq_false_iff_not]
  intro e
  have := congrArg List.length e
  rw [List.length_map, List.length_map] at this
  exact h this
theorem garnerref28_Of_ev (l : List S24) (s : Int) (hl : l.length ≤ 1000000) : Ev (fun k => garnerref28_Of.f k l s) (l.filter (fun x => decide (x.f0 = s))) := by
 have main : ∀ (d j : Nat) (acc : List S24), l.length - j = d → j ≤ l.length → acc.length ≤ j → Ev (fun k => garnerref28_Of.l0 k l s acc (j : Int)) (acc ++ (l.drop j).filter (fun x => decide (x.f0 = s))) := by
  intro d
  induction d with
  | zero =>
   intro j acc hd hj ha
   rw [ev_succ]
   simp only [garnerref28_Of.l0, ev_ite]
   rw [if_neg (by omega), ev_some, List.drop_eq_nil_of_le (by omega)]
   simp
  | succ d ih =>
   intro j acc hd hj ha
   have hjl : j < l.length := by omega
   have hw : wrap64 ((j : Int) + 1) = ((j + 1 : Nat) : Int) := w64 (by omega) (by omega)
   rw [dropQ_eq hjl]
   rw [ev_succ]
   simp only [garnerref28_Of.l0, ev_ite, hw]
   generalize rd_T24 l (j : Int) = p
   rw [if_pos (by omega), if_pos (by omega)]
   by_cases h : p.f0 = s
   ·rw [if_pos h, if_pos (by omega), List.filter_cons_of_pos (by simpa using h)]
    have ih' := ih (j + 1) (acc ++ [p]) (by omega) (by omega) (by rw [List.length_append, List.length_singleton]; omega)
    rw [List.append_assoc] at ih'
    exact ih'
   ·rw [if_neg h, List.filter_cons_of_neg (by simpa using h)]
    exact ih (j + 1) acc (by omega) (by omega) (by omega)
 have := main (l.length - 0) 0 [] rfl (by omega) (by simp)
 rw [List.drop_zero, List.nil_append] at this
 exact this
theorem garnerref09_Same_ev (l : List S79) (hl : l.length ≤ 140737488351232) : Ev (fun k => garnerref09_Same.f k l l) true := by
 have main : ∀ (d j : Nat), l.length - j = d → j ≤ l.length → Ev (fun k => garnerref09_Same.l0 k l l (j : Int)) true := by
  intro d
  induction d with
  | zero =>
   intro j hd hj
   rw [ev_succ]
   simp only [garnerref09_Same.l0, ev_ite]
   rw [if_neg (by omega), ev_some]
  | succ d ih =>
   intro j hd hj
   have hw : wrap64 ((j : Int) + 1) = ((j + 1 : Nat) : Int) := w64 (by omega) (by omega)
   rw [ev_succ]
   simp only [garnerref09_Same.l0, ev_ite, hw]
   rw [if_pos (by omega), if_pos (by omega), if_pos (by omega), if_neg (by simp)]
   exact ih (j + 1) (by omega) (by omega)
 simp only [garnerref09_Same.f, ev_ite]
 rw [if_pos (by trivial)]
 exact main (l.length - 0) 0 rfl (by omega)
theorem garnerref09_Set_done (l : List S79) (s n : Int) (hl : l.length ≤ 4000) : ∀ (d j : Nat) (out : List S79), l.length - j = d → j ≤ l.length → out.length ≤ j + 1 → Ev (fun k => garnerref09_Set.l0 k l s n out true (j : Int)) (out ++ msT ((prsT (l.drop j)).filter (fun p => decide (p.1 ≠ s)))) := by
 intro d
 induction d with
 | zero =>
  intro j out hd hj ho
  rw [ev_succ]
  simp only [garnerref09_Set.l0, ev_ite]
  rw [if_neg (by omega), if_pos (by trivial), ev_some, List.drop_eq_nil_of_le (by omega)]
  simp [prsT, msT]
 | succ d ih =>
  intro j out hd hj ho
  have hjl : j < l.length := by omega
  have hw : wrap64 ((j : Int) + 1) = ((j + 1 : Nat) : Int) := w64 (by omega) (by omega)
  rw [dropT_eq hjl]
  rw [ev_succ]
  simp only [garnerref09_Set.l0, ev_ite]
  rw [if_pos (by omega), if_pos (by trivial), ev_succ]
  simp only [garnerref09_Set.j1, ev_ite, hw]
  generalize rd_T79 l (j : Int) = p
  have e : prsT (p :: l.drop (j + 1)) = (p.f0, p.f1) :: prsT (l.drop (j + 1)) := rfl
  rw [if_neg (by simp), if_pos (by omega), if_pos (by omega), e, List.filter_cons]
  by_cases h : p.f0 = s
  ·rw [if_pos h, if_neg (by simp [h])]
   exact ih (j + 1) out (by omega) (by omega) (by omega)
  ·rw [if_neg h, if_pos (by omega), if_pos (by simp [h])]
   refine ev_eq (ih (j + 1) (out ++ [⟨p.f0, p.f1⟩]) (by omega) (by omega) (by rw [List.length_append, List.length_singleton]; omega)) ?_
   rw [List.append_assoc]
   rfl
theorem garnerref09_Set_open (l : List S79) (hs : SortP (prsT l)) (s n : Int) (hn : n ≠ 0) (hl : l.length ≤ 4000) : ∀ (d j : Nat) (out : List S79), l.length - j = d → j ≤ l.length → out.length ≤ j → Ev (fun k => garnerref09_Set.l0 k l s n out false (j : Int)) (out ++ msT (setT (prsT (l.drop j)) s n)) := by
 intro d
 induction d with
 | zero =>
  intro j out hd hj ho
  rw [ev_succ]
  simp only [garnerref09_Set.l0, ev_ite]
  rw [if_neg (by omega), if_neg (by simp), if_pos (by omega), ev_some, List.drop_eq_nil_of_le (by omega)]
  have e : prsT ([] : List S79) = [] := rfl
  rw [e, setT, if_neg hn]
  rfl
 | succ d ih =>
  intro j out hd hj ho
  have hjl : j < l.length := by omega
  have hw : wrap64 ((j : Int) + 1) = ((j + 1 : Nat) : Int) := w64 (by omega) (by omega)
  have hso : SortP (prsT (l.drop j)) := by rw [prsT_drop]; exact hs.sublist (List.drop_sublist _ _)
  have hdone := garnerref09_Set_done l s n hl (l.length - (j + 1)) (j + 1)
  rw [dropT_eq hjl] at hso ⊢
  rw [ev_succ]
  simp only [garnerref09_Set.l0, ev_ite]
  rw [if_pos (by omega), if_neg (by simp), if_pos (by omega), ev_succ]
  simp only [garnerref09_Set.j1, ev_ite, hw]
  generalize rd_T79 l (j : Int) = p at hso ⊢
  have e : prsT (p :: l.drop (j + 1)) = (p.f0, p.f1) :: prsT (l.drop (j + 1)) := rfl
  rw [e] at hso ⊢
  have hp := List.pairwise_cons.1 hso
  by_cases h1 : p.f0 < s
  ·rw [decide_eq_false (by omega), if_neg (by simp), if_pos (by omega), if_pos (by omega), if_neg (by omega), if_pos (by omega), setT, if_pos h1]
   refine ev_eq (ih (j + 1) (out ++ [⟨p.f0, p.f1⟩]) (by omega) (by omega) (by rw [List.length_append, List.length_singleton]; omega)) ?_
   rw [List.append_assoc]
   rfl
  ·have hall : (prsT (l.drop (j + 1))).filter (fun p => decide (p.1 ≠ s)) = prsT (l.drop (j + 1)) := List.filter_eq_self.2 (fun x hx => by have := hp.1 x hx; simp; simp only at this; omega)
   rw [decide_eq_true (by omega), if_pos (by trivial), if_pos (by omega), setT, if_neg h1]
   simp only [Option.bind_some, ev_ite]
   rw [if_pos (by omega), if_pos (by omega)]
   by_cases h2 : p.f0 = s
   ·rw [if_pos h2, if_pos h2, if_neg hn]
    refine ev_eq (hdone (out ++ [⟨s, n⟩]) rfl (by omega) (by rw [List.length_append, List.length_singleton]; omega)) ?_
    rw [hall, List.append_assoc]
    rfl
   ·rw [if_neg h2, if_neg h2, if_neg hn, if_pos (by rw [List.length_append, List.length_singleton]; omega)]
    refine ev_eq (hdone (out ++ [⟨s, n⟩] ++ [⟨p.f0, p.f1⟩]) rfl (by omega) (by rw [List.length_append, List.length_append, List.length_singleton, List.length_singleton]; omega)) ?_
    rw [hall, List.append_assoc, List.append_assoc]
    rfl
theorem garnerref09_Set_ev (x : List (Int × Int)) (hs : SortP x) (s n : Int) (hl : x.length ≤ 4000) : Ev (fun k => garnerref09_Set.f k (msT x) s n) (msT (setT x s n)) := by
 simp only [garnerref09_Set.f]
 by_cases h : n = 0
 ·subst h
  have := garnerref09_Set_done (msT x) s 0 (by rw [msT_len]; exact hl) _ 0 [] rfl (by omega) (by simp)
  rw [List.drop_zero, prs_ms, List.nil_append, ← setT_filter hs] at this
  exact this
 ·have := garnerref09_Set_open (msT x) (by rw [prs_ms]; exact hs) s n h (by rw [msT_len]; exact hl) _ 0 [] rfl (by omega) (by simp)
  rw [List.drop_zero, prs_ms, List.nil_append] at this
  have e : (n == 0) = false := by simpa using h
  rw [e]
  exact this
theorem garnerref09_Get_ev (l : List S79) (s : Int) (hl : l.length ≤ 140737488351232) : Ev (fun k => garnerref09_Get.f k l s) (getT (prsT l) s) := by
 have main : ∀ (d j : Nat), l.length - j = d → j ≤ l.length → Ev (fun k => garnerref09_Get.l0 k l s (j : Int)) (getT (prsT (l.drop j)) s) := by
  intro d
  induction d with
  | zero =>
   intro j hd hj
   rw [ev_succ]
   simp only [garnerref09_Get.l0, ev_ite]
   rw [if_neg (by omega), ev_some, List.drop_eq_nil_of_le (by omega)]
   rfl
  | succ d ih =>
   intro j hd hj
   have hjl : j < l.length := by omega
   have hw : wrap64 ((j : Int) + 1) = ((j + 1 : Nat) : Int) := w64 (by omega) (by omega)
   have ih' := ih (j + 1) (by omega) (by omega)
   rw [dropT_eq hjl]
   rw [ev_succ]
   simp only [garnerref09_Get.l0, ev_ite, hw]
   generalize rd_T79 l (j : Int) = p
   have e : getT (prsT (p :: l.drop (j + 1))) s = if p.f0 = s then p.f1 else getT (prsT (l.drop (j + 1))) s := rfl
   rw [if_pos (by omega), if_pos (by omega), e]
   by_cases h : p.f0 = s
   ·rw [if_pos h, if_pos h, ev_some]
   ·rw [if_neg h, if_neg h]
    exact ih'
 exact main (l.length - 0) 0 rfl (by omega)
theorem garnerref09_Add_loop (ps : List S24) (hps : ps.all okP = true) (hpl : ps.length ≤ 200) : ∀ (d j : Nat) (x : List (Int × Int)) (B : Int), ps.length - j = d → j ≤ ps.length → OkT x → x.length + (ps.length - j) ≤ 4000 → 0 ≤ B → (∀ p ∈ x, p.2 ≤ B) → B + 4096 * d ≤ 4611686018427387904 →
 Ev (fun k => garnerref09_Add.l0 k (msT x) ps (j : Int)) (msT (addT x (ptsT (ps.drop j)))) := by
 intro d
 induction d with
 | zero =>
  intro j x B hd hj hx hxl hB hb hBd
  rw [ev_succ]
  simp only [garnerref09_Add.l0, ev_ite]
  rw [if_neg (by omega), ev_some, List.drop_eq_nil_of_le (by omega)]
  rfl
 | succ d ih =>
  intro j x B hd hj hx hxl hB hb hBd
  have hjl : j < ps.length := by omega
  have hw : wrap64 ((j : Int) + 1) = ((j + 1 : Nat) : Int) := w64 (by omega) (by omega)
  have hok := okP_iff.1 (List.all_eq_true.1 hps _ (List.getElem_mem hjl))
  have hgt := garnerref09_Get_ev (msT x) ps[j].f0 (by rw [msT_len]; omega)
  rw [prs_ms] at hgt
  have hgx := ok_get hx ps[j].f0
  have hle := get_le hB hb ps[j].f0
  have hwv : wrap64 (getT x ps[j].f0 + ps[j].f2) = getT x ps[j].f0 + ps[j].f2 := w64 (by omega) (by omega)
  have hst := garnerref09_Set_ev x hx.1 ps[j].f0 (getT x ps[j].f0 + ps[j].f2) (by omega)
  have hsl := setT_len x ps[j].f0 (getT x ps[j].f0 + ps[j].f2)
  have ih' := ih (j + 1) (setT x ps[j].f0 (getT x ps[j].f0 + ps[j].f2)) (B + 4096) (by omega) (by omega) (ok_set hx ⟨hok.1, hok.2.1⟩ (by omega)) (by omega) (by omega) (setT_bound (fun p hp => by have := hb p hp; omega) (by omega)) (by omega)
  rw [ev_succ]
  simp only [garnerref09_Add.l0, ev_ite, hw, rdQ_get hjl]
  rw [if_pos (by omega), if_pos (by omega), ev_bind hgt, hwv, ev_bind hst]
  refine ev_eq ih' ?_
  rw [dropQ_eq hjl, rdQ_get hjl]
  rfl
theorem garnerref09_Add_ev (l : List S79) (ps : List S24) (hm : mayT (prsT l) = true) (hps : ps.all okP = true) (hl : l.length ≤ 200) (hp : ps.length ≤ 200) : Ev (fun k => garnerref09_Add.f k l ps) (msT (addT (prsT l) (ptsT ps))) := by
 obtain ⟨m1, m2, m3⟩ := mayT_ok hm
 have := garnerref09_Add_loop ps hps hp (ps.length - 0) 0 (prsT l) 1099511627776 rfl (by omega) m1 (by rw [prsT_len]; omega) (by omega) m3 (by omega)
 rw [ms_prs, List.drop_zero] at this
 simp only [garnerref09_Add.f]
 exact this
theorem containsP_ev (ps : List S24) (hp : ps.length ≤ 140737488351232) : Ev (fun k => slices_ContainsFunc_api_Point.f k ps) (!ps.all okP) := by
 obtain ⟨r, r1, r2⟩ := slices_IndexFunc_api_Point_ev ps hp
 simp only [slices_ContainsFunc_api_Point.f]
 rw [ev_bind r1, ev_some]
 cases h : ps.all okP with
 | true => rw [h] at r2; simp at r2 ⊢; exact r2
 | false => rw [h] at r2; simp at r2 ⊢; exact r2
theorem talP_ev (ps : List S24) (hq : ps.all okP = true) (hp : ps.length ≤ 200) : ∃ T, Ev (fun k => tally_Of.f k ps) (T, 0) ∧ Ev (fun k => garnerref09_Add.f k [] ps) T ∧ Ev (fun k => garnerref09_Same.f k T T) true := by
 obtain ⟨g1, g2⟩ := good_pts hq
 obtain ⟨b1, b2, b3⟩ := addT_spec ok_nil g1
 rw [ptsT_len, List.length_nil] at b3
 have hmy : mayT (addT [] (ptsT ps)) = true := ok_mayT b1 (by omega) (le_of_get b1 (fun t => by
  have h1 := b2 t
  have h2 := sum_le g2 (by omega) t
  rw [ptsT_len] at h2
  have h3 : getT [] t = 0 := rfl
  omega))
 have h1 := tally_Of_ev ps hp
 rw [if_pos hq] at h1
 unfold fullS at h1
 rw [if_pos hmy] at h1
 have h2 := garnerref09_Add_ev [] ps (by decide) hq (by simp) hp
 exact ⟨msT (addT [] (ptsT ps)), h1, h2, garnerref09_Same_ev _ (by rw [msT_len]; omega)⟩
end Go.Proofs.Ytpefjfibhjnijaa.Pure
