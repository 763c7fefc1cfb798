/- The pure statement of the law WalMakes: what the printed functions answer, each by its plain law, and that the law's answer is true. -/
import Derived.Test.YtmcijphmcobjlaaPWalMakesx0
import Derived.Test.YtmcijphmcobjlaaPWalMakesx5
import Derived.Test.YtmcijphmcobjlaaPWalMakesx8
import Derived.Test.YtmcijphmcobjlaaPWalMakesx9
import Derived.Test.YtmcijphmcobjlaaPWalMakesx11
import Derived.Test.YtmcijphmcobjlaaPWalMakesx16
import Derived.Test.YtmcijphmcobjlaaPWalMakesx18
import Derived.Test.YtmcijphmcobjlaaPWalMakesx19
import Derived.Test.YtmcijphmcobjlaaPWalMakesx21
import Derived.Test.YtmcijphmcobjlaaPWalMakesx22
import Derived.Test.YtmcijphmcobjlaaStWalMakes
import Derived.Test.YtmcijphmcobjlaaQSz
import Derived.Test.YtmcijphmcobjlaaQV02
import Derived.Test.YtmcijphmcobjlaaQF06
import Derived.Test.YtmcijphmcobjlaaQF23
import Derived.Test.YtmcijphmcobjlaaQV22
import Derived.Test.YtmcijphmcobjlaaQV07
import Derived.Test.YtmcijphmcobjlaaQV04
namespace Go.Proofs.Ytmcijphmcobjlaa.Pure
open Go.RowKit Go.Proofs.Ytmcijphmcobjlaa.PWalMakes Go.Proofs.Ytmcijphmcobjlaa.U Go.Proofs.YtmcijphmcobjlaaW.PrintWords Go.Proofs.YtmcijphmcobjlaaW.PrintLast Go.Proofs.YtmcijphmcobjlaaW.PrintMore
set_option linter.unusedVariables false
set_option linter.unusedSimpArgs false
set_option maxRecDepth 4000
def prN (e : S54) : Ent := ⟨e.f0, e.f1, e.f2, e.f3, e.f4.f0, e.f4.f1, e.f4.f2.f0, e.f4.f2.f1, e.f4.f2.f2, e.f4.f2.f3⟩
def prsN (l : List S54) : List Ent := l.map prN
theorem prsN_len (l : List S54) : (prsN l).length = l.length := by simp [prsN]
theorem rdN_get {l : List S54} {i : Nat} (h : i < l.length) : rd_T54 l (i : Int) = l[i] := by
 simp [rd_T54, h]
theorem dropN_eq {l : List S54} {i : Nat} (h : i < l.length) : l.drop i = rd_T54 l (i : Int) :: l.drop (i + 1) := by
 rw [rdN_get h]
 exact List.drop_eq_getElem_cons h
theorem rdN_mem {l : List S54} {i : Nat} (h : i < l.length) : rd_T54 l (i : Int) ∈ l := by
 rw [rdN_get h]
 exact List.getElem_mem _
def goodN (e : S54) : Prop := (-9223372036854775808 ≤ e.f0 ∧ e.f0 ≤ 9223372036854775807) ∧ (-9223372036854775808 ≤ e.f1 ∧ e.f1 ≤ 9223372036854775807) ∧ e.f3.size ≤ 140737488351232 ∧ e.f4.f1.length ≤ 140737488351232 ∧ Bytes e.f4.f1 ∧ (0 ≤ e.f4.f2.f3 ∧ e.f4.f2.f3 < 4294967296)
abbrev EntS := S54
abbrev ixS (e : EntS) : Int := e.f0
abbrev tmS (e : EntS) : Int := e.f1
theorem rdE_get {l : List EntS} {i : Nat} (h : i < l.length) : rd_T54 l (i : Int) = l[i] := by
 simp [rd_T54, h]
theorem rdE_drop {l : List EntS} {i : Nat} (h : i < l.length) : l.drop i = rd_T54 l (i : Int) :: l.drop (i + 1) := by
 rw [rdE_get h]
 exact List.drop_eq_getElem_cons h
theorem rdE_mem {l : List EntS} {i : Nat} (h : i < l.length) : rd_T54 l (i : Int) ∈ l := by
 rw [rdE_get h]
 exact List.getElem_mem _
def goodR (e : EntS) : Prop := (-9223372036854775808 ≤ e.f0 ∧ e.f0 ≤ 9223372036854775807) ∧ e.f4.f1.length ≤ 140737488351232
def RowsS (l : List EntS) : Prop := RowsP ixS tmS l
theorem garnerlaw06_Light_ev (l : List S54) (hl : l.length ≤ 140737488351232) : Ev (fun k => garnerlaw06_Light.f k l) (lightN (prsN l)) := by
 have main : ∀ (d i : Nat), l.length - i = d → i ≤ l.length → i ≤ 41 → lightN (prsN l) = (decide (l.length ≤ 40) && (prsN (l.drop i)).all fun e => decide (e.key.size ≤ 200 ∧ e.b.length ≤ 200)) → Ev (fun k => garnerlaw06_Light.l0 k l (i : Int)) (lightN (prsN l)) := by
  intro d
  induction d with
  | zero =>
   intro i hd hi h41 he
   rw [List.drop_eq_nil_of_le (by omega)] at he
   rw [he, ev_succ]
   simp only [garnerlaw06_Light.l0, ev_ite]
   rw [if_neg (by omega), ev_succ]
   simp only [garnerlaw06_Light.j1, ev_ite]
   rw [if_neg (by simp), ev_some]
   have e : (prsN []).all (fun e => decide (e.key.size ≤ 200 ∧ e.b.length ≤ 200)) = true := rfl
   rw [e, Bool.and_true, decide_eq_decide]
   omega
  | succ d ih =>
   intro i hd hi h41 he
   have hil : i < l.length := by omega
   rw [dropN_eq hil] at he
   have hw : wrap64 ((i : Int) + 1) = ((i + 1 : Nat) : Int) := w64 (by omega) (by omega)
   have ih' := ih (i + 1) (by omega) (by omega)
   rw [ev_succ]
   simp only [garnerlaw06_Light.l0, ev_ite]
   rw [if_pos (by omega), ev_succ]
   simp only [garnerlaw06_Light.j1, ev_ite, hw]
   generalize rd_T54 l (i : Int) = f at he ⊢
   have e1 : (prsN (f :: l.drop (i + 1))).all (fun e => decide (e.key.size ≤ 200 ∧ e.b.length ≤ 200)) = (decide (f.f3.size ≤ 200 ∧ f.f4.f1.length ≤ 200) && (prsN (l.drop (i + 1))).all fun e => decide (e.key.size ≤ 200 ∧ e.b.length ≤ 200)) := rfl
   rw [e1] at he
   by_cases h1 : i ≤ 40
   ·rw [if_pos (by rw [decide_eq_true_eq]; omega), if_pos (by omega), if_pos (by omega)]
    by_cases h2 : f.f3.size > 200
    ·rw [if_pos (by omega), ev_some, he, decide_eq_false (show ¬ (f.f3.size ≤ 200 ∧ f.f4.f1.length ≤ 200) by omega), Bool.false_and, Bool.and_false]
    ·rw [if_neg (by omega)]
     by_cases h3 : f.f4.f1.length > 200
     ·rw [if_pos (by omega), ev_some, he, decide_eq_false (show ¬ (f.f3.size ≤ 200 ∧ f.f4.f1.length ≤ 200) by omega), Bool.false_and, Bool.and_false]
     ·rw [if_neg (by omega)]
      refine ih' (by omega) ?_
      rw [he, decide_eq_true (show f.f3.size ≤ 200 ∧ f.f4.f1.length ≤ 200 by omega), Bool.true_and]
   ·rw [if_neg (by rw [decide_eq_true_eq]; omega), ev_some, he, decide_eq_false (show ¬ l.length ≤ 40 by omega), Bool.false_and, decide_eq_false (by omega)]
 refine main (l.length - 0) 0 rfl (by omega) (by omega) ?_
 unfold lightN
 rw [prsN_len, List.drop_zero]
theorem raft_counts_ev (n : Int) : raft_counts.f n = some (decide (1 ≤ n ∧ n ≤ 2147483647)) := by
 unfold raft_counts.f
 split
 ·congr 1
  rw [decide_eq_decide]
  omega
 ·congr 1
  symm
  rw [decide_eq_false_iff_not]
  omega
theorem raft_rows_ev (l : List EntS) (hl : l.length ≤ 140737488351232) (hg : ∀ e ∈ l, goodR e) : ∃ b, Ev (fun k => raft_rows.f k l) b ∧ (b = true ↔ RowsS l) := by
 have main : ∀ (d j : Nat), l.length - j = d → j ≤ l.length → (∀ q (h : q < j) (h' : q < l.length), 1 ≤ ixS l[q] ∧ ixS l[q] ≤ 2147483647 ∧ 1 ≤ tmS l[q] ∧ tmS l[q] ≤ 2147483647) → (∀ q (h : q + 1 < j) (h' : q + 1 < l.length), ixS l[q + 1] = ixS l[q] + 1 ∧ tmS l[q] ≤ tmS l[q + 1]) →
  ∃ b, Ev (fun k => raft_rows.l0 k l l (l.length : Int) (j : Int)) b ∧ (b = true ↔ RowsS l) := by
  intro d
  induction d with
  | zero =>
   intro j hd hj h1 h2
   refine ⟨true, ?_, ?_⟩
   ·rw [ev_succ]
    simp only [raft_rows.l0, ev_ite]
    rw [if_neg (by omega), ev_some]
   ·have : RowsS l := ⟨fun q hq => h1 q (by omega) hq, fun q hq => h2 q (by omega) hq⟩
    simp [this]
  | succ d ih =>
   intro j hd hj h1 h2
   have hjl : j < l.length := by omega
   have hgj := hg _ (List.getElem_mem hjl)
   have hw : wrap64 ((j : Int) + 1) = ((j + 1 : Nat) : Int) := w64 (by omega) (by omega)
   have no : ¬ RowsS l → ∃ b, Ev (fun _ => some false) b ∧ (b = true ↔ RowsS l) := fun h => ⟨false, by rw [ev_some], by simp [h]⟩
   have step : (1 ≤ ixS l[j] ∧ ixS l[j] ≤ 2147483647 ∧ 1 ≤ tmS l[j] ∧ tmS l[j] ≤ 2147483647) → (∀ q (h : q + 1 = j), ixS l[j] = ixS (l[q]'(by omega)) + 1 ∧ tmS (l[q]'(by omega)) ≤ tmS l[j]) → ∃ b, Ev (fun k => raft_rows.l0 k l l (l.length : Int) ((j + 1 : Nat) : Int)) b ∧ (b = true ↔ RowsS l) := by
    intro h3 h4
    refine ih (j + 1) (by omega) (by omega) ?_ ?_
    ·intro q hq hq'
     by_cases he : q = j
     ·subst he; exact h3
     ·exact h1 q (by omega) hq'
    ·intro q hq hq'
     by_cases he : q + 1 = j
     ·have := h4 q he
      simp only [he]
      exact this
     ·exact h2 q (by omega) hq'
   have key : ∃ b, Ev (fun k => raft_rows.l0 (k + 1) l l (l.length : Int) (j : Int)) b ∧ (b = true ↔ RowsS l) := by
    simp only [raft_rows.l0, ev_ite, hw, rdE_get hjl]
    by_cases c1 : 1 ≤ l[j].f0 ∧ l[j].f0 ≤ 2147483647
    ·by_cases c2 : 1 ≤ l[j].f1 ∧ l[j].f1 ≤ 2147483647
     ·by_cases hj0 : j = 0
      ·obtain ⟨b, hb, hb2⟩ := step ⟨c1.1, c1.2, c2.1, c2.2⟩ (fun q hq => by omega)
       refine ⟨b, ?_, hb2⟩
       rw [if_pos (by omega), if_pos (by omega), if_pos (by omega), ev_bind_c (raft_counts_ev _), ev_ite, if_pos (by simpa using c1), ev_bind_c (raft_counts_ev _), ev_ite, if_pos (by simpa using c2), ev_ite, if_neg (by omega)]
       exact hb
      ·have e : wrap64 ((j : Int) - 1) = ((j - 1 : Nat) : Int) := by
        rw [w64 (by omega) (by omega)]
        omega
       have ej : j - 1 + 1 = j := by omega
       by_cases c3 : l[j].f0 = (l[j - 1]'(by omega)).f0 + 1
       ·by_cases c4 : l[j].f1 < (l[j - 1]'(by omega)).f1
        ·obtain ⟨b, hb, hb2⟩ := no (fun h => by
          have := (h.2 (j - 1) (by omega)).2
          simp only [ixS, tmS, ej] at this
          omega)
         refine ⟨b, ?_, hb2⟩
         rw [if_pos (by omega), if_pos (by omega), if_pos (by omega), ev_bind_c (raft_counts_ev _), ev_ite, if_pos (by simpa using c1), ev_bind_c (raft_counts_ev _), ev_ite, if_pos (by simpa using c2), ev_ite, if_pos (by omega)]
         simp only [e, ev_ite, rdE_get (show j - 1 < l.length by omega)]
         rw [if_pos (by omega), if_pos (by omega), w64 (by omega) (by omega), if_pos (by omega), if_pos c4]
         exact hb
        ·obtain ⟨b, hb, hb2⟩ := step ⟨c1.1, c1.2, c2.1, c2.2⟩ (fun q hq => by
          have eq : q = j - 1 := by omega
          subst eq
          exact ⟨c3, by simp only [tmS]; omega⟩)
         refine ⟨b, ?_, hb2⟩
         rw [if_pos (by omega), if_pos (by omega), if_pos (by omega), ev_bind_c (raft_counts_ev _), ev_ite, if_pos (by simpa using c1), ev_bind_c (raft_counts_ev _), ev_ite, if_pos (by simpa using c2), ev_ite, if_pos (by omega)]
         simp only [e, ev_ite, rdE_get (show j - 1 < l.length by omega)]
         rw [if_pos (by omega), if_pos (by omega), w64 (by omega) (by omega), if_pos (by omega), if_neg c4]
         exact hb
       ·obtain ⟨b, hb, hb2⟩ := no (fun h => by
         have := (h.2 (j - 1) (by omega)).1
         simp only [ixS, tmS, ej] at this
         omega)
        refine ⟨b, ?_, hb2⟩
        rw [if_pos (by omega), if_pos (by omega), if_pos (by omega), ev_bind_c (raft_counts_ev _), ev_ite, if_pos (by simpa using c1), ev_bind_c (raft_counts_ev _), ev_ite, if_pos (by simpa using c2), ev_ite, if_pos (by omega)]
        simp only [e, ev_ite, rdE_get (show j - 1 < l.length by omega)]
        rw [if_pos (by omega), if_pos (by omega), w64 (by omega) (by omega), if_neg (by omega)]
        exact hb
     ·obtain ⟨b, hb, hb2⟩ := no (fun h => c2 ⟨(h.1 j hjl).2.2.1, (h.1 j hjl).2.2.2⟩)
      refine ⟨b, ?_, hb2⟩
      rw [if_pos (by omega), if_pos (by omega), if_pos (by omega), ev_bind_c (raft_counts_ev _), ev_ite, if_pos (by simpa using c1), ev_bind_c (raft_counts_ev _), ev_ite, if_neg (by simpa using c2)]
      exact hb
    ·obtain ⟨b, hb, hb2⟩ := no (fun h => c1 ⟨(h.1 j hjl).1, (h.1 j hjl).2.1⟩)
     refine ⟨b, ?_, hb2⟩
     rw [if_pos (by omega), if_pos (by omega), if_pos (by omega), ev_bind_c (raft_counts_ev _), ev_ite, if_neg (by simpa using c1)]
     exact hb
   obtain ⟨b, hb, hb2⟩ := key
   exact ⟨b, ev_succ.2 hb, hb2⟩
 exact main (l.length - 0) 0 rfl (by omega) (fun q h => by omega) (fun q h => by omega)
theorem hard_counts_ev (n : Int) : hard_counts.f n = some (decide (0 ≤ n ∧ n ≤ 2147483647)) := by
 unfold hard_counts.f
 by_cases h : n ≥ 0
 ·rw [if_pos h]
  simp [h]
 ·rw [if_neg h]
  congr 1
  symm
  rw [decide_eq_false_iff_not]
  omega
theorem hard_Check_ev (t v c : Int) : hard_Check.f t v c = some (if mayH t v c = true then 0 else 1) := by
 simp only [hard_Check.f, hard_counts_ev, Option.bind_some, decide_eq_true_eq, mayH_iff]
 repeat' split
 all_goals first | rfl | omega
abbrev CheckS (i t : Int) (l : List EntS) (h1 h2 c a : Int) : Prop := CheckP ixS tmS i t l h1 h2 c a
theorem raft_Check_ev (i t : Int) (l : List EntS) (h1 h2 c a : Int) (hl : l.length ≤ 140737488351232) (hg : ∀ e ∈ l, goodR e) (hi : -9223372036854775808 ≤ i ∧ i ≤ 9223372036854775807) : ∃ r : Int, Ev (fun k => raft_Check.f k i t l h1 h2 c a) r ∧ (r = 0 ↔ CheckS i t l h1 h2 c a) := by
 have no : ∀ P : Nat → Option Int, ¬ CheckS i t l h1 h2 c a → Ev P 1 → ∃ r : Int, Ev P r ∧ (r = 0 ↔ CheckS i t l h1 h2 c a) := fun P h hP => ⟨1, hP, by simp [h]⟩
 have j1t : Ev (fun k => raft_Check.j1 k true i t l h1 h2 c a) 1 := by
  rw [ev_succ]
  simp only [raft_Check.j1, ev_ite]
  rw [if_pos (by trivial), ev_some]
 have j0t : Ev (fun k => raft_Check.j0 k true i t l h1 h2 c a) 1 := by
  rw [ev_succ]
  simp only [raft_Check.j0, ev_ite]
  rw [if_pos (by trivial), ev_some]
 have hin : i ≤ 2147483647 → wrap64 (i + 1) = i + 1 := fun h => w64 (by omega) (by omega)
 have j1f : ((i = 0 ∧ t = 0) ∨ (1 ≤ i ∧ i ≤ 2147483647 ∧ 1 ≤ t ∧ t ≤ 2147483647)) → l.length ≤ 1000 → RowsS l → mayH h1 h2 c = true → (∀ h : 0 < l.length, ixS l[0] = i + 1 ∧ t ≤ tmS l[0]) → ∃ r : Int, Ev (fun k => raft_Check.j1 k false i t l h1 h2 c a) r ∧ (r = 0 ↔ CheckS i t l h1 h2 c a) := by
  intro q1 q2 q3 q4 q5
  by_cases b1 : a < i
  ·refine no _ (fun h => by have := h.2.2.2.2.2.1; omega) ?_
   rw [ev_succ]
   simp only [raft_Check.j1, ev_ite]
   rw [if_neg (by simp), if_pos b1, ev_some]
  by_cases b2 : a > c
  ·refine no _ (fun h => by have := h.2.2.2.2.2.2.1; omega) ?_
   rw [ev_succ]
   simp only [raft_Check.j1, ev_ite]
   rw [if_neg (by simp), if_neg b1, if_pos b2, ev_some]
  by_cases b3 : c > i + (l.length : Int)
  ·refine no _ (fun h => by have := h.2.2.2.2.2.2.2; omega) ?_
   rw [ev_succ]
   simp only [raft_Check.j1, ev_ite]
   rw [if_neg (by simp), if_neg b1, if_neg b2, w64 (by omega) (by omega), if_pos b3, ev_some]
  ·refine ⟨0, ?_, ?_⟩
   ·rw [ev_succ]
    simp only [raft_Check.j1, ev_ite]
    rw [if_neg (by simp), if_neg b1, if_neg b2, w64 (by omega) (by omega), if_neg b3, ev_some]
   ·have : CheckS i t l h1 h2 c a := ⟨q1, q2, q3, q4, q5, by omega, by omega, by omega⟩
    simp [this]
 have j0f : ((i = 0 ∧ t = 0) ∨ (1 ≤ i ∧ i ≤ 2147483647 ∧ 1 ≤ t ∧ t ≤ 2147483647)) → l.length ≤ 1000 → RowsS l → mayH h1 h2 c = true → ∃ r : Int, Ev (fun k => raft_Check.j0 k false i t l h1 h2 c a) r ∧ (r = 0 ↔ CheckS i t l h1 h2 c a) := by
  intro q1 q2 q3 q4
  have hii : wrap64 (i + 1) = i + 1 := hin (by omega)
  by_cases hl0 : 0 < l.length
  ·have e0 : rd_T54 l 0 = l[0] := rdE_get hl0
   by_cases b1 : l[0].f0 = i + 1
   ·by_cases b2 : l[0].f1 < t
    ·refine no _ (fun h => by have := (h.2.2.2.2.1 hl0).2; simp only [tmS] at this; omega) ?_
     rw [ev_succ]
     simp only [raft_Check.j0, ev_ite, e0, hii]
     rw [if_neg (by simp), if_pos (by omega), if_pos (by omega), if_pos b1, decide_eq_true b2]
     exact j1t
    ·obtain ⟨r, hr, hr2⟩ := j1f q1 q2 q3 q4 (fun _ => ⟨b1, by simp only [tmS]; omega⟩)
     refine ⟨r, ?_, hr2⟩
     rw [ev_succ]
     simp only [raft_Check.j0, ev_ite, e0, hii]
     rw [if_neg (by simp), if_pos (by omega), if_pos (by omega), if_pos b1, decide_eq_false b2]
     exact hr
   ·refine no _ (fun h => b1 (h.2.2.2.2.1 hl0).1) ?_
    rw [ev_succ]
    simp only [raft_Check.j0, ev_ite, e0, hii]
    rw [if_neg (by simp), if_pos (by omega), if_pos (by omega), if_neg b1]
    exact j1t
  ·obtain ⟨r, hr, hr2⟩ := j1f q1 q2 q3 q4 (fun h => absurd h hl0)
   refine ⟨r, ?_, hr2⟩
   rw [ev_succ]
   simp only [raft_Check.j0, ev_ite]
   rw [if_neg (by simp), if_neg (by omega)]
   exact hr
 obtain ⟨b, hb, hb2⟩ := raft_rows_ev l hl hg
 have mid : ∀ (P : Nat → Option Int), ((i = 0 ∧ t = 0) ∨ (1 ≤ i ∧ i ≤ 2147483647 ∧ 1 ≤ t ∧ t ≤ 2147483647)) → (∀ r, Ev P r ↔ (if (l.length : Int) > 1000 then Ev (fun k => raft_Check.j0 k true i t l h1 h2 c a) r else Ev (fun k => (raft_rows.f k l).bind fun t116 => (if t116 = true then ((hard_Check.f h1 h2 c).bind fun t117 => (raft_Check.j0 k (t117 != 0) i t l h1 h2 c a)) else (raft_Check.j0 k true i t l h1 h2 c a))) r)) → ∃ r : Int, Ev P r ∧ (r = 0 ↔ CheckS i t l h1 h2 c a) := by
  intro P q1 hP
  by_cases b1 : l.length > 1000
  ·refine no _ (fun h => by have := h.2.1; omega) ?_
   rw [hP, if_pos (by omega)]
   exact j0t
  by_cases b2 : RowsS l
  ·have hbt : b = true := hb2.2 b2
   by_cases b3 : mayH h1 h2 c = true
   ·obtain ⟨r, hr, hr2⟩ := j0f q1 (by omega) b2 b3
    refine ⟨r, ?_, hr2⟩
    rw [hP, if_neg (by omega), ev_bind hb, ev_ite, if_pos hbt, ev_bind_c (hard_Check_ev _ _ _), if_pos b3]
    exact hr
   ·refine no _ (fun h => b3 h.2.2.2.1) ?_
    rw [hP, if_neg (by omega), ev_bind hb, ev_ite, if_pos hbt, ev_bind_c (hard_Check_ev _ _ _), if_neg b3]
    exact j0t
  ·refine no _ (fun h => b2 h.2.2.1) ?_
   rw [hP, if_neg (by omega), ev_bind hb, ev_ite, if_neg (fun h => b2 (hb2.1 h))]
   exact j0t
 have cnt : ¬ (i = 0 ∧ t = 0) → ∃ r : Int, Ev (fun k => (raft_counts.f i).bind fun t118 => (if t118 = true then ((raft_counts.f t).bind fun t119 => (if t119 = true then (if (l.length : Int) > 1000 then (raft_Check.j0 k true i t l h1 h2 c a) else ((raft_rows.f k l).bind fun t120 => (if t120 = true then ((hard_Check.f h1 h2 c).bind fun t121 => (raft_Check.j0 k (t121 != 0) i t l h1 h2 c a)) else (raft_Check.j0 k true i t l h1 h2 c a)))) else (raft_Check.j0 k true i t l h1 h2 c a))) else (raft_Check.j0 k true i t l h1 h2 c a))) r ∧ (r = 0 ↔ CheckS i t l h1 h2 c a) := by
  intro h0
  by_cases b1 : 1 ≤ i ∧ i ≤ 2147483647
  ·by_cases b2 : 1 ≤ t ∧ t ≤ 2147483647
   ·refine mid _ (.inr ⟨b1.1, b1.2, b2.1, b2.2⟩) (fun r => ?_)
    rw [ev_bind_c (raft_counts_ev _), ev_ite, if_pos (by simpa using b1), ev_bind_c (raft_counts_ev _), ev_ite, if_pos (by simpa using b2), ev_ite]
   ·refine no _ (fun h => by have := h.1; omega) ?_
    rw [ev_bind_c (raft_counts_ev _), ev_ite, if_pos (by simpa using b1), ev_bind_c (raft_counts_ev _), ev_ite, if_neg (by simpa using b2)]
    exact j0t
  ·refine no _ (fun h => by have := h.1; omega) ?_
   rw [ev_bind_c (raft_counts_ev _), ev_ite, if_neg (by simpa using b1)]
   exact j0t
 by_cases c1 : i = 0
 ·by_cases c2 : t = 0
  ·exact mid (fun k => raft_Check.f k i t l h1 h2 c a) (.inl ⟨c1, c2⟩) (fun r => by
    simp only [raft_Check.f, ev_ite]
    rw [if_pos c1, if_pos c2])
  ·obtain ⟨r, hr, hr2⟩ := cnt (fun h => c2 h.2)
   refine ⟨r, ?_, hr2⟩
   simp only [raft_Check.f, ev_ite]
   rw [if_pos c1, if_neg c2]
   exact hr
 ·obtain ⟨r, hr, hr2⟩ := cnt (fun h => c1 h.1)
  refine ⟨r, ?_, hr2⟩
  simp only [raft_Check.f, ev_ite]
  rw [if_neg c1]
  exact hr
theorem entry_counts_ev (n : Int) : entry_counts.f n = some (decide (1 ≤ n ∧ n ≤ 2147483647)) := by
 unfold entry_counts.f
 split
 ·congr 1
  rw [decide_eq_decide]
  omega
 ·congr 1
  symm
  rw [decide_eq_false_iff_not]
  omega
theorem bytes_Equal_ev {a b : List Int} (ha : Bytes a) (hb : Bytes b) : bytes_Equal.f a b = some (decide (a = b)) := by
 unfold bytes_Equal.f
 congr 1
 rw [Bool.eq_iff_iff, beq_iff_eq, decide_eq_true_eq, toList_eq_iff, bytes_str ha, bytes_str hb]
theorem zero_is (s a n u : Int) : (s == 0 && (a == 0 && (n == 0 && (u == 0)))) = zeroP s a n u := by
 unfold zeroP
 rw [Bool.eq_iff_iff]
 simp only [Bool.and_eq_true, beq_iff_eq, decide_eq_true_eq]
theorem cell_Same_plain {far : Bool} {b : List Int} (hb : Bytes b) (s a n u : Int) : cell_Same.f far b s a n u false ([] : List Int) 0 0 0 0 = some (plainC far b s a n u) := by
 unfold cell_Same.f plainC
 rw [zero_is, bytes_Equal_ev hb Bytes.nil]
 cases far with
 | true =>
  rw [if_neg (by simp)]
  rfl
 | false =>
  rw [if_pos (by simp)]
  by_cases h : zeroP s a n u = true
  ·rw [if_pos h, h]
   simp
  ·rw [if_neg h, Bool.not_eq_true] at *
   rw [h]
   simp
theorem point_Check_ev (s a l u : Int) : point_Check.f s a l u = some (if mayP s a l = true then 0 else 1) := by
 simp only [point_Check.f, mayP_iff]
 repeat' split
 all_goals first | rfl | omega
theorem zero_not (s a n u : Int) : (!(s == 0) || (!(a == 0) || (!(n == 0) || (!(u == 0))))) = !zeroP s a n u := by
 unfold zeroP
 rw [Bool.eq_iff_iff]
 simp only [Bool.or_eq_true, Bool.not_eq_true', beq_eq_false_iff_ne, decide_eq_false_iff_not]
 omega
theorem cell_Check_ev (far : Bool) (b : List Int) (s a n u : Int) : cell_Check.f far b s a n u = some (if mayC far b s a n u = true then 0 else 1) := by
 unfold cell_Check.f mayC
 cases far with
 | true =>
  rw [if_pos rfl, if_pos rfl]
  by_cases h : b.length = 0
  ·rw [if_neg (by omega), point_Check_ev, decide_eq_true h, Bool.true_and]
   rfl
  ·rw [if_pos (by omega), decide_eq_false h]
   rfl
 | false =>
  simp only [Bool.false_eq_true, if_false]
  rw [zero_not]
  by_cases h : b.length ≤ 32
  ·rw [if_neg (by omega), decide_eq_true h, Bool.true_and]
   cases zeroP s a n u <;> rfl
  ·rw [if_pos (by omega), decide_eq_false h]
   rfl
theorem toList_nil (s : ByteArray) : s.toList = [] ↔ s.size = 0 := by
 have h := toList_lit s [] Bytes.nil
 have e : u8s [] = [] := rfl
 rw [e] at h
 rw [h, ← List.length_eq_zero_iff, bytesOf_length]
theorem key_bool (s : ByteArray) (n : Int) : ((s.toList == ([] : List UInt8)) != (n == 0)) = !decide (s.size = 0 ↔ n = 0) := by
 have h := toList_nil s
 by_cases h1 : s.size = 0
 ·rw [h.2 h1]
  by_cases h2 : n = 0
  ·simp [h1, h2]
  ·simp [h1, h2]
 ·have h3 : ¬ s.toList = [] := fun e => h1 (h.1 e)
  have e1 : (s.toList == ([] : List UInt8)) = false := beq_eq_false_iff_ne.2 h3
  rw [e1]
  by_cases h2 : n = 0
  ·simp [h1, h2]
  ·simp [h1, h2]
theorem entry_Check_ev {e : Ent} (hb : Bytes e.b) : Ev (fun k => entry_Check.f k e.i e.t e.k e.key e.far e.b e.s e.a e.n e.u) (if mayN e = true then 0 else 1) := by
 have hno : headN e = false → mayN e = false := fun h => by
  unfold mayN
  rw [h, Bool.false_and]
 have hnot : ¬ (1 ≤ e.i ∧ e.i ≤ 2147483647 ∧ 1 ≤ e.t ∧ e.t ≤ 2147483647 ∧ 0 ≤ e.k ∧ e.k ≤ 2 ∧ e.key.size ≤ 64 ∧ (e.key.size = 0 ↔ e.k = 0)) → mayN e = false := fun h => hno (by
  unfold headN
  exact decide_eq_false h)
 have bad1 : mayN e = false → Ev (fun k => entry_Check.j1 k true e.i e.t e.k e.key e.far e.b e.s e.a e.n e.u) (if mayN e = true then (0 : Int) else 1) := by
  intro h
  rw [h, ev_succ]
  simp only [entry_Check.j1, ev_ite]
  rw [if_pos (by trivial), ev_some]
  rfl
 have bad0 : mayN e = false → Ev (fun k => entry_Check.j0 k true e.i e.t e.k e.key e.far e.b e.s e.a e.n e.u) (if mayN e = true then (0 : Int) else 1) := by
  intro h
  rw [h, ev_succ]
  simp only [entry_Check.j0, ev_ite]
  rw [if_pos (by trivial), ev_some]
  rfl
 simp only [entry_Check.f]
 rw [ev_bind_c (entry_counts_ev _), ev_ite]
 by_cases h1 : 1 ≤ e.i ∧ e.i ≤ 2147483647
 ·rw [if_pos (by simpa using h1), ev_bind_c (entry_counts_ev _), ev_ite]
  by_cases h2 : 1 ≤ e.t ∧ e.t ≤ 2147483647
  ·rw [if_pos (by simpa using h2), ev_ite]
   by_cases h3 : e.k < 0
   ·rw [if_pos h3]
    exact bad0 (hnot (by omega))
   ·rw [if_neg h3]
    by_cases h4 : e.k > 2
    ·rw [decide_eq_true h4]
     exact bad0 (hnot (by omega))
    ·rw [decide_eq_false h4, ev_succ]
     simp only [entry_Check.j0, ev_ite]
     rw [if_neg (by simp)]
     by_cases h5 : e.key.size > 64
     ·rw [if_pos (by omega)]
      exact bad1 (hnot (by omega))
     ·rw [if_neg (by omega), key_bool]
      by_cases h6 : e.key.size = 0 ↔ e.k = 0
      ·have hh : headN e = true := headN_iff.2 ⟨h1.1, h1.2, h2.1, h2.2, by omega, by omega, by omega, h6⟩
       rw [decide_eq_true h6, ev_succ]
       simp only [entry_Check.j1, ev_ite]
       rw [if_neg (by simp)]
       unfold mayN
       rw [hh, Bool.true_and]
       by_cases h7 : e.k = 2
       ·rw [if_pos h7, decide_eq_false (by omega), Bool.false_or, ev_bind_c (cell_Same_plain hb _ _ _ _), ev_ite]
        by_cases h8 : plainC e.far e.b e.s e.a e.n e.u = true
        ·rw [if_pos h8, h8, Bool.true_and, ev_bind_c (cell_Check_ev _ _ _ _ _ _), ev_some]
        ·rw [if_neg h8, ev_some]
         rw [Bool.not_eq_true] at h8
         rw [h8]
         rfl
       ·rw [if_neg h7, decide_eq_true h7, Bool.true_or, Bool.true_and, ev_bind_c (cell_Check_ev _ _ _ _ _ _), ev_some]
      ·rw [decide_eq_false h6]
       exact bad1 (hnot (by omega))
  ·rw [if_neg (by simpa using h2)]
   exact bad0 (hnot (by omega))
 ·rw [if_neg (by simpa using h1)]
  exact bad0 (hnot (by omega))
theorem batch_none (e : Ent) (l : List Ent) : batchFrom none (e :: l) = (mayN e && batchFrom (some (e.i, e.t)) l) := rfl
theorem batch_some (i t : Int) (e : Ent) (l : List Ent) : batchFrom (some (i, t)) (e :: l) = (mayN e && (decide (e.i = i + 1 ∧ t ≤ e.t) && batchFrom (some (e.i, e.t)) l)) := rfl
theorem entry_Batch_ev (l : List S54) (hl : l.length ≤ 140737488351232) (hg : ∀ e ∈ l, goodN e) : Ev (fun k => entry_Batch.f k l) (if batchB (prsN l) = true then 0 else 1) := by
 have main : ∀ (d j : Nat) (p : Option (Int × Int)), l.length - j = d → j ≤ l.length → (j = 0 → p = none) → (∀ i : Nat, j = i + 1 → p = some ((rd_T54 l (i : Int)).f0, (rd_T54 l (i : Int)).f1) ∧ 1 ≤ (rd_T54 l (i : Int)).f0 ∧ (rd_T54 l (i : Int)).f0 ≤ 2147483647) →
  Ev (fun k => entry_Batch.l0 k l l (l.length : Int) (j : Int)) (if batchFrom p (prsN (l.drop j)) = true then (0 : Int) else 1) := by
  intro d
  induction d with
  | zero =>
   intro j p hd hj _ _
   rw [ev_succ]
   simp only [entry_Batch.l0, ev_ite]
   rw [if_neg (by omega), ev_some, List.drop_eq_nil_of_le (by omega)]
   cases p <;> rfl
  | succ d ih =>
   intro j p hd hj h0 hs
   have hjl : j < l.length := by omega
   have hgj := hg _ (rdN_mem hjl)
   have ih' := fun (hr : 1 ≤ (rd_T54 l (j : Int)).f0 ∧ (rd_T54 l (j : Int)).f0 ≤ 2147483647) => ih (j + 1) (some ((rd_T54 l (j : Int)).f0, (rd_T54 l (j : Int)).f1)) (by omega) (by omega) (by omega) (fun i hi => by rw [show i = j by omega]; exact ⟨rfl, hr⟩)
   have hw : wrap64 ((j : Int) + 1) = ((j + 1 : Nat) : Int) := w64 (by omega) (by omega)
   rw [dropN_eq hjl]
   rw [ev_succ]
   simp only [entry_Batch.l0, ev_ite, hw]
   generalize hE : rd_T54 l (j : Int) = e at hgj ih' ⊢
   have hc : Ev (fun k => entry_Check.f k e.f0 e.f1 e.f2 e.f3 e.f4.f0 e.f4.f1 e.f4.f2.f0 e.f4.f2.f1 e.f4.f2.f2 e.f4.f2.f3) (if mayN (prN e) = true then 0 else 1) := entry_Check_ev (e := prN e) hgj.2.2.2.2.1
   have el : prsN (e :: l.drop (j + 1)) = prN e :: prsN (l.drop (j + 1)) := rfl
   have e0 : (prN e).i = e.f0 := rfl
   have e1 : (prN e).t = e.f1 := rfl
   rw [el, if_pos (by omega), if_pos (by omega), if_pos (by omega), ev_bind hc, ev_ite]
   by_cases hm : mayN (prN e) = true
   ·have hm' := (mayN_iff.1 hm).1
    rw [e0, e1] at hm'
    have ih'' := ih' ⟨hm'.1, hm'.2.1⟩
    rw [if_pos hm, if_pos (by trivial), ev_ite]
    by_cases hj0 : j = 0
    ·rw [if_neg (by omega), h0 hj0, batch_none, hm, Bool.true_and, e0, e1]
     exact ih''
    ·obtain ⟨hp, hr1, hr2⟩ := hs (j - 1) (by omega)
     have e2 : wrap64 ((j : Int) - 1) = ((j - 1 : Nat) : Int) := by
      rw [w64 (by omega) (by omega)]
      omega
     rw [if_pos (by omega), e2, ev_ite, if_pos (by omega), ev_ite, if_pos (by omega), ev_ite, hp, batch_some, hm, Bool.true_and, e0, e1, w64 (by omega) (by omega)]
     by_cases h1 : e.f0 = (rd_T54 l ((j - 1 : Nat) : Int)).f0 + 1
     ·rw [if_pos h1, ev_ite]
      by_cases h2 : e.f1 < (rd_T54 l ((j - 1 : Nat) : Int)).f1
      ·rw [if_pos h2, ev_some, decide_eq_false (by omega), Bool.false_and]
       rfl
      ·rw [if_neg h2, decide_eq_true (by omega), Bool.true_and]
       exact ih''
     ·rw [if_neg h1, ev_some, decide_eq_false (by omega), Bool.false_and]
      rfl
   ·rw [if_neg hm, if_neg (by omega), ev_some]
    rw [Bool.not_eq_true] at hm
    have hf : batchFrom p (prN e :: prsN (l.drop (j + 1))) = false := by
     cases p with
     | none => rw [batch_none, hm, Bool.false_and]
     | some q =>
      obtain ⟨i, t⟩ := q
      rw [batch_some, hm, Bool.false_and]
    rw [hf]
    rfl
 have bad : ¬ (1 ≤ l.length ∧ l.length ≤ 16) → Ev (fun k => entry_Batch.j0 k l true) (if batchB (prsN l) = true then (0 : Int) else 1) := by
  intro h
  have e : batchB (prsN l) = false := by
   unfold batchB
   rw [prsN_len, decide_eq_false h, Bool.false_and]
  rw [e, ev_succ]
  simp only [entry_Batch.j0, ev_ite]
  rw [if_pos (by trivial), ev_some]
  rfl
 simp only [entry_Batch.f, ev_ite]
 by_cases h1 : l.length < 1
 ·rw [if_pos (by omega)]
  exact bad (by omega)
 ·rw [if_neg (by omega)]
  by_cases h2 : l.length > 16
  ·rw [decide_eq_true (by omega)]
   exact bad (by omega)
  ·have e : batchB (prsN l) = batchFrom none (prsN l) := by
    unfold batchB
    rw [prsN_len, decide_eq_true (by omega), Bool.true_and]
   rw [decide_eq_false (by omega), ev_succ, e]
   simp only [entry_Batch.j0, ev_ite]
   rw [if_neg (by simp)]
   exact main (l.length - 0) 0 none rfl (by omega) (fun _ => rfl) (fun i hi => by omega)
theorem raft_Last_ev (i t : Int) (l : List EntS) (h1 h2 c a : Int) (hl : l.length ≤ 140737488351232) (hg : ∀ e ∈ l, goodR e) (hi : -9223372036854775808 ≤ i ∧ i ≤ 9223372036854775807) : ∃ r : Int × Int, Ev (fun k => raft_Last.f k i t l h1 h2 c a) r ∧ (CheckS i t l h1 h2 c a → r.1 = i + (l.length : Int)) := by
 obtain ⟨q, hq, hq2⟩ := raft_Check_ev i t l h1 h2 c a hl hg hi
 simp only [raft_Last.f]
 by_cases hc : CheckS i t l h1 h2 c a
 ·have hq0 := hq2.2 hc
  by_cases hl0 : 0 < l.length
  ·have e : wrap64 ((l.length : Int) - 1) = ((l.length - 1 : Nat) : Int) := by
    rw [w64 (by omega) (by omega)]
    omega
   refine ⟨(l[l.length - 1].f0, l[l.length - 1].f1), ?_, fun _ => ?_⟩
   ·rw [ev_bind hq, ev_ite, if_pos hq0, ev_ite, if_pos (by omega), ev_ite, e, if_pos (by omega), ev_ite, if_pos (by omega), ev_some, rdE_get (by omega)]
   ·have := check_ix hc (l.length - 1) (by omega)
    simp only [ixS] at this
    simp only
    omega
  ·refine ⟨(i, t), ?_, fun _ => by simp only; omega⟩
   rw [ev_bind hq, ev_ite, if_pos hq0, ev_ite, if_neg (by omega), ev_some]
 ·refine ⟨(0, 0), ?_, fun h => absurd h hc⟩
  rw [ev_bind hq, ev_ite, if_neg (fun h => hc (hq2.1 h)), ev_some]
theorem raft_Term_ev {i t : Int} {l : List EntS} {h1 h2 c a : Int} (hc : CheckS i t l h1 h2 c a) (hg : ∀ e ∈ l, goodR e) {p : Int} {o : Nat} (hp : p = i + o) (ho : o ≤ l.length) : Ev (fun k => raft_Term.f k i t l h1 h2 c a p) (termR tmS t l o, 0) := by
 have hl : l.length ≤ 1000 := hc.2.1
 have hir : 0 ≤ i ∧ i ≤ 2147483647 := by have := hc.1; omega
 obtain ⟨q, hq, hq2⟩ := raft_Check_ev i t l h1 h2 c a (by omega) hg (by omega)
 obtain ⟨r, hr, hr2⟩ := raft_Last_ev i t l h1 h2 c a (by omega) hg (by omega)
 have hr3 := hr2 hc
 simp only [raft_Term.f]
 rw [ev_bind hr, ev_bind hq, ev_ite, if_pos (hq2.2 hc), ev_ite, if_neg (by omega), ev_ite, if_neg (by omega), ev_ite]
 by_cases h0 : o = 0
 ·subst h0
  rw [if_pos (by omega), ev_some, termR_zero]
 ·have e : wrap64 (wrap64 (p - i) - 1) = ((o - 1 : Nat) : Int) := by
   rw [w64 (x := p - i) (by omega) (by omega), w64 (by omega) (by omega)]
   omega
  rw [if_neg (by omega), ev_ite, e, if_pos (by omega), ev_ite, if_pos (by omega), ev_some, termR_pos t l (by omega) ho, rdE_get (by omega)]
theorem slices_Clone_byte_byte_ev {b : List Int} (h : b.length < 140737488355328) : slices_Clone_byte_byte.f b = some b := by
 unfold slices_Clone_byte_byte.f
 rw [if_pos h]
theorem raft_own_ev (a b c : Int) (s : ByteArray) (f : Bool) {l : List Int} (x y z u : Int) (h : l.length ≤ 140737488351232) : raft_own.f a b c s f l x y z u = some (a, b, c, s, f, l, x, y, z, u) := by
 unfold raft_own.f
 rw [slices_Clone_byte_byte_ev (by omega)]
 rfl
theorem raft_owns_ev (l : List EntS) (hl : l.length ≤ 1000000000000) (hg : ∀ e ∈ l, goodR e) : Ev (fun k => raft_owns.f k l) l := by
 have main : ∀ (d j : Nat) (acc : List EntS), l.length - j = d → j ≤ l.length → acc.length = j → Ev (fun k => raft_owns.l0 k acc l (l.length : Int) (j : Int)) (acc ++ l.drop j) := by
  intro d
  induction d with
  | zero =>
   intro j acc hd hj ha
   rw [ev_succ]
   simp only [raft_owns.l0, ev_ite]
   rw [if_neg (by omega), ev_some, List.drop_eq_nil_of_le (by omega), List.append_nil]
  | succ d ih =>
   intro j acc hd hj ha
   have hjl : j < l.length := by omega
   have hgj := hg _ (rdE_mem hjl)
   have hw : wrap64 ((j : Int) + 1) = ((j + 1 : Nat) : Int) := w64 (by omega) (by omega)
   rw [rdE_drop hjl]
   rw [ev_succ]
   simp only [raft_owns.l0, ev_ite, hw]
   generalize rd_T54 l (j : Int) = e at hgj ⊢
   rw [if_pos (by omega), if_pos (by omega), if_pos (by omega), ev_bind_c (raft_own_ev _ _ _ _ _ _ _ _ _ hgj.2), ev_ite, if_pos (by omega)]
   refine ev_eq (ih (j + 1) (acc ++ [e]) (by omega) (by omega) (by rw [List.length_append, List.length_singleton]; omega)) ?_
   rw [List.append_assoc, List.singleton_append]
 exact main (l.length - 0) 0 [] rfl (by omega) rfl
abbrev OkS (i t : Int) (l : List EntS) (h1 h2 c a : Int) (m : List EntS) (o : Nat) : Prop := OkP ixS tmS i t l h1 h2 c a m o
abbrev OutS := Int × Int × List EntS × Int × Int × Int × Int × Int
theorem comm_right (x : List EntS) : comm tmS x [] = 0 := by cases x <;> simp [comm]
theorem raft_Put_l0_ev {i t : Int} {l : List EntS} {h1 h2 c a : Int} {m : List EntS} {o : Nat} (hi : 0 ≤ i ∧ i ≤ 2147483647) (hl : l.length ≤ 1000) (hml : m.length ≤ 1000000) (hix : ∀ (j : Nat) (h : j < m.length), ixS m[j] = i + 1 + o + j) (ho : o ≤ l.length) : ∀ (d j : Nat), m.length - j = d → j ≤ m.length → ∀ R : OutS,
 Ev (fun k => raft_Put.j2 k m ((j + comm tmS (l.drop (o + j)) (m.drop j) : Nat) : Int) i t l h1 h2 c a) R → Ev (fun k => raft_Put.l0 k m (i + (l.length : Int)) (j : Int) i t l h1 h2 c a) R := by
 intro d
 induction d with
 | zero =>
  intro j hd hj R hR
  have e : m.drop j = [] := List.drop_eq_nil_of_le (by omega)
  rw [e, comm_right, Nat.add_zero] at hR
  rw [ev_succ]
  simp only [raft_Put.l0, ev_ite]
  rw [if_neg (by omega)]
  exact hR
 | succ d ih =>
  intro j hd hj R hR
  have hjl : j < m.length := by omega
  have hx := hix j hjl
  have hw : wrap64 ((j : Int) + 1) = ((j + 1 : Nat) : Int) := w64 (by omega) (by omega)
  have he : m.drop j = m[j] :: m.drop (j + 1) := List.drop_eq_getElem_cons hjl
  simp only [ixS] at hx
  rw [ev_succ]
  simp only [raft_Put.l0, ev_ite, rdE_get hjl, hw]
  rw [if_pos (by omega), if_pos (by omega)]
  by_cases hb : o + j < l.length
  ·have e : wrap64 (wrap64 (m[j].f0 - i) - 1) = ((o + j : Nat) : Int) := by
    rw [w64 (x := m[j].f0 - i) (by omega) (by omega), w64 (by omega) (by omega)]
    omega
   have hel : l.drop (o + j) = l[o + j] :: l.drop (o + j + 1) := List.drop_eq_getElem_cons hb
   rw [if_pos (by omega)]
   simp only [e, rdE_get hb]
   rw [if_pos (by omega), if_pos (by omega)]
   rw [hel, he, comm] at hR
   by_cases ht : l[o + j].f1 = m[j].f1
   ·rw [if_pos ht] at hR
    rw [if_pos ht]
    refine ih (j + 1) (by omega) (by omega) R ?_
    have e2 : j + (comm tmS (l.drop (o + j + 1)) (m.drop (j + 1)) + 1) = j + 1 + comm tmS (l.drop (o + (j + 1))) (m.drop (j + 1)) := by
     rw [← Nat.add_assoc o j 1]
     omega
    rw [e2] at hR
    exact hR
   ·rw [if_neg ht, Nat.add_zero] at hR
    rw [if_neg ht]
    exact hR
  ·have hel : l.drop (o + j) = [] := List.drop_eq_nil_of_le (by omega)
   rw [hel, comm_nil, Nat.add_zero] at hR
   rw [if_neg (by omega)]
   exact hR
theorem raft_Put_ev (i t : Int) (l : List EntS) (h1 h2 c a : Int) (m : List EntS) (hl : l.length ≤ 140737488351232) (hg : ∀ e ∈ l, goodR e) (hml : m.length ≤ 1000000) (hgm : ∀ e ∈ m, goodR e) (hi : -9223372036854775808 ≤ i ∧ i ≤ 9223372036854775807) :
 ∃ out : OutS, Ev (fun k => raft_Put.f k i t l h1 h2 c a m) out ∧ (∀ o, OkS i t l h1 h2 c a m o → out = (i, t, putL tmS l m o, h1, h2, c, a, 0)) ∧ (out.2.2.2.2.2.2.2 = 0 → ∃ o, OkS i t l h1 h2 c a m o) := by
 obtain ⟨q, hq, hq2⟩ := raft_Check_ev i t l h1 h2 c a hl hg hi
 obtain ⟨r, hr, hr2⟩ := raft_Last_ev i t l h1 h2 c a hl hg hi
 obtain ⟨b, hb, hb2⟩ := raft_rows_ev m (by omega) hgm
 have no : ∀ (P : Nat → Option OutS) (e : Int), e ≠ 0 → (∀ o, ¬ OkS i t l h1 h2 c a m o) → Ev P (0, 0, [], 0, 0, 0, 0, e) → ∃ out : OutS, Ev P out ∧ (∀ o, OkS i t l h1 h2 c a m o → out = (i, t, putL tmS l m o, h1, h2, c, a, 0)) ∧ (out.2.2.2.2.2.2.2 = 0 → ∃ o, OkS i t l h1 h2 c a m o) :=
  fun P e he hn hP => ⟨_, hP, fun o ho => absurd ho (hn o), fun h => absurd h he⟩
 have j0t : ∀ x : Int, Ev (fun k => raft_Put.j0 k m x true i t l h1 h2 c a) (0, 0, [], 0, 0, 0, 0, 1) := by
  intro x
  rw [ev_succ]
  simp only [raft_Put.j0, ev_ite]
  rw [if_pos (by trivial), ev_some]
 simp only [raft_Put.f]
 by_cases hc : CheckS i t l h1 h2 c a
 ·have hq0 := hq2.2 hc
  have hr0 := hr2 hc
  have hi' : 0 ≤ i ∧ i ≤ 2147483647 := by have := hc.1; omega
  have hl' : l.length ≤ 1000 := hc.2.1
  by_cases hm0 : m.length = 0
  ·refine no _ 1 (by omega) (fun o ho => by obtain ⟨h, _⟩ := ho.2.2.1; omega) ?_
   rw [ev_bind hr, ev_bind hq, ev_ite, if_pos hq0, ev_ite, if_pos (by omega)]
   exact j0t _
  by_cases hrow : RowsS m
  ·have hbt := hb2.2 hrow
   have hm1 : 0 < m.length := by omega
   have e0 : rd_T54 m 0 = m[0] := rdE_get hm1
   have hr1 := hrow.1 0 hm1
   simp only [ixS, tmS] at hr1
   have hmi := rows_ix hrow
   subst hbt
   by_cases c1 : m[0].f0 ≤ i
   ·refine no _ 4 (by omega) (fun o ho => by obtain ⟨h, h', _⟩ := ho.2.2.1; simp only [ixS] at h'; omega) ?_
    rw [ev_bind hr, ev_bind hq, ev_ite, if_pos hq0, ev_ite, if_neg (by omega), ev_bind hb, ev_succ]
    simp only [raft_Put.j0, ev_ite, e0]
    rw [if_neg (by simp), if_pos (by omega), if_pos c1, ev_some]
   have hw1 : wrap64 (r.1 + 1) = i + (l.length : Int) + 1 := by rw [hr0, w64 (by omega) (by omega)]
   by_cases c2 : m[0].f0 > i + (l.length : Int) + 1
   ·refine no _ 5 (by omega) (fun o ho => by obtain ⟨h, h', _⟩ := ho.2.2.1; have := ho.2.2.2.1; simp only [ixS] at h'; omega) ?_
    rw [ev_bind hr, ev_bind hq, ev_ite, if_pos hq0, ev_ite, if_neg (by omega), ev_bind hb, ev_succ]
    simp only [raft_Put.j0, ev_ite, e0, hw1]
    rw [if_neg (by simp), if_pos (by omega), if_neg c1, if_pos c2, ev_some]
   obtain ⟨o, hoe⟩ : ∃ o : Nat, m[0].f0 = i + 1 + o := ⟨(m[0].f0 - i - 1).toNat, by omega⟩
   have hol : o ≤ l.length := by omega
   have huniq : ∀ o', OkS i t l h1 h2 c a m o' → o' = o := fun o' ho => by obtain ⟨h, h', _⟩ := ho.2.2.1; simp only [ixS] at h'; omega
   have hterm := raft_Term_ev hc hg (p := wrap64 (m[0].f0 - 1)) (o := o) (by rw [w64 (by omega) (by omega)]; omega) hol
   have hown := raft_owns_ev l (by omega) hg
   by_cases c3 : m[0].f1 < termR tmS t l o
   ·refine no _ 1 (by omega) (fun o' ho => by obtain ⟨h, _, h'⟩ := ho.2.2.1; rw [huniq o' ho] at h'; simp only [tmS] at h'; omega) ?_
    rw [ev_bind hr, ev_bind hq, ev_ite, if_pos hq0, ev_ite, if_neg (by omega), ev_bind hb, ev_succ]
    simp only [raft_Put.j0, ev_ite, e0, hw1]
    rw [if_neg (by simp), if_pos (by omega), if_neg c1, if_neg c2, ev_bind hterm, ev_ite, if_pos c3, ev_some]
   have hix : ∀ (j : Nat) (h : j < m.length), ixS m[j] = i + 1 + o + j := fun j h => by
    rw [hmi j h]
    simp only [ixS]
    omega
   have go : ∀ R : OutS, Ev (fun k => raft_Put.j2 k m ((comm tmS (l.drop o) m : Nat) : Int) i t l h1 h2 c a) R → Ev (fun k => (raft_Last.f k i t l h1 h2 c a).bind fun bt161 => ((raft_Check.f k i t l h1 h2 c a).bind fun t163 => (if t163 = 0 then (if (m.length : Int) = 0 then (raft_Put.j0 k m bt161.1 true i t l h1 h2 c a) else ((raft_rows.f k m).bind fun t164 => (raft_Put.j0 k m bt161.1 (!t164) i t l h1 h2 c a))) else (raft_Put.j0 k m bt161.1 true i t l h1 h2 c a)))) R := by
    intro R hR
    rw [ev_bind hr, ev_bind hq, ev_ite, if_pos hq0, ev_ite, if_neg (by omega), ev_bind hb, ev_succ]
    simp only [raft_Put.j0, ev_ite, e0, hw1]
    rw [if_neg (by simp), if_pos (by omega), if_neg c1, if_neg c2, ev_bind hterm, ev_ite, if_neg c3, ev_bind hown, hr0]
    have := raft_Put_l0_ev (h1 := h1) (h2 := h2) (c := c) (a := a) (t := t) hi' hl' hml hix hol (m.length - 0) 0 rfl (by omega) R
    simp only [Nat.zero_add, Nat.add_zero, List.drop_zero] at this
    exact this hR
   have hs := comm_le (tm := tmS) (l.drop o) m
   rw [List.length_drop] at hs
   clear hq2 hr2 hb2 hr hq hb hterm hown
   have okp : ∀ p : (comm tmS (l.drop o) m = m.length ∨ (c < i + 1 + o + comm tmS (l.drop o) m ∧ o + m.length ≤ 1000)), OkS i t l h1 h2 c a m o := fun p => ⟨hc, hrow, ⟨hm1, hix 0 hm1 |>.trans (by omega), by simp only [tmS]; omega⟩, hol, p⟩
   generalize hS : comm tmS (l.drop o) m = s at go hs okp
   by_cases c4 : s = m.length
   ·refine ⟨(i, t, putL tmS l m o, h1, h2, c, a, 0), go _ ?_, fun o' ho => by rw [huniq o' ho], fun _ => ⟨o, okp (.inl c4)⟩⟩
    rw [ev_succ]
    simp only [raft_Put.j2, ev_ite]
    rw [if_pos (by omega), ev_some]
    unfold putL
    rw [hS, if_pos c4]
   have hsx := hix s (by omega)
   simp only [ixS] at hsx
   have es : rd_T54 m (s : Int) = m[s]'(by omega) := rdE_get (by omega)
   by_cases c5 : m[s].f0 ≤ c
   ·refine no _ 11 (by omega) (fun o' ho => by
     have h9 := ho.2.2.2.2
     rw [huniq o' ho, hS] at h9
     omega) (go _ ?_)
    rw [ev_succ]
    simp only [raft_Put.j2, ev_ite, es]
    rw [if_neg (by omega), if_pos (by omega), if_pos (by omega), if_pos c5, ev_some]
   have EW : True → wrap64 (wrap64 (m[s].f0 - i) - 1) = ((o + s : Nat) : Int) := fun _ => by
    rw [w64 (x := m[s].f0 - i) (by omega) (by omega), w64 (by omega) (by omega)]
    omega
   have EW2 : True → wrap64 (wrap64 (((o + s : Nat) : Int) + (m.length : Int)) - (s : Int)) = ((o + m.length : Nat) : Int) := fun _ => by
    rw [w64 (x := ((o + s : Nat) : Int) + (m.length : Int)) (by omega) (by omega), w64 (by omega) (by omega)]
    omega
   by_cases c6 : o + m.length > 1000
   ·refine no _ 7 (by omega) (fun o' ho => by
     have h9 := ho.2.2.2.2
     rw [huniq o' ho, hS] at h9
     omega) (go _ ?_)
    rw [ev_succ]
    have ew := EW trivial
    have ew2 := EW2 trivial
    simp only [raft_Put.j2, ev_ite, es, ew, ew2]
    clear ew ew2
    rw [if_neg (by omega), if_pos (by omega), if_pos (by omega), if_neg c5, if_pos (by omega), ev_some]
   ·have hown2 := raft_owns_ev (m.drop s) (by rw [List.length_drop]; omega) (fun e he => hgm e (List.mem_of_mem_drop he))
    refine ⟨(i, t, putL tmS l m o, h1, h2, c, a, 0), go _ ?_, fun o' ho => by rw [huniq o' ho], fun _ => ⟨o, okp (.inr ⟨by omega, by omega⟩)⟩⟩
    rw [ev_succ]
    have ew := EW trivial
    have ew2 := EW2 trivial
    simp only [raft_Put.j2, ev_ite, es, ew, ew2, Int.toNat_natCast, Option.bind_some]
    clear ew ew2
    rw [if_neg (by omega), if_pos (by omega), if_pos (by omega), if_neg c5, if_neg (by omega), if_pos (by omega), if_pos (by omega), if_pos (by omega), ev_bind hown2, ev_ite, if_pos (by rw [List.length_take, List.length_drop]; omega), ev_some]
    unfold putL
    rw [hS, if_neg c4]
  ·refine no _ 1 (by omega) (fun o ho => hrow ho.2.1) ?_
   have hbf : b = false := by
    rw [← Bool.not_eq_true]
    exact fun h => hrow (hb2.1 h)
   subst hbf
   rw [ev_bind hr, ev_bind hq, ev_ite, if_pos hq0, ev_ite, if_neg (by omega), ev_bind hb]
   exact j0t _
 ·refine no _ 1 (by omega) (fun o ho => hc ho.1) ?_
  rw [ev_bind hr, ev_bind hq, ev_ite, if_neg (fun h => hc (hq2.1 h))]
  exact j0t _
theorem putL_mem {l m : List EntS} {o : Nat} {e : EntS} (h : e ∈ putL tmS l m o) : e ∈ l ∨ e ∈ m := by
 unfold putL at h
 split at h
 ·exact .inl h
 ·rcases List.mem_append.1 h with h | h
  ·exact .inl (List.mem_of_mem_take h)
  ·exact .inr (List.mem_of_mem_drop h)
theorem hard_Step_ev (t v c t' v' c' last : Int) : Ev (fun k => hard_Step.f k t v c t' v' c' last) (stepH t v c t' v' c' last) := by
 have h2 : ∀ b : Bool, b = decide (t' = t ∧ v ≠ 0 ∧ v' ≠ v) → Ev (fun k => hard_Step.j2 k last b t' v' c') (if t' = t ∧ v ≠ 0 ∧ v' ≠ v then 4 else if last < c' then 3 else 0) := by
  intro b hb
  rw [ev_succ]
  simp only [hard_Step.j2, ev_ite, ev_some, hb, decide_eq_true_eq]
  repeat' split
  all_goals first | rfl | omega
 have h1 : ∀ b : Bool, b = decide (t' < t ∨ c' < c) → Ev (fun k => hard_Step.j1 k last b t v c t' v' c') (if t' < t ∨ c' < c ∨ (t' = t ∧ v ≠ 0 ∧ v' ≠ v) then 4 else if last < c' then 3 else 0) := by
  intro b hb
  rw [ev_succ]
  simp only [hard_Step.j1, ev_ite, ev_some, hb, decide_eq_true_eq]
  by_cases hc : t' < t ∨ c' < c
  ·rw [if_pos hc, if_pos (by omega)]
  ·rw [if_neg hc]
   by_cases ht : t' = t
   ·rw [if_pos ht]
    by_cases hv : v = 0
    ·rw [if_pos hv]
     refine ev_eq (h2 false (by simp [hv])) ?_
     repeat' split
     all_goals first | rfl | omega
    ·rw [if_neg hv]
     refine ev_eq (h2 _ (by rw [Bool.eq_iff_iff]; simp [hv, ht])) ?_
     repeat' split
     all_goals first | rfl | omega
   ·rw [if_neg ht]
    refine ev_eq (h2 false (by simp [ht])) ?_
    repeat' split
    all_goals first | rfl | omega
 have h0 : ∀ b : Bool, b = (mayH t v c == false || mayH t' v' c' == false) → Ev (fun k => hard_Step.j0 k last b t v c t' v' c') (stepH t v c t' v' c' last) := by
  intro b hb
  rw [ev_succ]
  simp only [hard_Step.j0, ev_ite, ev_some]
  unfold stepH
  by_cases hm : mayH t v c = false ∨ mayH t' v' c' = false
  ·rw [if_pos (by rw [hb]; simpa using hm), if_pos hm]
  ·rw [if_neg (by rw [hb]; simpa using hm), if_neg hm]
   by_cases ht : t' < t
   ·rw [if_pos ht]
    exact h1 true (by simp [ht])
   ·rw [if_neg ht]
    exact h1 _ (by simp [ht])
 simp only [hard_Step.f, hard_Check_ev, Option.bind_some]
 by_cases hm : mayH t v c = true
 ·simp only [hm, if_true]
  refine h0 _ ?_
  rw [hm]
  cases mayH t' v' c' <;> rfl
 ·have hf : mayH t v c = false := by simpa using hm
  simp only [hf]
  exact h0 true (by rw [hf]; rfl)
theorem raft_Vote_ev {i t : Int} {l : List EntS} {h1 h2 c a : Int} (hc : CheckS i t l h1 h2 c a) (hg : ∀ e ∈ l, goodR e) (x y z : Int) : Ev (fun k => raft_Vote.f k i t l h1 h2 c a x y z) (if stepH h1 h2 c x y z (i + l.length) = 0 then (i, t, l, x, y, z, a, 0) else (0, 0, [], 0, 0, 0, 0, stepH h1 h2 c x y z (i + l.length))) := by
 have hl : l.length ≤ 1000 := hc.2.1
 have hir : 0 ≤ i ∧ i ≤ 2147483647 := by have := hc.1; omega
 obtain ⟨q, hq, hq2⟩ := raft_Check_ev i t l h1 h2 c a (by omega) hg (by omega)
 obtain ⟨r, hr, hr2⟩ := raft_Last_ev i t l h1 h2 c a (by omega) hg (by omega)
 have hr3 := hr2 hc
 simp only [raft_Vote.f]
 rw [ev_bind hq, ev_ite, if_pos (hq2.2 hc), ev_bind hr, hr3, ev_bind (hard_Step_ev _ _ _ _ _ _ _), ev_ite]
 by_cases h : stepH h1 h2 c x y z (i + (l.length : Int)) = 0
 ·rw [if_pos h, if_pos h, ev_bind (raft_owns_ev l (by omega) hg), ev_some]
 ·rw [if_neg h, if_neg h, ev_some]
theorem raft_Apply_ev {i t : Int} {l : List EntS} {h1 h2 c a : Int} (hc : CheckS i t l h1 h2 c a) (hg : ∀ e ∈ l, goodR e) (n : Int) : Ev (fun k => raft_Apply.f k i t l h1 h2 c a n) (if n < a then (0, 0, [], 0, 0, 0, 0, [], 4) else if n > c then (0, 0, [], 0, 0, 0, 0, [], 3) else (i, t, l, h1, h2, c, n, (l.take (n - i).toNat).drop (a - i).toNat, 0)) := by
 have hl : l.length ≤ 1000 := hc.2.1
 have hir : 0 ≤ i ∧ i ≤ 2147483647 := by have := hc.1; omega
 obtain ⟨h3, h4, h5⟩ := hc.2.2.2.2.2
 obtain ⟨q, hq, hq2⟩ := raft_Check_ev i t l h1 h2 c a (by omega) hg (by omega)
 simp only [raft_Apply.f]
 rw [ev_bind hq, ev_ite, if_pos (hq2.2 hc), ev_ite]
 by_cases b1 : n < a
 ·rw [if_pos b1, if_pos b1, ev_some]
 rw [if_neg b1, if_neg b1, ev_ite]
 by_cases b2 : n > c
 ·rw [if_pos b2, if_pos b2, ev_some]
 have w1 : wrap64 (a - i) = a - i := w64 (by omega) (by omega)
 have w2 : wrap64 (n - i) = n - i := w64 (by omega) (by omega)
 rw [if_neg b2, if_neg b2]
 simp only [w1, w2, ev_ite]
 rw [if_pos (by omega), if_pos (by omega), if_pos (by omega), ev_bind (raft_owns_ev _ (by rw [List.length_drop, List.length_take]; omega) (fun e he => hg e (List.mem_of_mem_take (List.mem_of_mem_drop he)))), ev_bind (raft_owns_ev l (by omega) hg), ev_some]
theorem garnerlaw24_awake_ev : Ev (fun k => garnerlaw24_awake.f k) true := Ev.of (fun k => garnerlaw24_awake.mono k) (k := 40) (by decide +kernel)
theorem garnerref22_May_ev (t v c : Int) : garnerref22_May.f t v c = some (mayH t v c) := by
 unfold garnerref22_May.f mayH
 repeat' split
 all_goals (congr 1; first | (symm; rw [decide_eq_false_iff_not]; omega) | (symm; rw [decide_eq_true_eq]; omega) | (rw [Bool.eq_iff_iff]; simp only [decide_eq_true_eq, beq_iff_eq]; omega))
theorem garnerref23_counts_ev (n : Int) : garnerref23_counts.f n = some (decide (1 ≤ n ∧ n ≤ 2147483647)) := by
 unfold garnerref23_counts.f
 split
 ·congr 1
  rw [decide_eq_decide]
  omega
 ·congr 1
  symm
  rw [decide_eq_false_iff_not]
  omega
theorem garnerref23_Rows_ev {l : List EntS} (hl : l.length ≤ 1000000000000) (h : RowsS l) : Ev (fun k => garnerref23_Rows.f k l) true := by
 have main : ∀ (d j : Nat), l.length - j = d → j ≤ l.length → Ev (fun k => garnerref23_Rows.l0 k l (j : Int)) true := by
  intro d
  induction d with
  | zero =>
   intro j hd hj
   rw [ev_succ]
   simp only [garnerref23_Rows.l0, ev_ite]
   rw [if_neg (by omega), ev_some]
  | succ d ih =>
   intro j hd hj
   have hjl : j < l.length := by omega
   have hw : wrap64 ((j : Int) + 1) = ((j + 1 : Nat) : Int) := w64 (by omega) (by omega)
   have h1 := h.1 j hjl
   simp only [ixS, tmS] at h1
   have hn := ih (j + 1) (by omega) (by omega)
   rw [ev_succ]
   simp only [garnerref23_Rows.l0, ev_ite, hw, rdE_get hjl]
   rw [if_pos (by omega), if_pos (by omega), ev_bind_c (garnerref23_counts_ev _), ev_ite, if_pos (by simp; omega), ev_bind_c (garnerref23_counts_ev _), ev_ite, if_pos (by simp; omega), ev_ite]
   by_cases h0 : j = 0
   ·rw [if_neg (by omega)]
    exact hn
   ·have h2 := h.2 (j - 1) (by omega)
    have e : j - 1 + 1 = j := by omega
    simp only [e, ixS, tmS] at h2
    have w1 : wrap64 ((j : Int) - 1) = ((j - 1 : Nat) : Int) := by rw [w64 (by omega) (by omega)]; omega
    simp only [w1, ev_ite, rdE_get (show j - 1 < l.length by omega)]
    rw [if_pos (by omega), if_pos (by omega), if_pos (by omega), w64 (by omega) (by omega), if_pos (by omega), if_neg (by omega)]
    exact hn
 exact main (l.length - 0) 0 rfl (by omega)
theorem garnerref23_May_yes {i t : Int} {l : List EntS} {h1 h2 c a : Int} (hc : CheckS i t l h1 h2 c a) : Ev (fun k => garnerref23_May.f k i t l h1 h2 c a) true := by
 obtain ⟨g1, g2, g3, g4, g5, g6, g7, g8⟩ := hc
 have hir : 0 ≤ i ∧ i ≤ 2147483647 ∧ 0 ≤ t ∧ t ≤ 2147483647 := by omega
 have hb : ¬ (((i == 0) != (t == 0)) = true) := by
  have : (i == 0) = (t == 0) := by
   rw [Bool.eq_iff_iff]
   simp only [beq_iff_eq]
   omega
  rw [this]
  simp
 simp only [garnerref23_May.f, ev_ite]
 rw [if_neg (by omega), if_neg (by omega), if_neg (by omega), if_neg (by omega), if_neg hb, if_neg (by omega), ev_bind (garnerref23_Rows_ev (by omega) g3), ev_ite, if_pos (by trivial), ev_bind_c (garnerref22_May_ev _ _ _), g4, ev_succ]
 simp only [garnerref23_May.j0, ev_ite]
 rw [if_neg (by simp)]
 have w1 : wrap64 (i + (l.length : Int)) = i + l.length := w64 (by omega) (by omega)
 have fin : Ev (fun k => some (decide (c ≤ wrap64 (i + (l.length : Int))))) true := by
  rw [w1, ev_some]
  simpa using g8
 by_cases h0 : 0 < l.length
 ·obtain ⟨k1, k2⟩ := g5 h0
  simp only [ixS, tmS] at k1 k2
  have e0 : rd_T54 l 0 = l[0] := rdE_get h0
  have k3 := (g3.1 0 h0).1
  have k4 := (g3.1 0 h0).2.1
  simp only [ixS] at k3 k4
  simp only [e0]
  rw [if_pos (by omega), if_pos (by omega), w64 (x := l[0].f0 - 1) (by omega) (by omega), if_pos (by omega), if_neg (by omega), if_pos (by omega), if_pos (by omega)]
  exact fin
 ·rw [if_neg (by omega), if_pos (by omega), if_pos (by omega)]
  exact fin
theorem garnerref04_May_ev (s a l u : Int) : garnerref04_May.f s a l u = some (mayP s a l) := by
 unfold garnerref04_May.f mayP
 repeat' split
 all_goals (congr 1; first | (symm; rw [decide_eq_false_iff_not]; omega) | (rw [Bool.eq_iff_iff]; simp only [decide_eq_true_eq]; omega))
theorem garnerref05_May_ev (far : Bool) (b : List Int) (s a n u : Int) : garnerref05_May.f far b s a n u = some (mayC far b s a n u) := by
 unfold garnerref05_May.f mayC
 cases far with
 | true =>
  rw [if_pos rfl, if_pos rfl]
  by_cases h : b.length = 0
  ·rw [if_pos (by omega), garnerref04_May_ev, decide_eq_true h, Bool.true_and]
   rfl
  ·rw [if_neg (by omega), decide_eq_false h, Bool.false_and]
 | false =>
  simp only [Bool.false_eq_true, if_false]
  rw [zero_isr]
  by_cases h : b.length ≤ 32
  ·rw [if_pos (by omega), decide_eq_true h, Bool.true_and]
  ·rw [if_neg (by omega), decide_eq_false h, Bool.false_and]
theorem garnerref02_same_l0_ev (x y : List Int) (hxy : x.length = y.length) (hl : x.length ≤ maxLen) : ∀ (d i : Nat), x.length - i = d → i ≤ x.length → Ev (fun k => garnerref02_same.l0 k x y (i : Int)) (decide (x.drop i = y.drop i)) := by
 have hlm := maxLen_le hl
 intro d
 induction d with
 | zero =>
  intro i hd hi
  rw [ev_succ]
  simp only [garnerref02_same.l0, ev_ite]
  rw [if_neg (by omega), ev_some, List.drop_eq_nil_of_le (by omega), List.drop_eq_nil_of_le (by omega)]
  simp
 | succ d ih =>
  intro i hd hi
  rw [ev_succ]
  simp only [garnerref02_same.l0, ev_ite]
  rw [if_pos (by omega), if_pos (by omega), if_pos (by omega), w64 (by omega) (by omega), drop_eq (xs := x) (by omega), drop_eq (xs := y) (by omega)]
  by_cases h : rd x (i : Int) = rd y (i : Int)
  ·rw [if_pos h, h]
   refine ev_eq (ih (i + 1) (by omega) (by omega)) ?_
   simp
  ·rw [if_neg h, ev_some]
   simp [h]
theorem garnerref02_same_ev {x y : List Int} (hl : x.length ≤ maxLen) : Ev (fun k => garnerref02_same.f k x y) (decide (x = y)) := by
 simp only [garnerref02_same.f, ev_ite]
 by_cases h : x.length = y.length
 ·rw [if_pos (by omega)]
  exact garnerref02_same_l0_ev x y h hl (x.length - 0) 0 rfl (by omega)
 ·rw [if_neg (by omega), ev_some]
  symm
  simp only [decide_eq_false_iff_not]
  rintro rfl
  exact h rfl
theorem garnerref02_Bytes_ev {x y : List Int} (hl : x.length ≤ maxLen) : Ev (fun k => garnerref02_Bytes.f k x y) (decide (x = y)) := by
 simp only [garnerref02_Bytes.f]
 rw [ev_bind (garnerref02_same_ev hl), ev_some]
theorem garnerref05_Same_plain {far : Bool} {b : List Int} (hb : b.length ≤ maxLen) (s a n u : Int) : Ev (fun k => garnerref05_Same.f k far b s a n u false ([] : List Int) 0 0 0 0) (plainC far b s a n u) := by
 simp only [garnerref05_Same.f, ev_ite]
 unfold plainC
 rw [zero_isr]
 cases far with
 | true =>
  rw [if_neg (by simp), ev_some]
  rfl
 | false =>
  rw [if_pos (by simp)]
  by_cases h : zeroP s a n u = true
  ·rw [if_pos h, ev_bind (garnerref02_Bytes_ev hb), ev_some, h]
   simp
  ·rw [if_neg h, ev_some]
   rw [Bool.not_eq_true] at h
   rw [h]
   simp
theorem garnerref06_May_ev {e : Ent} (hb : e.b.length ≤ maxLen) : Ev (fun k => garnerref06_May.f k e.i e.t e.k e.key e.far e.b e.s e.a e.n e.u) (mayN e) := by
 have hnot : ¬ (1 ≤ e.i ∧ e.i ≤ 2147483647 ∧ 1 ≤ e.t ∧ e.t ≤ 2147483647 ∧ 0 ≤ e.k ∧ e.k ≤ 2 ∧ e.key.size ≤ 64 ∧ (e.key.size = 0 ↔ e.k = 0)) → mayN e = false := fun h => by
  unfold mayN headN
  rw [decide_eq_false h, Bool.false_and]
 have bad : mayN e = false → Ev (fun k => garnerref06_May.j0 k true e.i e.t e.k e.key e.far e.b e.s e.a e.n e.u) (mayN e) := by
  intro h
  rw [h, ev_succ]
  simp only [garnerref06_May.j0, ev_ite]
  rw [if_pos (by trivial), ev_some]
 have hz := toList_nil e.key
 simp only [garnerref06_May.f, ev_ite]
 by_cases h1 : e.i < 1
 ·rw [if_pos h1]; exact bad (hnot (by omega))
 rw [if_neg h1]
 by_cases h2 : e.i > 2147483647
 ·rw [if_pos h2]; exact bad (hnot (by omega))
 rw [if_neg h2]
 by_cases h3 : e.t < 1
 ·rw [if_pos h3]; exact bad (hnot (by omega))
 rw [if_neg h3]
 by_cases h4 : e.t > 2147483647
 ·rw [if_pos h4]; exact bad (hnot (by omega))
 rw [if_neg h4, ev_bind_c (garnerref05_May_ev _ _ _ _ _ _), ev_ite]
 by_cases hc : mayC e.far e.b e.s e.a e.n e.u = true
 ·rw [if_pos hc]
  by_cases h5 : e.key.size > 64
  ·rw [decide_eq_true (by omega)]; exact bad (hnot (by omega))
  rw [decide_eq_false (by omega), ev_succ]
  simp only [garnerref06_May.j0, ev_ite]
  rw [if_neg (by simp)]
  have hmk : ∀ q : Bool, (e.k ≠ 2 ∨ plainC e.far e.b e.s e.a e.n e.u = true) → (q = true ↔ (0 ≤ e.k ∧ e.k ≤ 2 ∧ (e.key.size = 0 ↔ e.k = 0))) → q = mayN e := by
   intro q hp hq
   rw [Bool.eq_iff_iff, hq, mayN_iff]
   constructor
   ·intro h
    exact ⟨by omega, hp, hc⟩
   ·intro h
    omega
  by_cases k0 : e.k = 0
  ·rw [if_pos k0, ev_some]
   refine hmk _ (.inl (by omega)) ?_
   rw [beq_iff_eq, hz]
   omega
  rw [if_neg k0]
  by_cases k2 : e.k = 2
  ·rw [if_pos k2]
   by_cases hs : e.key.size = 0
   ·rw [if_pos (hz.2 hs), ev_some]
    exact (hnot (by omega)).symm
   ·rw [if_neg (fun h => hs (hz.1 h)), ev_bind (garnerref05_Same_plain hb _ _ _ _), ev_some]
    rw [Bool.eq_iff_iff, mayN_iff]
    constructor
    ·intro h
     exact ⟨by omega, .inr h, hc⟩
    ·intro h
     rcases h.2.1 with h | h
     ·exact absurd k2 h
     ·exact h
  rw [if_neg k2]
  by_cases k1 : e.k = 1
  ·rw [if_pos k1, ev_some]
   refine hmk _ (.inl (by omega)) ?_
   rw [bne_iff_ne, ne_eq, hz]
   omega
  ·rw [if_neg k1, ev_some]
   exact (hnot (by omega)).symm
 ·rw [if_neg hc]
  refine bad ?_
  unfold mayN
  rw [Bool.not_eq_true] at hc
  rw [hc, Bool.and_false, Bool.and_false]
theorem garnerref06_Batch_ev (l : List S54) (hl : l.length ≤ 140737488351232) (hg : ∀ e ∈ l, goodN e) : Ev (fun k => garnerref06_Batch.f k l) (batchB (prsN l)) := by
 have main : ∀ (d j : Nat) (p : Option (Int × Int)), l.length - j = d → j ≤ l.length → (j = 0 → p = none) → (∀ i : Nat, j = i + 1 → p = some ((rd_T54 l (i : Int)).f0, (rd_T54 l (i : Int)).f1)) →
  Ev (fun k => garnerref06_Batch.l0 k l (j : Int)) (decide (1 ≤ l.length ∧ l.length ≤ 16) && batchFrom p (prsN (l.drop j))) := by
  intro d
  induction d with
  | zero =>
   intro j p hd hj _ _
   rw [ev_succ]
   simp only [garnerref06_Batch.l0, ev_ite]
   have e : batchFrom p (prsN (l.drop j)) = true := by
    rw [List.drop_eq_nil_of_le (by omega)]
    cases p <;> rfl
   rw [if_neg (by omega), e, Bool.and_true]
   split
   ·rw [ev_some, decide_eq_decide]
    omega
   ·rw [ev_some]
    symm
    rw [decide_eq_false_iff_not]
    omega
  | succ d ih =>
   intro j p hd hj h0 hs
   have hjl : j < l.length := by omega
   have hgj := hg _ (rdN_mem hjl)
   have ih' := ih (j + 1) (some ((rd_T54 l (j : Int)).f0, (rd_T54 l (j : Int)).f1)) (by omega) (by omega) (by omega) (fun i hi => by rw [show i = j by omega])
   have hw : wrap64 ((j : Int) + 1) = ((j + 1 : Nat) : Int) := w64 (by omega) (by omega)
   rw [dropN_eq hjl]
   rw [ev_succ]
   simp only [garnerref06_Batch.l0, ev_ite, hw]
   generalize hE : rd_T54 l (j : Int) = e at hgj ih' ⊢
   have hc : Ev (fun k => garnerref06_May.f k e.f0 e.f1 e.f2 e.f3 e.f4.f0 e.f4.f1 e.f4.f2.f0 e.f4.f2.f1 e.f4.f2.f2 e.f4.f2.f3) (mayN (prN e)) := garnerref06_May_ev (e := prN e) (by have := hgj.2.2.2.1; simp only [prN]; unfold maxLen; omega)
   have el : prsN (e :: l.drop (j + 1)) = prN e :: prsN (l.drop (j + 1)) := rfl
   have e0 : (prN e).i = e.f0 := rfl
   have e1 : (prN e).t = e.f1 := rfl
   rw [el, if_pos (by omega), if_pos (by omega), ev_bind hc, ev_ite]
   by_cases hm : mayN (prN e) = true
   ·have hm' := (mayN_iff.1 hm).1
    rw [e0, e1] at hm'
    rw [if_pos hm, ev_ite]
    by_cases hj0 : j = 0
    ·rw [if_neg (by omega), h0 hj0, batch_none, hm, Bool.true_and, e0, e1]
     exact ih'
    ·have hp := hs (j - 1) (by omega)
     have e2 : wrap64 ((j : Int) - 1) = ((j - 1 : Nat) : Int) := by
      rw [w64 (by omega) (by omega)]
      omega
     rw [if_pos (by omega), e2, ev_ite, if_pos (by omega), ev_ite, if_pos (by omega), ev_ite, hp, batch_some, hm, Bool.true_and, e0, e1, w64 (by omega) (by omega)]
     by_cases h1 : e.f0 = (rd_T54 l ((j - 1 : Nat) : Int)).f0 + 1
     ·rw [if_pos (by omega), ev_ite]
      by_cases h2 : e.f1 < (rd_T54 l ((j - 1 : Nat) : Int)).f1
      ·rw [if_pos h2, ev_some, decide_eq_false (show ¬ (e.f0 = (rd_T54 l ((j - 1 : Nat) : Int)).f0 + 1 ∧ (rd_T54 l ((j - 1 : Nat) : Int)).f1 ≤ e.f1) by omega), Bool.false_and, Bool.and_false]
      ·rw [if_neg h2, decide_eq_true (show e.f0 = (rd_T54 l ((j - 1 : Nat) : Int)).f0 + 1 ∧ (rd_T54 l ((j - 1 : Nat) : Int)).f1 ≤ e.f1 by omega), Bool.true_and]
       exact ih'
     ·rw [if_neg (by omega), ev_some, decide_eq_false (show ¬ (e.f0 = (rd_T54 l ((j - 1 : Nat) : Int)).f0 + 1 ∧ (rd_T54 l ((j - 1 : Nat) : Int)).f1 ≤ e.f1) by omega), Bool.false_and, Bool.and_false]
   ·rw [if_neg hm, ev_some]
    rw [Bool.not_eq_true] at hm
    have hf : batchFrom p (prN e :: prsN (l.drop (j + 1))) = false := by
     cases p with
     | none => rw [batch_none, hm, Bool.false_and]
     | some q =>
      obtain ⟨i, t⟩ := q
      rw [batch_some, hm, Bool.false_and]
    rw [hf, Bool.and_false]
 have := main (l.length - 0) 0 none rfl (by omega) (fun _ => rfl) (fun i hi => by omega)
 unfold batchB
 rw [prsN_len]
 exact this
theorem garnerref06_Same_self (l : List S54) (hl : l.length ≤ 140737488351232) (hg : ∀ e ∈ l, e.f4.f1.length ≤ maxLen) : Ev (fun k => garnerref06_Same.f k l l) true := by
 have main : ∀ (d j : Nat), l.length - j = d → j ≤ l.length → Ev (fun k => garnerref06_Same.l0 k l l (j : Int)) true := by
  intro d
  induction d with
  | zero =>
   intro j hd hj
   rw [ev_succ]
   simp only [garnerref06_Same.l0, ev_ite]
   rw [if_neg (by omega), ev_some]
  | succ d ih =>
   intro j hd hj
   have hjl : j < l.length := by omega
   have e : rd_T54 l (j : Int) = l[j] := by simp [rd_T54, hjl]
   have hgj := hg _ (List.getElem_mem hjl)
   have hw : wrap64 ((j : Int) + 1) = ((j + 1 : Nat) : Int) := w64 (by omega) (by omega)
   rw [ev_succ]
   simp only [garnerref06_Same.l0, ev_ite, hw, e]
   generalize l[j] = x at hgj ⊢
   have hs : Ev (fun k => garnerref05_Same.f k x.f4.f0 x.f4.f1 x.f4.f2.f0 x.f4.f2.f1 x.f4.f2.f2 x.f4.f2.f3 x.f4.f0 x.f4.f1 x.f4.f2.f0 x.f4.f2.f1 x.f4.f2.f2 x.f4.f2.f3) true := by
    simp only [garnerref05_Same.f, ev_ite]
    rw [if_pos (by simp), if_pos (by simp), ev_bind (garnerref02_Bytes_ev hgj), ev_some]
    simp
   rw [if_pos (by omega), if_pos (by omega), if_pos (by omega), if_pos (by trivial), if_pos (by trivial), if_pos (by trivial), if_pos (by trivial), ev_bind hs, ev_ite, if_pos (by trivial)]
   exact ih (j + 1) (by omega) (by omega)
 simp only [garnerref06_Same.f, ev_ite]
 rw [if_pos (by trivial)]
 exact main (l.length - 0) 0 rfl (by omega)
theorem garnerref23_Same_self (i t : Int) (l : List S54) (x y z u : Int) (hl : l.length ≤ 140737488351232) (hg : ∀ e ∈ l, e.f4.f1.length ≤ maxLen) : Ev (fun k => garnerref23_Same.f k i t l x y z u i t l x y z u) true := by
 simp only [garnerref23_Same.f, ev_ite]
 rw [if_pos (by trivial), if_pos (by trivial), if_pos (by simp), if_pos (by trivial), ev_bind (garnerref06_Same_self l hl hg), ev_some]
theorem garnerref22_Follows_ev (t v c t' v' c' : Int) : garnerref22_Follows.f t v c t' v' c' = some (decide (¬ (t' < t ∨ c' < c ∨ (t' = t ∧ v ≠ 0 ∧ v' ≠ v)))) := by
 unfold garnerref22_Follows.f
 repeat' split
 all_goals (congr 1; first | (symm; rw [decide_eq_false_iff_not]; omega) | (symm; rw [decide_eq_true_eq]; omega) | (rw [Bool.eq_iff_iff]; simp only [decide_eq_true_eq, beq_iff_eq]; omega))
theorem garnerref22_Step_ev (t v c t' v' c' last : Int) : Ev (fun k => garnerref22_Step.f k t v c t' v' c' last) (stepH t v c t' v' c' last) := by
 have h0 : ∀ b : Bool, b = (mayH t v c == false || mayH t' v' c' == false) → Ev (fun k => garnerref22_Step.j0 k last b t v c t' v' c') (stepH t v c t' v' c' last) := by
  intro b hb
  rw [ev_succ]
  simp only [garnerref22_Step.j0, garnerref22_Follows_ev, Option.bind_some, ev_ite, ev_some]
  unfold stepH
  by_cases hm : mayH t v c = false ∨ mayH t' v' c' = false
  ·rw [if_pos (by rw [hb]; simpa using hm), if_pos hm]
  ·rw [if_neg (by rw [hb]; simpa using hm), if_neg hm]
   simp only [decide_eq_true_eq]
   repeat' split
   all_goals first | rfl | omega
 simp only [garnerref22_Step.f, garnerref22_May_ev, Option.bind_some]
 by_cases hm : mayH t v c = true
 ·simp only [hm, if_true]
  refine h0 _ ?_
  rw [hm]
  cases mayH t' v' c' <;> rfl
 ·have hf : mayH t v c = false := by simpa using hm
  simp only [hf]
  exact h0 true (by rw [hf]; rfl)
theorem ref_rows (k : Nat) (l : List EntS) (j : Int) : garnerref23_Rows.l0 k l j = raft_rows.l0 k l l (l.length : Int) j := by
 induction k generalizing j with
 | zero => rfl
 | succ k ih =>
  simp only [garnerref23_Rows.l0, raft_rows.l0, garnerref23_counts_ev, raft_counts_ev, ih]
  by_cases h : j < l.length
  ·simp only [if_pos h]
  ·simp only [if_neg h]
theorem ref_rows_iff (l : List EntS) (hl : l.length ≤ 140737488351232) (hg : ∀ e ∈ l, goodR e) : ∃ b, Ev (fun k => garnerref23_Rows.f k l) b ∧ (b = true ↔ RowsS l) := by
 obtain ⟨b, hb, hb2⟩ := raft_rows_ev l hl hg
 refine ⟨b, ?_, hb2⟩
 simp only [garnerref23_Rows.f, ref_rows]
 simp only [raft_rows.f] at hb
 exact hb
theorem ref_May_no {i t : Int} {l : List EntS} {h1 h2 c a : Int} (hl : l.length ≤ 140737488351232) (hg : ∀ e ∈ l, goodR e) (hn : ¬ CheckS i t l h1 h2 c a) : Ev (fun k => garnerref23_May.f k i t l h1 h2 c a) false := by
 have j0t : Ev (fun k => garnerref23_May.j0 k true i t l h1 h2 c a) false := by
  rw [ev_succ]
  simp only [garnerref23_May.j0, ev_ite]
  rw [if_pos (by trivial), ev_some]
 simp only [garnerref23_May.f, ev_ite]
 by_cases c1 : i < 0
 ·rw [if_pos c1]; exact j0t
 rw [if_neg c1]
 by_cases c2 : i > 2147483647
 ·rw [if_pos c2]; exact j0t
 rw [if_neg c2]
 by_cases c3 : t < 0
 ·rw [if_pos c3]; exact j0t
 rw [if_neg c3]
 by_cases c4 : t > 2147483647
 ·rw [if_pos c4]; exact j0t
 rw [if_neg c4]
 by_cases c5 : ((i == 0) != (t == 0)) = true
 ·rw [if_pos c5]; exact j0t
 rw [if_neg c5]
 have c5' : i = 0 ↔ t = 0 := by
  rw [Bool.not_eq_true, bne_eq_false_iff_eq, Bool.eq_iff_iff, beq_iff_eq, beq_iff_eq] at c5
  exact c5
 by_cases c6 : (l.length : Int) > 1000
 ·rw [if_pos c6]; exact j0t
 rw [if_neg c6]
 obtain ⟨b, hb, hb2⟩ := ref_rows_iff l hl hg
 rw [ev_bind hb, ev_ite]
 by_cases c7 : b = true
 rotate_left
 ·rw [if_neg c7]; exact j0t
 rw [if_pos c7, ev_bind_c (garnerref22_May_ev _ _ _)]
 by_cases c8 : mayH h1 h2 c = true
 rotate_left
 ·rw [Bool.not_eq_true] at c8
  rw [c8]; exact j0t
 rw [c8, ev_succ]
 simp only [garnerref23_May.j0, ev_ite]
 rw [if_neg (by simp)]
 have w1 : wrap64 (i + (l.length : Int)) = i + l.length := w64 (by omega) (by omega)
 have tail : (∀ h : 0 < l.length, ixS l[0] = i + 1 ∧ t ≤ tmS l[0]) → (if i ≤ a then (if a ≤ c then Ev (fun _ => some (decide (c ≤ wrap64 (i + (l.length : Int))))) false else Ev (fun _ => some false) false) else Ev (fun _ => some false) false) := by
  intro hh
  by_cases d1 : i ≤ a
  ·rw [if_pos d1]
   by_cases d2 : a ≤ c
   ·rw [if_pos d2, w1, ev_some, decide_eq_false_iff_not]
    intro d3
    exact hn ⟨by omega, by omega, hb2.1 c7, c8, hh, d1, d2, d3⟩
   ·rw [if_neg d2, ev_some]
  ·rw [if_neg d1, ev_some]
 by_cases h0 : 0 < l.length
 ·have e0 : rd_T54 l 0 = l[0] := rdE_get h0
  have k3 := ((hb2.1 c7).1 0 h0).1
  have k4 := ((hb2.1 c7).1 0 h0).2.1
  simp only [ixS] at k3 k4
  simp only [e0]
  rw [if_pos (by omega), if_pos (by omega), w64 (x := l[0].f0 - 1) (by omega) (by omega)]
  by_cases d1 : l[0].f0 - 1 = i
  ·rw [if_pos d1]
   by_cases d2 : l[0].f1 < t
   ·rw [if_pos d2, ev_some]
   ·rw [if_neg d2]
    exact tail (fun _ => ⟨by simp only [ixS]; omega, by simp only [tmS]; omega⟩)
  ·rw [if_neg d1, ev_some]
 ·rw [if_neg (by omega)]
  exact tail (fun h => absurd h h0)
abbrev LogS : Type := Int × Int × List EntS × Int × Int × Int × Int × Int
def fineS (l : List EntS) : Prop := l.length ≤ 140737488351232 ∧ ∀ e ∈ l, e.f4.f1.length ≤ maxLen
theorem fine_of {l : List EntS} {l' : List EntS} (hl : l.length ≤ 1000) (hg : ∀ e ∈ l, goodR e ∧ e.f4.f1.length ≤ maxLen) (h : ∀ e ∈ l', e ∈ l) (hl' : l'.length ≤ l.length) : fineS l' := ⟨by omega, fun e he => (hg e (h e he)).2⟩
theorem fine_nil : fineS [] := ⟨by simp, fun e he => absurd he (by simp)⟩
theorem both_Vote {i t : Int} {l : List EntS} {h1 h2 c a : Int} (hc : CheckS i t l h1 h2 c a) (hg : ∀ e ∈ l, goodR e ∧ e.f4.f1.length ≤ maxLen) (x y z : Int) : ∃ o : LogS, Ev (fun k => raft_Vote.f k i t l h1 h2 c a x y z) o ∧ Ev (fun k => garnerref23_Vote.f k i t l h1 h2 c a x y z) o ∧ fineS o.2.2.1 := by
 have hl : l.length ≤ 1000 := hc.2.1
 have hir : 0 ≤ i ∧ i ≤ 2147483647 := by have := hc.1; omega
 refine ⟨_, raft_Vote_ev hc (fun e he => (hg e he).1) x y z, ?_, ?_⟩
 ·have hL : garnerref23_Last.f i t l h1 h2 c a = some (i + (l.length : Int)) := by
   simp only [garnerref23_Last.f]
   rw [w64 (by omega) (by omega)]
  simp only [garnerref23_Vote.f]
  rw [ev_bind_c hL, ev_bind (garnerref22_Step_ev _ _ _ _ _ _ _), ev_ite]
  split
  ·rw [ev_some]
  ·rw [ev_some]
 ·split
  ·exact fine_of hl hg (fun e he => he) (Nat.le_refl _)
  ·exact fine_nil
theorem both_Apply {i t : Int} {l : List EntS} {h1 h2 c a : Int} (hc : CheckS i t l h1 h2 c a) (hg : ∀ e ∈ l, goodR e ∧ e.f4.f1.length ≤ maxLen) (n : Int) : ∃ (o : LogS) (m : List EntS), Ev (fun k => raft_Apply.f k i t l h1 h2 c a n) (o.1, o.2.1, o.2.2.1, o.2.2.2.1, o.2.2.2.2.1, o.2.2.2.2.2.1, o.2.2.2.2.2.2.1, m, o.2.2.2.2.2.2.2) ∧ Ev (fun k => garnerref23_Apply.f k i t l h1 h2 c a n) (o.1, o.2.1, o.2.2.1, o.2.2.2.1, o.2.2.2.2.1, o.2.2.2.2.2.1, o.2.2.2.2.2.2.1, m, o.2.2.2.2.2.2.2) ∧ fineS o.2.2.1 ∧ fineS m := by
 have hl : l.length ≤ 1000 := hc.2.1
 have hir : 0 ≤ i ∧ i ≤ 2147483647 := by have := hc.1; omega
 obtain ⟨h3, h4, h5⟩ := hc.2.2.2.2.2
 have A := raft_Apply_ev hc (fun e he => (hg e he).1) n
 by_cases b1 : n < a
 ·rw [if_pos b1] at A
  refine ⟨(0, 0, [], 0, 0, 0, 0, 4), [], A, ?_, fine_nil, fine_nil⟩
  simp only [garnerref23_Apply.f, ev_ite]
  rw [if_pos b1, ev_some]
 rw [if_neg b1] at A
 by_cases b2 : n > c
 ·rw [if_pos b2] at A
  refine ⟨(0, 0, [], 0, 0, 0, 0, 3), [], A, ?_, fine_nil, fine_nil⟩
  simp only [garnerref23_Apply.f, ev_ite]
  rw [if_neg b1, if_pos b2, ev_some]
 rw [if_neg b2] at A
 refine ⟨(i, t, l, h1, h2, c, n, 0), _, A, ?_, fine_of hl hg (fun e he => he) (Nat.le_refl _), fine_of hl hg (fun e he => List.mem_of_mem_take (List.mem_of_mem_drop he)) (by rw [List.length_drop, List.length_take]; omega)⟩
 simp only [garnerref23_Apply.f, ev_ite]
 rw [if_neg b1, if_neg b2, w64 (by omega) (by omega)]
 have main : ∀ (D q : Nat) (acc : List EntS), (n - i).toNat - q = D → q ≤ (n - i).toNat → acc.length ≤ q → Ev (fun k => garnerref23_Apply.l0 k n acc (i + 1 + (q : Int)) i t l h1 h2 c a) (i, t, l, h1, h2, c, n, acc ++ (l.take (n - i).toNat).drop q, 0) := by
  intro D
  induction D with
  | zero =>
   intro q acc hd hq ha
   rw [ev_succ]
   simp only [garnerref23_Apply.l0, ev_ite]
   rw [if_neg (by omega), ev_some, List.drop_eq_nil_of_le (by rw [List.length_take]; omega), List.append_nil]
  | succ D ih =>
   intro q acc hd hq ha
   have hql : q < l.length := by omega
   have w1 : wrap64 (wrap64 (i + 1 + (q : Int) - i) - 1) = (q : Int) := by
    rw [w64 (x := i + 1 + (q : Int) - i) (by omega) (by omega), w64 (by omega) (by omega)]
    omega
   have w2 : wrap64 (i + 1 + (q : Int) + 1) = i + 1 + ((q + 1 : Nat) : Int) := by
    rw [w64 (by omega) (by omega)]
    omega
   have ed : (l.take (n - i).toNat).drop q = l[q] :: (l.take (n - i).toNat).drop (q + 1) := by
    rw [List.drop_eq_getElem_cons (by rw [List.length_take]; omega), List.getElem_take]
   rw [ev_succ]
   simp only [garnerref23_Apply.l0, ev_ite, w1, w2, rdE_get hql]
   rw [if_pos (by omega), if_pos (by omega), if_pos (by omega), if_pos (by omega), ed]
   refine ev_eq (ih (q + 1) (acc ++ [l[q]]) (by omega) (by omega) (by rw [List.length_append, List.length_singleton]; omega)) ?_
   rw [List.append_assoc, List.singleton_append]
 have := main _ (a - i).toNat [] rfl (by omega) (by simp)
 rw [show i + 1 + (((a - i).toNat : Nat) : Int) = a + 1 by omega, List.nil_append] at this
 exact this
def mayRec (kd : Int) (l : List Ent) (t v c i : Int) : Bool :=
 if kd = 1 then decide (t = 0 ∧ v = 0 ∧ c = 0 ∧ i = 0) && batchB l
 else if kd = 2 then decide (l.length = 0 ∧ i = 0) && mayH t v c
 else if kd = 3 then decide (l.length = 0 ∧ t = 0 ∧ v = 0 ∧ c = 0 ∧ 1 ≤ i ∧ i ≤ 2147483647)
 else false
theorem nz_is (t v c : Int) : (!(t == 0) || (!(v == 0) || (!(c == 0)))) = !decide (t = 0 ∧ v = 0 ∧ c = 0) := by
 rw [Bool.eq_iff_iff]
 simp only [Bool.or_eq_true, Bool.not_eq_true', beq_eq_false_iff_ne, decide_eq_false_iff_not]
 omega
def chkV (b p v : Bool) (l : List S54) (t w c i : Int) : Int :=
 if b = true then 1 else if p = true then (if batchB (prsN l) = true then 0 else 1) else if v = true then (if mayH t w c = true then 0 else 1) else if 1 ≤ i ∧ i ≤ 2147483647 then 0 else 1
theorem wal_Check_j2 (p v b : Bool) (kd : Int) (l : List S54) (t w c i : Int) (hl : l.length ≤ 140737488351232) (hg : ∀ e ∈ l, goodN e) : Ev (fun k => wal_Check.j2 k p v b kd l t w c i) (chkV b p v l t w c i) := by
 unfold chkV
 rw [ev_succ]
 simp only [wal_Check.j2, ev_ite]
 cases b
 ·simp only [Bool.false_eq_true, if_false]
  cases p
  ·simp only [Bool.false_eq_true, if_false]
   cases v
   ·simp only [Bool.false_eq_true, if_false]
    by_cases h : i < 1
    ·rw [if_pos h, if_neg (by omega), ev_some]
    ·rw [if_neg h]
     by_cases h2 : i > 2147483647
     ·rw [if_pos h2, if_neg (by omega), ev_some]
     ·rw [if_neg h2, if_pos (by omega), ev_some]
   ·simp only [if_true, hard_Check_ev, Option.bind_some]
    rw [ev_some]
  ·simp only [if_true]
   rw [ev_bind (entry_Batch_ev l hl hg), ev_some]
 ·simp only [if_true]
  rw [ev_some]
theorem wal_Check_j1 (p v a b : Bool) (kd : Int) (l : List S54) (t w c i : Int) (hl : l.length ≤ 140737488351232) (hg : ∀ e ∈ l, goodN e) : Ev (fun k => wal_Check.j1 k p v a b kd l t w c i) (chkV (b || (if v = true then false else !decide (t = 0 ∧ w = 0 ∧ c = 0)) || (if a = true then false else !decide (i = 0))) p v l t w c i) := by
 have h2 := fun b => wal_Check_j2 p v b kd l t w c i hl hg
 have hi : (i != 0) = !decide (i = 0) := by
  rw [Bool.eq_iff_iff]
  simp
 rw [ev_succ]
 simp only [wal_Check.j1, ev_ite, nz_is, hi]
 generalize (!decide (t = 0 ∧ w = 0 ∧ c = 0)) = q
 generalize (!decide (i = 0)) = r
 have h2t := h2 true
 have h2f := h2 false
 have h2r := h2 r
 cases b <;> cases v <;> cases q <;> cases a <;> simp only [Bool.false_eq_true, if_false, if_true, Bool.or_false, Bool.false_or, Bool.true_or, Bool.or_true] <;> assumption
theorem wal_Check_j0 (p v a b : Bool) (kd : Int) (l : List S54) (t w c i : Int) (hl : l.length ≤ 140737488351232) (hg : ∀ e ∈ l, goodN e) : Ev (fun k => wal_Check.j0 k p v a b kd l t w c i) (chkV (b || (if p = true then false else decide (0 < l.length)) || (if v = true then false else !decide (t = 0 ∧ w = 0 ∧ c = 0)) || (if a = true then false else !decide (i = 0))) p v l t w c i) := by
 have h1 := fun b => wal_Check_j1 p v a b kd l t w c i hl hg
 have h2 := fun b => wal_Check_j2 p v b kd l t w c i hl hg
 have hi : decide ((l.length : Int) > 0) = decide (0 < l.length) := by
  rw [Bool.eq_iff_iff, decide_eq_true_eq, decide_eq_true_eq]
  omega
 rw [ev_succ]
 simp only [wal_Check.j0, ev_ite, hi]
 cases b
 ·simp only [Bool.false_eq_true, if_false, Bool.false_or]
  cases p
  ·simp only [Bool.false_eq_true, if_false]
   exact h1 _
  ·simp only [if_true]
   exact h1 _
 ·simp only [if_true, Bool.true_or]
  exact h2 _
theorem wal_Check_ev (kd : Int) (l : List S54) (t v c i : Int) (hl : l.length ≤ 140737488351232) (hg : ∀ e ∈ l, goodN e) : Ev (fun k => wal_Check.f k kd l t v c i) (if mayRec kd (prsN l) t v c i = true then 0 else 1) := by
 have h0 := fun p w a b => wal_Check_j0 p w a b kd l t v c i hl hg
 simp only [wal_Check.f, ev_ite]
 unfold mayRec
 by_cases h1 : kd = 1
 ·subst h1
  rw [if_pos rfl, if_pos rfl]
  refine ev_eq (h0 _ _ _ _) ?_
  unfold chkV
  by_cases hz : t = 0 ∧ v = 0 ∧ c = 0 <;> by_cases hi : i = 0 <;> cases batchB (prsN l) <;> simp [hz, hi]
 ·rw [if_neg h1, if_neg h1]
  by_cases h2 : kd = 2
  ·subst h2
   rw [if_pos rfl, if_pos rfl]
   refine ev_eq (h0 _ _ _ _) ?_
   unfold chkV
   rw [prsN_len]
   by_cases hz : l.length = 0 <;> by_cases hi : i = 0 <;> cases mayH t v c <;> simp [hz, hi, Nat.pos_iff_ne_zero]
  ·rw [if_neg h2, if_neg h2]
   refine ev_eq (h0 _ _ _ _) ?_
   unfold chkV
   rw [prsN_len]
   by_cases h3 : kd = 3
   ·subst h3
    rw [if_pos rfl]
    by_cases hl : l.length = 0 <;> by_cases hz : t = 0 ∧ v = 0 ∧ c = 0 <;> by_cases hi : 1 ≤ i ∧ i ≤ 2147483647 <;> simp [hl, hz, hi, Nat.pos_iff_ne_zero] <;> omega
   ·rw [if_neg h3]
    simp [h3]
theorem garnerref24_May_ev (kd : Int) (l : List S54) (t v c i : Int) (hl : l.length ≤ 140737488351232) (hg : ∀ e ∈ l, goodN e) : Ev (fun k => garnerref24_May.f k kd l t v c i) (mayRec kd (prsN l) t v c i) := by
 have hj : ∀ b : Bool, Ev (fun k => garnerref24_May.j0 k b kd l t v c i) (if b = true then false else if kd = 1 then batchB (prsN l) else if kd = 2 then mayH t v c else if kd = 3 then decide (1 ≤ i ∧ i ≤ 2147483647) else false) := by
  intro b
  rw [ev_succ]
  simp only [garnerref24_May.j0, ev_ite, garnerref22_May_ev, Option.bind_some]
  cases b
  ·simp only [Bool.false_eq_true, if_false]
   by_cases h1 : kd = 1
   ·rw [if_pos h1, if_pos h1, ev_bind (garnerref06_Batch_ev l hl hg), ev_some]
   ·rw [if_neg h1, if_neg h1]
    by_cases h2 : kd = 2
    ·rw [if_pos h2, if_pos h2, ev_some]
    ·rw [if_neg h2, if_neg h2]
     by_cases h3 : kd = 3
     ·rw [if_pos h3, if_pos h3]
      by_cases hi : i ≥ 1
      ·rw [if_pos hi, ev_some, decide_eq_decide]
       omega
      ·rw [if_neg hi, ev_some]
       symm
       rw [decide_eq_false_iff_not]
       omega
     ·rw [if_neg h3, if_neg h3, ev_some]
  ·simp only [if_true]
   rw [ev_some]
 have hi : (i != 0) = !decide (i = 0) := by
  rw [Bool.eq_iff_iff]
  simp
 simp only [garnerref24_May.f, ev_ite, nz_is, hi]
 unfold mayRec
 rw [prsN_len]
 by_cases h1 : kd = 1
 ·subst h1
  simp only [if_true, if_neg (show ¬ (1 : Int) = 2 by decide), if_neg (show ¬ (1 : Int) = 3 by decide)]
  by_cases hz : t = 0 ∧ v = 0 ∧ c = 0
  ·rw [if_neg (by simp [hz])]
   refine ev_eq (hj _) ?_
   by_cases hi : i = 0 <;> simp [hz, hi]
  ·rw [if_pos (by rw [decide_eq_false hz]; rfl)]
   refine ev_eq (hj _) ?_
   have hz' : ¬ (t = 0 ∧ v = 0 ∧ c = 0 ∧ i = 0) := fun h => hz ⟨h.1, h.2.1, h.2.2.1⟩
   simp [hz']
 ·rw [if_neg h1, if_neg h1]
  by_cases hl : l.length = 0
  ·rw [if_neg (by omega)]
   by_cases h2 : kd = 2
   ·subst h2
    simp only [if_true, if_neg (show ¬ (2 : Int) = 3 by decide)]
    refine ev_eq (hj _) ?_
    by_cases hi : i = 0 <;> simp [hl, hi]
   ·rw [if_neg h2, if_neg h2]
    by_cases hz : t = 0 ∧ v = 0 ∧ c = 0
    ·rw [if_neg (by simp [hz])]
     by_cases h3 : kd = 3
     ·rw [if_pos h3, if_pos h3]
      refine ev_eq (hj _) ?_
      simp [h1, h2, h3, hl, hz]
     ·rw [if_neg h3, if_neg h3]
      refine ev_eq (hj _) ?_
      simp [h1, h2, h3]
    ·rw [if_pos (by rw [decide_eq_false hz]; rfl)]
     refine ev_eq (hj _) ?_
     have hz' : ¬ (l.length = 0 ∧ t = 0 ∧ v = 0 ∧ c = 0 ∧ 1 ≤ i ∧ i ≤ 2147483647) := fun h => hz ⟨h.2.1, h.2.2.1, h.2.2.2.1⟩
     simp only [hz', decide_false, if_true, ite_self]
  ·rw [if_pos (by omega)]
   refine ev_eq (hj _) ?_
   simp [hl]
def resP (i t : Int) (l : List EntS) (h1 h2 c a : Int) (m : List EntS) (o q : Nat) : OutS := if q = m.length then (i, t, l, h1, h2, c, a, 0) else if i + 1 + o + q ≤ c then (0, 0, [], 0, 0, 0, 0, 11) else if o + m.length > 1000 then (0, 0, [], 0, 0, 0, 0, 7) else (i, t, l.take (o + q) ++ m.drop q, h1, h2, c, a, 0)
theorem ref_Put_l0 {i t : Int} {l : List EntS} {h1 h2 c a : Int} {m : List EntS} {o : Nat} (hir : 0 ≤ i ∧ i ≤ 2147483647) (hl : l.length ≤ 1000) (hml : m.length ≤ 1000000) (hix : ∀ (j : Nat) (h : j < m.length), m[j].f0 = i + 1 + o + j)
 (hL : garnerref23_Last.f i t l h1 h2 c a = some (i + (l.length : Int))) (hT : ∀ (p : Int) (o : Nat), p = i + o → o ≤ l.length → garnerref23_Term.f i t l h1 h2 c a p = some (termR tmS t l o)) : ∀ (d j : Nat), m.length - j = d → j ≤ m.length → o + j ≤ l.length → Ev (fun k => garnerref23_Put.l0 k m (j : Int) i t l h1 h2 c a) (resP i t l h1 h2 c a m o (j + comm tmS (l.drop (o + j)) (m.drop j))) := by
 intro d
 induction d with
 | zero =>
  intro j hd hj hoj
  have e : m.drop j = [] := List.drop_eq_nil_of_le (by omega)
  rw [e, comm_right, Nat.add_zero, ev_succ]
  simp only [garnerref23_Put.l0, ev_ite]
  rw [if_neg (by omega), ev_some]
  show _ = resP i t l h1 h2 c a m o j
  unfold resP
  rw [if_pos (by omega)]
 | succ d ih =>
  intro j hd hj hoj
  have hjl : j < m.length := by omega
  have hx := hix j hjl
  have hw : True → wrap64 ((j : Int) + 1) = ((j + 1 : Nat) : Int) := fun _ => w64 (by omega) (by omega)
  have he : m.drop j = m[j] :: m.drop (j + 1) := List.drop_eq_getElem_cons hjl
  have stop : comm tmS (l.drop (o + j)) (m.drop j) = 0 → Ev (fun k => garnerref23_Put.j2 k m (j : Int) false i t l h1 h2 c a) (resP i t l h1 h2 c a m o (j + comm tmS (l.drop (o + j)) (m.drop j))) := by
   intro hz
   rw [hz, Nat.add_zero, ev_succ]
   clear hz
   have w1 : True → wrap64 (wrap64 (m[j].f0 - i) - 1) = ((o + j : Nat) : Int) := by
    intro _
    rw [hx, w64 (x := i + 1 + (o : Int) + j - i) (by omega) (by omega), w64 (by omega) (by omega)]
    omega
   have w2 : True → wrap64 (wrap64 ((([] : List EntS) ++ l.take (o + j)).length + (m.length : Int)) - j) = ((o + m.length : Nat) : Int) := by
    intro _
    rw [List.nil_append, List.length_take, w64 (x := ((min (o + j) l.length : Nat) : Int) + (m.length : Int)) (by omega) (by omega), w64 (by omega) (by omega)]
    omega
   simp only [garnerref23_Put.j2, ev_ite, Bool.false_eq_true, if_false]
   rw [if_pos (by omega), if_pos (by omega), rdE_get hjl]
   by_cases c1 : m[j].f0 ≤ c
   ·have e : resP i t l h1 h2 c a m o j = (0, 0, [], 0, 0, 0, 0, 11) := by
     unfold resP
     rw [if_neg (show ¬ j = m.length by omega), if_pos (by omega)]
    rw [e, if_pos c1, ev_some]
   ·rw [if_neg c1, ev_bind_c rfl, ev_ite, w1 trivial, if_pos (by omega), ev_ite, if_pos (by omega), Int.toNat_natCast, ev_bind_c rfl, ev_ite, if_pos (by rw [List.length_nil, List.length_take]; omega), ev_bind_c rfl, ev_ite, w2 trivial]
    by_cases c2 : o + m.length > 1000
    ·have e : resP i t l h1 h2 c a m o j = (0, 0, [], 0, 0, 0, 0, 7) := by
      unfold resP
      rw [if_neg (show ¬ j = m.length by omega), if_neg (by omega), if_pos c2]
     rw [e, if_pos (by omega), ev_some]
    ·have e : resP i t l h1 h2 c a m o j = (i, t, l.take (o + j) ++ m.drop j, h1, h2, c, a, 0) := by
      unfold resP
      rw [if_neg (show ¬ j = m.length by omega), if_neg (by omega), if_neg c2]
     rw [e, if_neg (by omega), ev_ite, if_pos (by omega), Int.toNat_natCast, ev_bind_c rfl, ev_ite, if_pos (by rw [List.nil_append, List.length_take, List.length_drop]; omega), ev_some, List.nil_append]
  rw [ev_succ]
  simp only [garnerref23_Put.l0, ev_ite, hL, Option.bind_some, rdE_get hjl]
  rw [if_pos (by omega), if_pos (by omega)]
  by_cases c1 : m[j].f0 ≤ i + (l.length : Int)
  ·have hq : o + j < l.length := by omega
   have hz : l.drop (o + j) = l[o + j] :: l.drop (o + j + 1) := List.drop_eq_getElem_cons hq
   rw [if_pos c1, ev_bind_c (hT m[j].f0 (o + j + 1) (by omega) (by omega)), termR_pos _ _ (by omega) (by omega)]
   have e1 : l[o + j + 1 - 1]'(by omega) = l[o + j] := by congr 1
   rw [e1]
   by_cases c2 : tmS l[o + j] = m[j].f1
   ·have hcm : True → comm tmS (l.drop (o + j)) (m.drop j) = comm tmS (l.drop (o + (j + 1))) (m.drop (j + 1)) + 1 := by
     intro _
     rw [hz, he, comm, if_pos c2]
     rfl
    rw [show (tmS l[o + j] == m[j].f1) = true from beq_iff_eq.mpr c2, ev_succ]
    simp only [garnerref23_Put.j2, ev_ite, hw trivial]
    rw [if_pos (by trivial)]
    refine ev_eq (ih (j + 1) (by omega) (by omega) (by omega)) ?_
    rw [hcm trivial]
    congr 1
    generalize comm tmS (l.drop (o + (j + 1))) (m.drop (j + 1)) = q
    omega
   ·rw [show (tmS l[o + j] == m[j].f1) = false from beq_eq_false_iff_ne.mpr c2]
    refine stop ?_
    rw [hz, he, comm, if_neg c2]
  ·rw [if_neg c1]
   refine stop ?_
   rw [List.drop_eq_nil_of_le (by omega), comm_nil]
theorem garnerref23_Put_ev {i t : Int} {l : List EntS} {h1 h2 c a : Int} {m : List EntS} (hc : CheckS i t l h1 h2 c a) (hr : RowsS m) (hm0 : 0 < m.length) (hml : m.length ≤ 1000000) :
 ∃ out : OutS, Ev (fun k => garnerref23_Put.f k i t l h1 h2 c a m) out ∧ (∀ o, OkS i t l h1 h2 c a m o → out = (i, t, putL tmS l m o, h1, h2, c, a, 0)) ∧ (out.2.2.2.2.2.2.2 = 0 → ∃ o, OkS i t l h1 h2 c a m o) := by
 have hl : l.length ≤ 1000 := hc.2.1
 have hir : 0 ≤ i ∧ i ≤ 2147483647 := by have := hc.1; omega
 have hmr := hr.1 0 hm0
 simp only [ixS, tmS] at hmr
 have no : ∀ (P : Nat → Option OutS) (e : Int), e ≠ 0 → (∀ o, ¬ OkS i t l h1 h2 c a m o) → Ev P (0, 0, [], 0, 0, 0, 0, e) → ∃ out : OutS, Ev P out ∧ (∀ o, OkS i t l h1 h2 c a m o → out = (i, t, putL tmS l m o, h1, h2, c, a, 0)) ∧ (out.2.2.2.2.2.2.2 = 0 → ∃ o, OkS i t l h1 h2 c a m o) :=
  fun P e he hn hP => ⟨_, hP, fun o ho => absurd ho (hn o), fun h => absurd h he⟩
 have hL : garnerref23_Last.f i t l h1 h2 c a = some (i + (l.length : Int)) := by
  simp only [garnerref23_Last.f]
  rw [w64 (by omega) (by omega)]
 have hT : ∀ (p : Int) (o : Nat), p = i + o → o ≤ l.length → garnerref23_Term.f i t l h1 h2 c a p = some (termR tmS t l o) := by
  intro p o hp ho
  simp only [garnerref23_Term.f]
  by_cases h0 : o = 0
  ·subst h0
   rw [if_pos (by omega), termR_zero]
  ·have w1 : wrap64 (wrap64 (p - i) - 1) = ((o - 1 : Nat) : Int) := by
    rw [w64 (x := p - i) (by omega) (by omega), w64 (by omega) (by omega)]
    omega
   rw [if_neg (by omega), w1, if_pos (by omega), if_pos (by omega), rdE_get (by omega), termR_pos _ _ (by omega) ho]
 have e0 : rd_T54 m 0 = m[0] := rdE_get hm0
 have ne : ¬ ((m.length : Int) = 0) := by omega
 simp only [garnerref23_Put.f, ev_ite, if_neg ne]
 have hrows := garnerref23_Rows_ev (l := m) (by omega) hr
 have key : ∃ out : OutS, Ev (fun k => garnerref23_Put.j0 k m false i t l h1 h2 c a) out ∧ (∀ o, OkS i t l h1 h2 c a m o → out = (i, t, putL tmS l m o, h1, h2, c, a, 0)) ∧ (out.2.2.2.2.2.2.2 = 0 → ∃ o, OkS i t l h1 h2 c a m o) := by
  by_cases b1 : m[0].f0 ≤ i
  ·refine no _ 4 (by decide) ?_ ?_
   ·rintro o ⟨_, _, ⟨_, hi0, _⟩, _⟩
    simp only [ixS] at hi0
    omega
   ·rw [ev_succ]
    simp only [garnerref23_Put.j0, ev_ite, e0]
    rw [if_neg (by decide), if_pos (by omega), if_pos b1, ev_some]
  ·have wm : True → wrap64 (m[0].f0 - 1) = m[0].f0 - 1 := fun _ => w64 (by omega) (by omega)
   by_cases b2 : m[0].f0 - 1 > i + (l.length : Int)
   ·refine no _ 5 (by decide) ?_ ?_
    ·rintro o ⟨_, _, ⟨_, hi0, _⟩, ho, _⟩
     simp only [ixS] at hi0
     omega
    ·rw [ev_succ]
     simp only [garnerref23_Put.j0, ev_ite, e0, hL, Option.bind_some, wm trivial]
     rw [if_neg (by decide), if_pos (by omega), if_neg b1, if_pos b2, ev_some]
   ·obtain ⟨o, ho⟩ : ∃ o : Nat, m[0].f0 = i + 1 + o := ⟨(m[0].f0 - i - 1).toNat, by omega⟩
    have hol : o ≤ l.length := by omega
    have hix : ∀ (j : Nat) (h : j < m.length), m[j].f0 = i + 1 + o + j := by
     intro j h
     have := rows_ix hr j h
     simp only [ixS] at this
     omega
    by_cases b3 : m[0].f1 < termR tmS t l o
    ·refine no _ 1 (by decide) ?_ ?_
     ·rintro o' ⟨_, _, ⟨_, hi0, ht0⟩, ho', _⟩
      simp only [ixS] at hi0
      obtain rfl : o' = o := by omega
      simp only [tmS] at ht0 b3
      omega
     ·rw [ev_succ]
      simp only [garnerref23_Put.j0, ev_ite, e0, hL, Option.bind_some, wm trivial, hT (m[0].f0 - 1) o (by omega) hol]
      rw [if_neg (by decide), if_pos (by omega), if_neg b1, if_neg b2, if_pos b3, ev_some]
    ·have b3h : True → ¬ m[0].f1 < termR tmS t l o := fun _ => b3
     clear b3
     have main := ref_Put_l0 hir hl hml hix hL hT
     have h0 := main (m.length - 0) 0 rfl (by omega) (by omega)
     simp only [Nat.zero_add, Nat.add_zero, List.drop_zero] at h0
     refine ⟨resP i t l h1 h2 c a m o (comm tmS (l.drop o) m), ?_, ?_, ?_⟩
     ·rw [ev_succ]
      simp only [garnerref23_Put.j0, ev_ite, e0, hL, Option.bind_some, wm trivial, hT (m[0].f0 - 1) o (by omega) hol]
      rw [if_neg (by decide), if_pos (by omega), if_neg b1, if_neg b2, if_neg (b3h trivial)]
      exact h0
     ·rintro o' ⟨_, _, ⟨_, hi0, _⟩, ho', hcase⟩
      simp only [ixS] at hi0
      obtain rfl : o' = o := by omega
      unfold resP
      unfold putL
      generalize comm tmS (l.drop o') m = q at hcase ⊢
      by_cases q1 : q = m.length
      ·rw [if_pos q1, if_pos q1]
      ·rcases hcase with h | ⟨h, h'⟩
       ·exact absurd h q1
       ·rw [if_neg q1, if_neg q1, if_neg (by omega), if_neg (by omega)]
     ·intro h
      refine ⟨o, hc, hr, ⟨hm0, by simp only [ixS]; omega, by have b3 := b3h trivial; simp only [tmS] at b3 ⊢; exact Int.not_lt.1 b3⟩, hol, ?_⟩
      clear h0 main
      generalize comm tmS (l.drop o) m = q at h ⊢
      by_cases q1 : q = m.length
      ·exact .inl q1
      ·unfold resP at h
       rw [if_neg q1] at h
       by_cases q2 : i + 1 + o + (q : Int) ≤ c
       ·rw [if_pos q2] at h
        exact absurd h (by decide)
       ·rw [if_neg q2] at h
        by_cases q3 : o + m.length > 1000
        ·rw [if_pos q3] at h
         exact absurd h (by decide)
        ·exact .inr ⟨by omega, by omega⟩
 obtain ⟨out, ho1, ho2⟩ := key
 refine ⟨out, ?_, ho2⟩
 rw [ev_bind hrows]
 exact ho1
theorem goodR_of {l : List EntS} (h : ∀ e ∈ l, goodN e) : ∀ e ∈ l, goodR e := fun e he => by
 have := h e he
 exact ⟨this.1, by have := this.2.2.2.1; omega⟩
theorem batch_rowsS : ∀ {l : List EntS} {p : Option (Int × Int)}, batchFrom p (prsN l) = true → RowsS l := by
 intro l
 induction l with
 | nil => intro p _; exact ⟨fun j h => absurd h (by simp), fun j h => absurd h (by simp)⟩
 | cons x l ih =>
  intro p h
  have hm := batchFrom_mem h
  have hx := (mayN_iff.1 (hm (prN x) (by simp [prsN]))).1
  have hr : batchFrom (some (x.f0, x.f1)) (prsN l) = true := by
   cases p with
   | none =>
    have : (mayN (prN x) && batchFrom (some (x.f0, x.f1)) (prsN l)) = true := h
    rw [Bool.and_eq_true] at this
    exact this.2
   | some q =>
    obtain ⟨a, b⟩ := q
    have : (mayN (prN x) && (decide (x.f0 = a + 1 ∧ b ≤ x.f1) && batchFrom (some (x.f0, x.f1)) (prsN l))) = true := h
    rw [Bool.and_eq_true, Bool.and_eq_true] at this
    exact this.2.2
  obtain ⟨r1, r2⟩ := ih hr
  refine ⟨?_, ?_⟩
  ·intro j hj
   cases j with
   | zero => exact ⟨hx.1, hx.2.1, hx.2.2.1, hx.2.2.2.1⟩
   | succ j => exact r1 j (by simpa using hj)
  ·intro j hj
   cases j with
   | zero =>
    cases l with
    | nil => exact absurd hj (by simp)
    | cons y l =>
     have : (mayN (prN y) && (decide (y.f0 = x.f0 + 1 ∧ x.f1 ≤ y.f1) && batchFrom (some (y.f0, y.f1)) (prsN l))) = true := hr
     rw [Bool.and_eq_true, Bool.and_eq_true, decide_eq_true_eq] at this
     exact this.2.1
   | succ j => exact r2 j (by simpa using hj)
theorem both_do {i t : Int} {l : List EntS} {h1 h2 c a : Int} (hc : CheckS i t l h1 h2 c a) (hg : ∀ e ∈ l, goodR e ∧ e.f4.f1.length ≤ maxLen) (kd : Int) (m : List EntS) (x y z n : Int) (hgm : ∀ e ∈ m, goodN e) (hm : mayRec kd (prsN m) x y z n = true) :
 ∃ o o' : OutS, Ev (fun k => wal_do.f k i t l h1 h2 c a kd m x y z n) o ∧ Ev (fun k => garnerref24_do.f k i t l h1 h2 c a kd m x y z n) o' ∧ (o.2.2.2.2.2.2.2 = 0 ↔ o'.2.2.2.2.2.2.2 = 0) ∧ (o.2.2.2.2.2.2.2 = 0 → o = o' ∧ CheckS o.1 o.2.1 o.2.2.1 o.2.2.2.1 o.2.2.2.2.1 o.2.2.2.2.2.1 o.2.2.2.2.2.2.1 ∧ ∀ e ∈ o.2.2.1, goodR e ∧ e.f4.f1.length ≤ maxLen) := by
 have hl : l.length ≤ 1000 := hc.2.1
 have hir : 0 ≤ i ∧ i ≤ 2147483647 := by have := hc.1; omega
 have hgR : ∀ e ∈ l, goodR e := fun e he => (hg e he).1
 unfold mayRec at hm
 simp only [wal_do.f, garnerref24_do.f, ev_ite]
 by_cases k1 : kd = 1
 ·rw [if_pos k1, Bool.and_eq_true] at hm
  obtain ⟨hb1, hb2⟩ := batchB_iff.1 hm.2
  rw [prsN_len] at hb1
  have hr := batch_rowsS hb2
  obtain ⟨o, p1, p2, p3⟩ := raft_Put_ev i t l h1 h2 c a m (by omega) hgR (by omega) (goodR_of hgm) (by omega)
  obtain ⟨o', q1, q2, q3⟩ := garnerref23_Put_ev (m := m) hc hr (by omega) (by omega)
  simp only [if_pos k1]
  refine ⟨o, o', by rw [ev_bind p1, ev_some], by rw [ev_bind q1, ev_some], ?_, ?_⟩
  ·constructor
   ·intro h
    obtain ⟨w, hw⟩ := p3 h
    rw [q2 w hw]
   ·intro h
    obtain ⟨w, hw⟩ := q3 h
    rw [p2 w hw]
  ·intro h
   obtain ⟨w, hw⟩ := p3 h
   rw [p2 w hw, q2 w hw]
   refine ⟨rfl, put_check hw, fun e he => ?_⟩
   rcases putL_mem he with h | h
   ·exact hg e h
   ·refine ⟨goodR_of hgm e h, ?_⟩
    have := (hgm e h).2.2.2.1
    unfold maxLen
    omega
 ·simp only [if_neg k1]
  by_cases k2 : kd = 2
  ·obtain ⟨o, p1, p2, p3⟩ := both_Vote hc hg x y z
   simp only [if_pos k2]
   refine ⟨o, o, by rw [ev_bind p1, ev_some], by rw [ev_bind p2, ev_some], Iff.rfl, ?_⟩
   intro h
   have hv := ev_inj p1 (raft_Vote_ev hc hgR x y z)
   by_cases hs : stepH h1 h2 c x y z (i + l.length) = 0
   ·rw [if_pos hs] at hv
    rw [hv]
    refine ⟨rfl, ?_, hg⟩
    obtain ⟨g1, g2, g3, g4, g5, g6, g7, g8⟩ := hc
    unfold stepH at hs
    by_cases s1 : mayH h1 h2 c = false ∨ mayH x y z = false
    ·rw [if_pos s1] at hs; exact absurd hs (by decide)
    ·rw [if_neg s1] at hs
     by_cases s2 : x < h1 ∨ z < c ∨ (x = h1 ∧ h2 ≠ 0 ∧ y ≠ h2)
     ·rw [if_pos s2] at hs; exact absurd hs (by decide)
     ·rw [if_neg s2] at hs
      by_cases s3 : i + (l.length : Int) < z
      ·rw [if_pos s3] at hs; exact absurd hs (by decide)
      ·exact ⟨g1, g2, g3, by simpa using fun e => s1 (.inr e), g5, g6, (by show a ≤ z; omega), (by show z ≤ i + (l.length : Int); omega)⟩
   ·rw [if_neg hs] at hv
    rw [hv] at h
    exact absurd h hs
  ·obtain ⟨o, L, p1, p2, p3, p4⟩ := both_Apply hc hg n
   simp only [if_neg k2]
   refine ⟨o, o, by rw [ev_bind p1, ev_some], by rw [ev_bind p2, ev_some], Iff.rfl, ?_⟩
   intro h
   have hv := ev_inj p1 (raft_Apply_ev hc hgR n)
   by_cases b1 : n < a
   ·rw [if_pos b1] at hv
    simp only [Prod.mk.injEq] at hv
    exact absurd h (by rw [hv.2.2.2.2.2.2.2.2]; decide)
   ·rw [if_neg b1] at hv
    by_cases b2 : n > c
    ·rw [if_pos b2] at hv
     simp only [Prod.mk.injEq] at hv
     exact absurd h (by rw [hv.2.2.2.2.2.2.2.2]; decide)
    ·rw [if_neg b2] at hv
     simp only [Prod.mk.injEq] at hv
     obtain ⟨e1, e2, e3, e4, e5, e6, e7, e8, e9⟩ := hv
     refine ⟨rfl, ?_, by rw [e3]; exact hg⟩
     rw [e1, e2, e3, e4, e5, e6, e7]
     obtain ⟨g1, g2, g3, g4, g5, g6, g7, g8⟩ := hc
     exact ⟨g1, g2, g3, g4, g5, by omega, by omega, g8⟩
abbrev RecS := S34
def mayS (x : RecS) : Bool := mayRec x.f0 (prsN x.f1) x.f2.f0 x.f2.f1 x.f2.f2 x.f3
theorem rdX_get {l : List RecS} {i : Nat} (h : i < l.length) : rd_T34 l (i : Int) = l[i] := by
 simp [rd_T34, h]
theorem dropX_eq {l : List RecS} {i : Nat} (h : i < l.length) : l.drop i = l[i] :: l.drop (i + 1) := List.drop_eq_getElem_cons h
def fineL (L : List RecS) : Prop := L.length ≤ 140737488351232 ∧ ∀ x ∈ L, x.f1.length ≤ 140737488351232 ∧ ∀ e ∈ x.f1, goodN e
theorem light_tot {L : List RecS} (hL : fineL L) : ∃ b, Ev (fun k => garnerlaw24_Light.f k L) b := by
 have hLl := hL.1
 have main : ∀ (d j : Nat), L.length - j = d → j ≤ L.length → ∃ b, Ev (fun k => garnerlaw24_Light.l0 k L (j : Int)) b := by
  intro d
  induction d with
  | zero =>
   intro j hd hj
   refine ⟨decide ((L.length : Int) ≤ 60), ?_⟩
   rw [ev_succ]
   simp only [garnerlaw24_Light.l0, ev_ite]
   rw [if_neg (by omega), ev_succ]
   simp only [garnerlaw24_Light.j1, ev_ite]
   rw [if_neg (by decide), ev_some]
  | succ d ih =>
   intro j hd hj
   have hjl : j < L.length := by omega
   have hw : True → wrap64 ((j : Int) + 1) = ((j + 1 : Nat) : Int) := fun _ => w64 (by omega) (by omega)
   obtain ⟨b, hb⟩ := ih (j + 1) (by omega) (by omega)
   have hx := garnerlaw06_Light_ev L[j].f1 (hL.2 _ (List.getElem_mem hjl)).1
   by_cases c1 : (j : Int) ≤ 60
   ·cases hq : lightN (prsN L[j].f1) with
    | true =>
     refine ⟨b, ?_⟩
     rw [ev_succ]
     simp only [garnerlaw24_Light.l0, ev_ite]
     rw [if_pos (by omega), ev_succ]
     simp only [garnerlaw24_Light.j1, ev_ite, hw trivial, rdX_get hjl]
     rw [if_pos (decide_eq_true c1), if_pos (by omega), if_pos (by omega), ev_bind hx, hq, ev_ite, if_pos (by trivial)]
     exact hb
    | false =>
     refine ⟨false, ?_⟩
     rw [ev_succ]
     simp only [garnerlaw24_Light.l0, ev_ite]
     rw [if_pos (by omega), ev_succ]
     simp only [garnerlaw24_Light.j1, ev_ite, hw trivial, rdX_get hjl]
     rw [if_pos (decide_eq_true c1), if_pos (by omega), if_pos (by omega), ev_bind hx, hq, ev_ite, if_neg (by decide), ev_some]
   ·refine ⟨decide ((L.length : Int) ≤ 60), ?_⟩
    rw [ev_succ]
    simp only [garnerlaw24_Light.l0, ev_ite]
    rw [if_pos (by omega), ev_succ]
    simp only [garnerlaw24_Light.j1, ev_ite]
    rw [if_neg (by simpa using c1), ev_some]
 exact main (L.length - 0) 0 rfl (by omega)
theorem contains_ev {L : List RecS} (hL : fineL L) : Ev (fun k => slices_ContainsFunc_api_Rec.f k L) (!(L.all mayS)) := by
 have hLl := hL.1
 have main : ∀ (d j : Nat), L.length - j = d → j ≤ L.length → ∃ r : Int, Ev (fun k => slices_IndexFunc_api_Rec.l0 k L (L.length : Int) (j : Int)) r ∧ (decide (r ≥ 0) = !((L.drop j).all mayS)) := by
  intro d
  induction d with
  | zero =>
   intro j hd hj
   refine ⟨-1, ?_, ?_⟩
   ·rw [ev_succ]
    simp only [slices_IndexFunc_api_Rec.l0, ev_ite]
    rw [if_neg (by omega), ev_some]
   ·rw [List.drop_eq_nil_of_le (by omega)]
    rfl
  | succ d ih =>
   intro j hd hj
   have hjl : j < L.length := by omega
   have hw : True → wrap64 ((j : Int) + 1) = ((j + 1 : Nat) : Int) := fun _ => w64 (by omega) (by omega)
   obtain ⟨h1, h2⟩ := hL.2 _ (List.getElem_mem hjl)
   have hc : Ev (fun k => wal_Make_1.f k L[j].f0 L[j].f1 L[j].f2.f0 L[j].f2.f1 L[j].f2.f2 L[j].f3) (!mayS L[j]) := by
    simp only [wal_Make_1.f]
    rw [ev_bind (wal_Check_ev _ _ _ _ _ _ h1 h2), ev_some]
    unfold mayS
    cases mayRec L[j].f0 (prsN L[j].f1) L[j].f2.f0 L[j].f2.f1 L[j].f2.f2 L[j].f3 <;> rfl
   rw [dropX_eq hjl, List.all_cons]
   cases hm : mayS L[j] with
   | true =>
    obtain ⟨r, hr, hr2⟩ := ih (j + 1) (by omega) (by omega)
    refine ⟨r, ?_, by rw [Bool.true_and]; exact hr2⟩
    rw [ev_succ]
    simp only [slices_IndexFunc_api_Rec.l0, ev_ite, hw trivial, rdX_get hjl]
    rw [if_pos (by omega), if_pos (by omega), if_pos (by omega), ev_bind hc, hm, ev_ite, if_neg (by decide)]
    exact hr
   | false =>
    refine ⟨(j : Int), ?_, ?_⟩
    ·rw [ev_succ]
     simp only [slices_IndexFunc_api_Rec.l0, ev_ite, hw trivial, rdX_get hjl]
     rw [if_pos (by omega), if_pos (by omega), if_pos (by omega), ev_bind hc, hm, ev_ite, if_pos (by decide), ev_some]
    ·rw [Bool.false_and, Bool.not_false]
     exact decide_eq_true (by omega)
 obtain ⟨r, hr, hr2⟩ := main (L.length - 0) 0 rfl (by omega)
 simp only [slices_ContainsFunc_api_Rec.f, slices_IndexFunc_api_Rec.f]
 rw [ev_bind (show Ev (fun k => slices_IndexFunc_api_Rec.l0 k L (L.length : Int) 0) r from hr), ev_some, hr2, List.drop_zero]
theorem base_ev {i t : Int} {l : List EntS} {h1 h2 c a : Int} (hl : l.length ≤ 140737488351232) (hg : ∀ e ∈ l, goodR e) : ∃ b, Ev (fun k => garnerref24_Base.f k i t l h1 h2 c a) b ∧ (b = true ↔ CheckS i t l h1 h2 c a ∧ l = []) := by
 by_cases hc : CheckS i t l h1 h2 c a
 ·refine ⟨(l.length : Int) == 0, ?_, ?_⟩
  ·simp only [garnerref24_Base.f]
   rw [ev_bind (garnerref23_May_yes hc), ev_ite, if_pos (by trivial), ev_some]
  ·rw [beq_iff_eq]
   constructor
   ·intro h
    exact ⟨hc, List.length_eq_zero_iff.1 (by omega)⟩
   ·rintro ⟨_, rfl⟩
    rfl
 ·refine ⟨false, ?_, ?_⟩
  ·simp only [garnerref24_Base.f]
   rw [ev_bind (ref_May_no hl hg hc), ev_ite, if_neg (by decide), ev_some]
  ·constructor
   ·intro h
    exact absurd h (by decide)
   ·rintro ⟨h, _⟩
    exact absurd h hc
theorem both_loop {L : List RecS} (hL : fineL L) (hm : ∀ x ∈ L, mayS x = true) : ∀ (d j : Nat), L.length - j = d → j ≤ L.length → ∀ (i t : Int) (l : List EntS) (h1 h2 c a : Int), CheckS i t l h1 h2 c a → (∀ e ∈ l, goodR e ∧ e.f4.f1.length ≤ maxLen) →
 ∃ O : OutS, Ev (fun k => wal_Make.l0 k L L (L.length : Int) (j : Int) i t l h1 h2 c a) (O.1, O.2.1, O.2.2.1, O.2.2.2.1, O.2.2.2.2.1, O.2.2.2.2.2.1, O.2.2.2.2.2.2.1, O.2.2.2.2.2.2.2, 0) ∧ Ev (fun k => garnerref24_Make.l0 k L (j : Int) i t l h1 h2 c a) O ∧ CheckS O.1 O.2.1 O.2.2.1 O.2.2.2.1 O.2.2.2.2.1 O.2.2.2.2.2.1 O.2.2.2.2.2.2.1 ∧ ∀ e ∈ O.2.2.1, goodR e ∧ e.f4.f1.length ≤ maxLen := by
 have hLl := hL.1
 intro d
 induction d with
 | zero =>
  intro j hd hj i t l h1 h2 c a hc hg
  refine ⟨(i, t, l, h1, h2, c, a, (L.length : Int)), ?_, ?_, hc, hg⟩
  ·rw [ev_succ]
   simp only [wal_Make.l0, ev_ite]
   rw [if_neg (by omega), ev_some]
  ·rw [ev_succ]
   simp only [garnerref24_Make.l0, ev_ite]
   rw [if_neg (by omega), ev_some]
 | succ d ih =>
  intro j hd hj i t l h1 h2 c a hc hg
  have hjl : j < L.length := by omega
  have hw : True → wrap64 ((j : Int) + 1) = ((j + 1 : Nat) : Int) := fun _ => w64 (by omega) (by omega)
  have hx := hL.2 _ (List.getElem_mem hjl)
  obtain ⟨o, o', p, p', hiff, hok⟩ := both_do hc hg L[j].f0 L[j].f1 L[j].f2.f0 L[j].f2.f1 L[j].f2.f2 L[j].f3 hx.2 (hm _ (List.getElem_mem hjl))
  by_cases he : o.2.2.2.2.2.2.2 = 0
  ·obtain ⟨rfl, hc', hg'⟩ := hok he
   obtain ⟨O, q1, q2, q3⟩ := ih (j + 1) (by omega) (by omega) _ _ _ _ _ _ _ hc' hg'
   refine ⟨O, ?_, ?_, q3⟩
   ·rw [ev_succ]
    simp only [wal_Make.l0, ev_ite, hw trivial, rdX_get hjl]
    rw [if_pos (by omega), if_pos (by omega), if_pos (by omega), ev_bind p, ev_ite, if_pos he]
    exact q1
   ·rw [ev_succ]
    simp only [garnerref24_Make.l0, ev_ite, hw trivial, rdX_get hjl]
    rw [if_pos (by omega), if_pos (by omega), ev_bind p', ev_ite, if_pos he]
    exact q2
  ·have he' : ¬ o'.2.2.2.2.2.2.2 = 0 := fun h => he (hiff.2 h)
   refine ⟨(i, t, l, h1, h2, c, a, (j : Int)), ?_, ?_, hc, hg⟩
   ·rw [ev_succ]
    simp only [wal_Make.l0, ev_ite, rdX_get hjl]
    rw [if_pos (by omega), if_pos (by omega), if_pos (by omega), ev_bind p, ev_ite, if_neg he, ev_some]
   ·rw [ev_succ]
    simp only [garnerref24_Make.l0, ev_ite, rdX_get hjl]
    rw [if_pos (by omega), if_pos (by omega), ev_bind p', ev_ite, if_neg he', ev_some]
theorem may_loop {L : List RecS} (hL : fineL L) (i t : Int) (l : List EntS) (h1 h2 c a : Int) (R : Bool) : ∀ (d j : Nat) (b : Bool), L.length - j = d → j ≤ L.length → Ev (fun k => garnerlaw24_WalMakes.l0 k L (b && (L.drop j).all mayS) (L.length : Int) i t l h1 h2 c a) R → Ev (fun k => garnerlaw24_WalMakes.l0 k L b (j : Int) i t l h1 h2 c a) R := by
 have hLl := hL.1
 intro d
 induction d with
 | zero =>
  intro j b hd hj h
  obtain rfl : j = L.length := by omega
  rw [List.drop_length, List.all_nil, Bool.and_true] at h
  exact h
 | succ d ih =>
  intro j b hd hj h
  have hjl : j < L.length := by omega
  have hw : True → wrap64 ((j : Int) + 1) = ((j + 1 : Nat) : Int) := fun _ => w64 (by omega) (by omega)
  obtain ⟨h3, h4⟩ := hL.2 _ (List.getElem_mem hjl)
  rw [dropX_eq hjl, List.all_cons] at h
  rw [ev_succ]
  simp only [garnerlaw24_WalMakes.l0, ev_ite, hw trivial, rdX_get hjl]
  rw [if_pos (by omega)]
  cases b with
  | true =>
   rw [if_pos (by trivial), if_pos (by omega), ev_bind (garnerref24_May_ev _ _ _ _ _ _ h3 h4)]
   refine ih (j + 1) _ (by omega) (by omega) ?_
   rw [Bool.true_and] at h
   exact h
  | false =>
   rw [if_neg (by decide)]
   refine ih (j + 1) _ (by omega) (by omega) ?_
   rw [Bool.false_and] at h
   rw [Bool.false_and]
   exact h
theorem WalMakes : StWalMakes.Pure := by
 intro i t l h1 h2 c a L hi ht hl hl2 hg0 hh1 hh2 hc0 ha hLm hLl hL0
 have conv : ∀ l : List EntS, (∀ y ∈ l, StWalMakes.g54 y) → ∀ e ∈ l, goodN e := fun l hg0 e he => by
  obtain ⟨h1, h2, h3, h4, h5⟩ := hg0 e he
  obtain ⟨_, ⟨h6, h7, h8⟩, h9⟩ := h5
  obtain ⟨_, _, _, h10⟩ := h9
  have h10 := wf_u32 h10
  exact ⟨wf_i64 h1, wf_i64 h2, h4, by omega, Bytes.of_wf h8, h10.1, by omega⟩
 have hg := conv l hg0
 have hgR := goodR_of hg
 have hir := wf_i64 hi
 have hll : l.length ≤ 140737488351232 := by omega
 have hL : fineL L := ⟨by omega, fun x hx => by
  obtain ⟨_, ⟨_, k2, k3⟩, _⟩ := hL0 x hx
  exact ⟨by omega, conv _ k3⟩⟩
 have fin : Ev (fun k => (garnerlaw24_awake.f k).bind fun t => some t) true := by rw [ev_bind garnerlaw24_awake_ev, ev_some]
 refine Ev.rounds (g := fun k => garnerlaw24_WalMakes.f k i t l h1 h2 c a L) ?_
 have hend : Ev (fun k => garnerlaw24_WalMakes.j0 k L false i t l h1 h2 c a) true := by
  obtain ⟨b, hb, hb2⟩ := base_ev (i := i) (t := t) (l := l) (h1 := h1) (h2 := h2) (c := c) (a := a) hll hgR
  obtain ⟨q, hq, hq2⟩ := raft_Check_ev i t l h1 h2 c a hll hgR hir
  rw [ev_succ]
  simp only [garnerlaw24_WalMakes.j0, ev_ite]
  rw [if_neg (by decide), ev_bind hb]
  refine may_loop hL i t l h1 h2 c a true (L.length - 0) 0 b rfl (by omega) ?_
  rw [List.drop_zero]
  have bad : ∀ f : Nat → Option Bool, (b && L.all mayS) = false → Ev (fun k => wal_Make.f k i t l h1 h2 c a L) (0, 0, [], 0, 0, 0, 0, 0, 1) := by
   intro f hbm
   have j0t : Ev (fun k => wal_Make.j0 k L true i t l h1 h2 c a) (0, 0, [], 0, 0, 0, 0, 0, 1) := by
    rw [ev_succ]
    simp only [wal_Make.j0, ev_ite]
    rw [if_pos (by trivial), ev_some]
   simp only [wal_Make.f]
   rw [ev_bind hq, ev_ite]
   by_cases c1 : q = 0
   ·rw [if_pos c1, ev_ite]
    by_cases c2 : (l.length : Int) > 0
    ·rw [if_pos c2]
     exact j0t
    ·have hlz : l = [] := List.length_eq_zero_iff.1 (by omega)
     have hbt : b = true := hb2.2 ⟨hq2.1 c1, hlz⟩
     rw [hbt, Bool.true_and] at hbm
     rw [if_neg c2, ev_bind (contains_ev hL), hbm]
     exact j0t
   ·rw [if_neg c1]
    exact j0t
  rw [ev_succ]
  simp only [garnerlaw24_WalMakes.l0, ev_ite]
  rw [if_neg (by omega)]
  cases hbm : (b && L.all mayS) with
  | false =>
   rw [ev_bind (bad (fun _ => none) hbm), ev_ite, if_neg (by decide), ev_ite, if_pos (by trivial), ev_ite, if_pos (by trivial), ev_bind (garnerref23_Same_self 0 0 [] 0 0 0 0 (by simp) (fun e he => absurd he List.not_mem_nil)), ev_ite, if_pos (by trivial)]
   exact fin
  | true =>
   rw [Bool.and_eq_true] at hbm
   obtain ⟨hbt, hall⟩ := hbm
   obtain ⟨hc, hlz⟩ := hb2.1 hbt
   have hm : ∀ x ∈ L, mayS x = true := List.all_eq_true.1 hall
   obtain ⟨O, p1, p2, p3, p4⟩ := both_loop hL hm (L.length - 0) 0 rfl (by omega) i t l h1 h2 c a hc (by rw [hlz]; exact fun e he => absurd he List.not_mem_nil)
   have hmake : Ev (fun k => wal_Make.f k i t l h1 h2 c a L) (O.1, O.2.1, O.2.2.1, O.2.2.2.1, O.2.2.2.2.1, O.2.2.2.2.2.1, O.2.2.2.2.2.2.1, O.2.2.2.2.2.2.2, 0) := by
    simp only [wal_Make.f]
    rw [ev_bind hq, ev_ite, if_pos (hq2.2 hc), ev_ite, if_neg (by rw [hlz]; decide), ev_bind (contains_ev hL), hall, ev_succ]
    simp only [wal_Make.j0, ev_ite]
    rw [if_neg (by decide)]
    exact p1
   have hl3 := p3.2.1
   rw [ev_bind hmake, ev_ite, if_pos (by trivial)]
   simp only [garnerref24_Make.f]
   rw [ev_bind (show Ev (fun k => garnerref24_Make.l0 k L 0 i t l h1 h2 c a) O from p2), ev_ite, if_pos (by trivial), ev_ite, if_pos (by trivial), ev_bind (garnerref23_Same_self _ _ _ _ _ _ _ (by omega) (fun e he => (p4 e he).2)), ev_ite, if_pos (by trivial), ev_bind (garnerref23_May_yes p3), ev_ite, if_pos (by trivial)]
   exact fin
 have hend1 : Ev (fun k => garnerlaw24_WalMakes.j0 k L true i t l h1 h2 c a) true := by
  rw [ev_succ]
  simp only [garnerlaw24_WalMakes.j0, ev_ite]
  rw [if_pos (by trivial)]
  exact fin
 obtain ⟨bl, hbl⟩ := light_tot hL
 simp only [garnerlaw24_WalMakes.f]
 rw [ev_bind hbl, ev_ite]
 by_cases c1 : bl = true
 ·rw [if_pos c1, ev_bind (garnerlaw06_Light_ev l hll)]
  cases lightN (prsN l)
  ·exact hend1
  ·exact hend
 ·rw [if_neg c1]
  exact hend1
end Go.Proofs.Ytmcijphmcobjlaa.Pure
