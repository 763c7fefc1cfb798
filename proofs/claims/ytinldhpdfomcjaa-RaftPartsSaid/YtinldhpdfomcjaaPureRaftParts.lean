/- The pure statement of the law RaftParts: what the printed functions answer, each by its plain law, and that the law's answer is true. -/
import Derived.Test.YtinldhpdfomcjaaPRaftPartsx0
import Derived.Test.YtinldhpdfomcjaaPRaftPartsx1
import Derived.Test.YtinldhpdfomcjaaPRaftPartsx2
import Derived.Test.YtinldhpdfomcjaaPRaftPartsx3
import Derived.Test.YtinldhpdfomcjaaPRaftPartsx4
import Derived.Test.YtinldhpdfomcjaaPRaftPartsx5
import Derived.Test.YtinldhpdfomcjaaPRaftPartsx6
import Derived.Test.YtinldhpdfomcjaaPRaftPartsx7
import Derived.Test.YtinldhpdfomcjaaPRaftPartsx8
import Derived.Test.YtinldhpdfomcjaaPRaftPartsx9
import Derived.Test.YtinldhpdfomcjaaPRaftPartsx10
import Derived.Test.YtinldhpdfomcjaaPRaftPartsx11
import Derived.Test.YtinldhpdfomcjaaPRaftPartsx12
import Derived.Test.YtinldhpdfomcjaaPRaftPartsx13
import Derived.Test.YtinldhpdfomcjaaStRaftParts
import Derived.Test.YtinldhpdfomcjaaQSz
import Derived.Test.YtinldhpdfomcjaaQV02
import Derived.Test.YtinldhpdfomcjaaQF06
import Derived.Test.YtinldhpdfomcjaaQF23
import Derived.Test.YtinldhpdfomcjaaQV22
namespace Go.Proofs.Ytinldhpdfomcjaa.Pure
open Go.RowKit Go.Proofs.Ytinldhpdfomcjaa.PRaftParts Go.Proofs.Ytinldhpdfomcjaa.U Go.Proofs.YtinldhpdfomcjaaW.PrintWords Go.Proofs.YtinldhpdfomcjaaW.PrintLast Go.Proofs.YtinldhpdfomcjaaW.PrintMore
set_option linter.unusedVariables false
set_option linter.unusedSimpArgs false
set_option maxRecDepth 4000
def prN (e : S46) : Ent := ⟨e.f0, e.f1, e.f2, e.f3, e.f4.f0, e.f4.f1, e.f4.f2.f0, e.f4.f2.f1, e.f4.f2.f2, e.f4.f2.f3⟩
def prsN (l : List S46) : List Ent := l.map prN
theorem prsN_len (l : List S46) : (prsN l).length = l.length := by simp [prsN]
theorem rdN_get {l : List S46} {i : Nat} (h : i < l.length) : rd_T46 l (i : Int) = l[i] := by
  simp [rd_T46, h]
theorem dropN_eq {l : List S46} {i : Nat} (h : i < l.length) : l.drop i = rd_T46 l (i : Int) :: l.drop (i + 1) := by
  rw [rdN_get h]
  exact List.drop_eq_getElem_cons h
abbrev EntS := S46
abbrev ixS (e : EntS) : Int := e.f0
abbrev tmS (e : EntS) : Int := e.f1
theorem rdE_get {l : List EntS} {i : Nat} (h : i < l.length) : rd_T46 l (i : Int) = l[i] := by
  simp [rd_T46, h]
theorem rdE_drop {l : List EntS} {i : Nat} (h : i < l.length) : l.drop i = rd_T46 l (i : Int) :: l.drop (i + 1) := by
  rw [rdE_get h]
  exact List.drop_eq_getElem_cons h
theorem rdE_mem {l : List EntS} {i : Nat} (h : i < l.length) : rd_T46 l (i : Int) ∈ l := by
  rw [rdE_get h]
  exact List.getElem_mem _
def goodR (e : EntS) : Prop := (-9223372036854775808 ≤ e.f0 ∧ e.f0 ≤ 9223372036854775807) ∧ e.f4.f1.length ≤ 140737488351232
def RowsS (l : List EntS) : Prop := RowsP ixS tmS l
theorem garnerlaw06_Light_ev (l : List S46) (hl : l.length ≤ 140737488351232) : Ev (fun k => garnerlaw06_Light.f k l) (lightN (prsN l)) := by
  have main : ∀ (d i : Nat), l.length - i = d → i ≤ l.length → i ≤ 41 → lightN (prsN l) = (decide (l.length ≤ 40) && (prsN (l.drop i)).all fun e => decide (e.key.size ≤ 200 ∧ e.b.length ≤ 200)) → Ev (fun k => garnerlaw06_Light.l0 k l (i : Int)) (lightN (prsN l)) := by
    intro d
    induction d with
    | zero =>
      intro i hd hi h41 he
      rw [List.drop_eq_nil_of_le (by omega)] at he
      rw [he, ev_succ]
      simp only [garnerlaw06_Light.l0, ev_ite]
      rw [if_neg (by omega), ev_succ]
      simp only [garnerlaw06_Light.j1, ev_ite]
      rw [if_neg (by simp), ev_some]
      have e : (prsN []).all (fun e => decide (e.key.size ≤ 200 ∧ e.b.length ≤ 200)) = true := rfl
      rw [e, Bool.and_true, decide_eq_decide]
      omega
    | succ d ih =>
      intro i hd hi h41 he
      have hil : i < l.length := by omega
      rw [dropN_eq hil] at he
      have hw : wrap64 ((i : Int) + 1) = ((i + 1 : Nat) : Int) := w64 (by omega) (by omega)
      have ih' := ih (i + 1) (by omega) (by omega)
      rw [ev_succ]
      simp only [garnerlaw06_Light.l0, ev_ite]
      rw [if_pos (by omega), ev_succ]
      simp only [garnerlaw06_Light.j1, ev_ite, hw]
      generalize rd_T46 l (i : Int) = f at he ⊢
      have e1 : (prsN (f :: l.drop (i + 1))).all (fun e => decide (e.key.size ≤ 200 ∧ e.b.length ≤ 200)) = (decide (f.f3.size ≤ 200 ∧ f.f4.f1.length ≤ 200) && (prsN (l.drop (i + 1))).all fun e => decide (e.key.size ≤ 200 ∧ e.b.length ≤ 200)) := rfl
      rw [e1] at he
      by_cases h1 : i ≤ 40
      · rw [if_pos (by rw [decide_eq_true_eq]; omega), if_pos (by omega), if_pos (by omega)]
        by_cases h2 : f.f3.size > 200
        · rw [if_pos (by omega), ev_some, he, decide_eq_false (show ¬ (f.f3.size ≤ 200 ∧ f.f4.f1.length ≤ 200) by omega), Bool.false_and, Bool.and_false]
        · rw [if_neg (by omega)]
          by_cases h3 : f.f4.f1.length > 200
          · rw [if_pos (by omega), ev_some, he, decide_eq_false (show ¬ (f.f3.size ≤ 200 ∧ f.f4.f1.length ≤ 200) by omega), Bool.false_and, Bool.and_false]
          · rw [if_neg (by omega)]
            refine ih' (by omega) ?_
            rw [he, decide_eq_true (show f.f3.size ≤ 200 ∧ f.f4.f1.length ≤ 200 by omega), Bool.true_and]
      · rw [if_neg (by rw [decide_eq_true_eq]; omega), ev_some, he, decide_eq_false (show ¬ l.length ≤ 40 by omega), Bool.false_and, decide_eq_false (by omega)]
  refine main (l.length - 0) 0 rfl (by omega) (by omega) ?_
  unfold lightN
  rw [prsN_len, List.drop_zero]
theorem garnerlaw23_Light_ev (a b : Int) (l : List S46) (c d e f : Int) (hl : l.length ≤ 140737488351232) : Ev (fun k => garnerlaw23_Light.f k a b l c d e f) (lightN (prsN l)) := by
  simp only [garnerlaw23_Light.f]
  rw [ev_bind (garnerlaw06_Light_ev l hl), ev_some]
theorem raft_counts_ev (n : Int) : raft_counts.f n = some (decide (1 ≤ n ∧ n ≤ 2147483647)) := by
  unfold raft_counts.f
  split
  · congr 1
    rw [decide_eq_decide]
    omega
  · congr 1
    symm
    rw [decide_eq_false_iff_not]
    omega
theorem raft_rows_ev (l : List EntS) (hl : l.length ≤ 140737488351232) (hg : ∀ e ∈ l, goodR e) : ∃ b, Ev (fun k => raft_rows.f k l) b ∧ (b = true ↔ RowsS l) := by
  have main : ∀ (d j : Nat), l.length - j = d → j ≤ l.length → (∀ q (h : q < j) (h' : q < l.length), 1 ≤ ixS l[q] ∧ ixS l[q] ≤ 2147483647 ∧ 1 ≤ tmS l[q] ∧ tmS l[q] ≤ 2147483647) → (∀ q (h : q + 1 < j) (h' : q + 1 < l.length), ixS l[q + 1] = ixS l[q] + 1 ∧ tmS l[q] ≤ tmS l[q + 1]) →
      ∃ b, Ev (fun k => raft_rows.l0 k l l (l.length : Int) (j : Int)) b ∧ (b = true ↔ RowsS l) := by
    intro d
    induction d with
    | zero =>
      intro j hd hj h1 h2
      refine ⟨true, ?_, ?_⟩
      · rw [ev_succ]
        simp only [raft_rows.l0, ev_ite]
        rw [if_neg (by omega), ev_some]
      · have : RowsS l := ⟨fun q hq => h1 q (by omega) hq, fun q hq => h2 q (by omega) hq⟩
        simp [this]
    | succ d ih =>
      intro j hd hj h1 h2
      have hjl : j < l.length := by omega
      have hgj := hg _ (List.getElem_mem hjl)
      have hw : wrap64 ((j : Int) + 1) = ((j + 1 : Nat) : Int) := w64 (by omega) (by omega)
      have no : ¬ RowsS l → ∃ b, Ev (fun _ => some false) b ∧ (b = true ↔ RowsS l) := fun h => ⟨false, by rw [ev_some], by simp [h]⟩
      have step : (1 ≤ ixS l[j] ∧ ixS l[j] ≤ 2147483647 ∧ 1 ≤ tmS l[j] ∧ tmS l[j] ≤ 2147483647) → (∀ q (h : q + 1 = j), ixS l[j] = ixS (l[q]'(by omega)) + 1 ∧ tmS (l[q]'(by omega)) ≤ tmS l[j]) → ∃ b, Ev (fun k => raft_rows.l0 k l l (l.length : Int) ((j + 1 : Nat) : Int)) b ∧ (b = true ↔ RowsS l) := by
        intro h3 h4
        refine ih (j + 1) (by omega) (by omega) ?_ ?_
        · intro q hq hq'
          by_cases he : q = j
          · subst he; exact h3
          · exact h1 q (by omega) hq'
        · intro q hq hq'
          by_cases he : q + 1 = j
          · have := h4 q he
            simp only [he]
            exact this
          · exact h2 q (by omega) hq'
      have key : ∃ b, Ev (fun k => raft_rows.l0 (k + 1) l l (l.length : Int) (j : Int)) b ∧ (b = true ↔ RowsS l) := by
        simp only [raft_rows.l0, ev_ite, hw, rdE_get hjl]
        by_cases c1 : 1 ≤ l[j].f0 ∧ l[j].f0 ≤ 2147483647
        · by_cases c2 : 1 ≤ l[j].f1 ∧ l[j].f1 ≤ 2147483647
          · by_cases hj0 : j = 0
            · obtain ⟨b, hb, hb2⟩ := step ⟨c1.1, c1.2, c2.1, c2.2⟩ (fun q hq => by omega)
              refine ⟨b, ?_, hb2⟩
              rw [if_pos (by omega), if_pos (by omega), if_pos (by omega), ev_bind_c (raft_counts_ev _), ev_ite, if_pos (by simpa using c1), ev_bind_c (raft_counts_ev _), ev_ite, if_pos (by simpa using c2), ev_ite, if_neg (by omega)]
              exact hb
            · have e : wrap64 ((j : Int) - 1) = ((j - 1 : Nat) : Int) := by
                rw [w64 (by omega) (by omega)]
                omega
              have ej : j - 1 + 1 = j := by omega
              by_cases c3 : l[j].f0 = (l[j - 1]'(by omega)).f0 + 1
              · by_cases c4 : l[j].f1 < (l[j - 1]'(by omega)).f1
                · obtain ⟨b, hb, hb2⟩ := no (fun h => by
                    have := (h.2 (j - 1) (by omega)).2
                    simp only [ixS, tmS, ej] at this
                    omega)
                  refine ⟨b, ?_, hb2⟩
                  rw [if_pos (by omega), if_pos (by omega), if_pos (by omega), ev_bind_c (raft_counts_ev _), ev_ite, if_pos (by simpa using c1), ev_bind_c (raft_counts_ev _), ev_ite, if_pos (by simpa using c2), ev_ite, if_pos (by omega)]
                  simp only [e, ev_ite, rdE_get (show j - 1 < l.length by omega)]
                  rw [if_pos (by omega), if_pos (by omega), w64 (by omega) (by omega), if_pos (by omega), if_pos c4]
                  exact hb
                · obtain ⟨b, hb, hb2⟩ := step ⟨c1.1, c1.2, c2.1, c2.2⟩ (fun q hq => by
                    have eq : q = j - 1 := by omega
                    subst eq
                    exact ⟨c3, by simp only [tmS]; omega⟩)
                  refine ⟨b, ?_, hb2⟩
                  rw [if_pos (by omega), if_pos (by omega), if_pos (by omega), ev_bind_c (raft_counts_ev _), ev_ite, if_pos (by simpa using c1), ev_bind_c (raft_counts_ev _), ev_ite, if_pos (by simpa using c2), ev_ite, if_pos (by omega)]
                  simp only [e, ev_ite, rdE_get (show j - 1 < l.length by omega)]
                  rw [if_pos (by omega), if_pos (by omega), w64 (by omega) (by omega), if_pos (by omega), if_neg c4]
                  exact hb
              · obtain ⟨b, hb, hb2⟩ := no (fun h => by
                  have := (h.2 (j - 1) (by omega)).1
                  simp only [ixS, tmS, ej] at this
                  omega)
                refine ⟨b, ?_, hb2⟩
                rw [if_pos (by omega), if_pos (by omega), if_pos (by omega), ev_bind_c (raft_counts_ev _), ev_ite, if_pos (by simpa using c1), ev_bind_c (raft_counts_ev _), ev_ite, if_pos (by simpa using c2), ev_ite, if_pos (by omega)]
                simp only [e, ev_ite, rdE_get (show j - 1 < l.length by omega)]
                rw [if_pos (by omega), if_pos (by omega), w64 (by omega) (by omega), if_neg (by omega)]
                exact hb
          · obtain ⟨b, hb, hb2⟩ := no (fun h => c2 ⟨(h.1 j hjl).2.2.1, (h.1 j hjl).2.2.2⟩)
            refine ⟨b, ?_, hb2⟩
            rw [if_pos (by omega), if_pos (by omega), if_pos (by omega), ev_bind_c (raft_counts_ev _), ev_ite, if_pos (by simpa using c1), ev_bind_c (raft_counts_ev _), ev_ite, if_neg (by simpa using c2)]
            exact hb
        · obtain ⟨b, hb, hb2⟩ := no (fun h => c1 ⟨(h.1 j hjl).1, (h.1 j hjl).2.1⟩)
          refine ⟨b, ?_, hb2⟩
          rw [if_pos (by omega), if_pos (by omega), if_pos (by omega), ev_bind_c (raft_counts_ev _), ev_ite, if_neg (by simpa using c1)]
          exact hb
      obtain ⟨b, hb, hb2⟩ := key
      exact ⟨b, ev_succ.2 hb, hb2⟩
  exact main (l.length - 0) 0 rfl (by omega) (fun q h => by omega) (fun q h => by omega)
theorem hard_counts_ev (n : Int) : hard_counts.f n = some (decide (0 ≤ n ∧ n ≤ 2147483647)) := by
  unfold hard_counts.f
  by_cases h : n ≥ 0
  · rw [if_pos h]
    simp [h]
  · rw [if_neg h]
    congr 1
    symm
    rw [decide_eq_false_iff_not]
    omega
theorem hard_Check_ev (t v c : Int) : hard_Check.f t v c = some (if mayH t v c = true then 0 else 1) := by
  simp only [hard_Check.f, hard_counts_ev, Option.bind_some, decide_eq_true_eq, mayH_iff]
  repeat' split
  all_goals first | rfl | omega
abbrev CheckS (i t : Int) (l : List EntS) (h1 h2 c a : Int) : Prop := CheckP ixS tmS i t l h1 h2 c a
theorem raft_Check_ev (i t : Int) (l : List EntS) (h1 h2 c a : Int) (hl : l.length ≤ 140737488351232) (hg : ∀ e ∈ l, goodR e) (hi : -9223372036854775808 ≤ i ∧ i ≤ 9223372036854775807) : ∃ r : Int, Ev (fun k => raft_Check.f k i t l h1 h2 c a) r ∧ (r = 0 ↔ CheckS i t l h1 h2 c a) := by
  have no : ∀ P : Nat → Option Int, ¬ CheckS i t l h1 h2 c a → Ev P 1 → ∃ r : Int, Ev P r ∧ (r = 0 ↔ CheckS i t l h1 h2 c a) := fun P h hP => ⟨1, hP, by simp [h]⟩
  have j1t : Ev (fun k => raft_Check.j1 k true i t l h1 h2 c a) 1 := by
    rw [ev_succ]
    simp only [raft_Check.j1, ev_ite]
    rw [if_pos (by trivial), ev_some]
  have j0t : Ev (fun k => raft_Check.j0 k true i t l h1 h2 c a) 1 := by
    rw [ev_succ]
    simp only [raft_Check.j0, ev_ite]
    rw [if_pos (by trivial), ev_some]
  have hin : i ≤ 2147483647 → wrap64 (i + 1) = i + 1 := fun h => w64 (by omega) (by omega)
  have j1f : ((i = 0 ∧ t = 0) ∨ (1 ≤ i ∧ i ≤ 2147483647 ∧ 1 ≤ t ∧ t ≤ 2147483647)) → l.length ≤ 1000 → RowsS l → mayH h1 h2 c = true → (∀ h : 0 < l.length, ixS l[0] = i + 1 ∧ t ≤ tmS l[0]) → ∃ r : Int, Ev (fun k => raft_Check.j1 k false i t l h1 h2 c a) r ∧ (r = 0 ↔ CheckS i t l h1 h2 c a) := by
    intro q1 q2 q3 q4 q5
    by_cases b1 : a < i
    · refine no _ (fun h => by have := h.2.2.2.2.2.1; omega) ?_
      rw [ev_succ]
      simp only [raft_Check.j1, ev_ite]
      rw [if_neg (by simp), if_pos b1, ev_some]
    by_cases b2 : a > c
    · refine no _ (fun h => by have := h.2.2.2.2.2.2.1; omega) ?_
      rw [ev_succ]
      simp only [raft_Check.j1, ev_ite]
      rw [if_neg (by simp), if_neg b1, if_pos b2, ev_some]
    by_cases b3 : c > i + (l.length : Int)
    · refine no _ (fun h => by have := h.2.2.2.2.2.2.2; omega) ?_
      rw [ev_succ]
      simp only [raft_Check.j1, ev_ite]
      rw [if_neg (by simp), if_neg b1, if_neg b2, w64 (by omega) (by omega), if_pos b3, ev_some]
    · refine ⟨0, ?_, ?_⟩
      · rw [ev_succ]
        simp only [raft_Check.j1, ev_ite]
        rw [if_neg (by simp), if_neg b1, if_neg b2, w64 (by omega) (by omega), if_neg b3, ev_some]
      · have : CheckS i t l h1 h2 c a := ⟨q1, q2, q3, q4, q5, by omega, by omega, by omega⟩
        simp [this]
  have j0f : ((i = 0 ∧ t = 0) ∨ (1 ≤ i ∧ i ≤ 2147483647 ∧ 1 ≤ t ∧ t ≤ 2147483647)) → l.length ≤ 1000 → RowsS l → mayH h1 h2 c = true → ∃ r : Int, Ev (fun k => raft_Check.j0 k false i t l h1 h2 c a) r ∧ (r = 0 ↔ CheckS i t l h1 h2 c a) := by
    intro q1 q2 q3 q4
    have hii : wrap64 (i + 1) = i + 1 := hin (by omega)
    by_cases hl0 : 0 < l.length
    · have e0 : rd_T46 l 0 = l[0] := rdE_get hl0
      by_cases b1 : l[0].f0 = i + 1
      · by_cases b2 : l[0].f1 < t
        · refine no _ (fun h => by have := (h.2.2.2.2.1 hl0).2; simp only [tmS] at this; omega) ?_
          rw [ev_succ]
          simp only [raft_Check.j0, ev_ite, e0, hii]
          rw [if_neg (by simp), if_pos (by omega), if_pos (by omega), if_pos b1, decide_eq_true b2]
          exact j1t
        · obtain ⟨r, hr, hr2⟩ := j1f q1 q2 q3 q4 (fun _ => ⟨b1, by simp only [tmS]; omega⟩)
          refine ⟨r, ?_, hr2⟩
          rw [ev_succ]
          simp only [raft_Check.j0, ev_ite, e0, hii]
          rw [if_neg (by simp), if_pos (by omega), if_pos (by omega), if_pos b1, decide_eq_false b2]
          exact hr
      · refine no _ (fun h => b1 (h.2.2.2.2.1 hl0).1) ?_
        rw [ev_succ]
        simp only [raft_Check.j0, ev_ite, e0, hii]
        rw [if_neg (by simp), if_pos (by omega), if_pos (by omega), if_neg b1]
        exact j1t
    · obtain ⟨r, hr, hr2⟩ := j1f q1 q2 q3 q4 (fun h => absurd h hl0)
      refine ⟨r, ?_, hr2⟩
      rw [ev_succ]
      simp only [raft_Check.j0, ev_ite]
      rw [if_neg (by simp), if_neg (by omega)]
      exact hr
  obtain ⟨b, hb, hb2⟩ := raft_rows_ev l hl hg
  have mid : ∀ (P : Nat → Option Int), ((i = 0 ∧ t = 0) ∨ (1 ≤ i ∧ i ≤ 2147483647 ∧ 1 ≤ t ∧ t ≤ 2147483647)) → (∀ r, Ev P r ↔ (if (l.length : Int) > 1000 then Ev (fun k => raft_Check.j0 k true i t l h1 h2 c a) r else Ev (fun k => (raft_rows.f k l).bind fun t116 => (if t116 = true then ((hard_Check.f h1 h2 c).bind fun t117 => (raft_Check.j0 k (t117 != 0) i t l h1 h2 c a)) else (raft_Check.j0 k true i t l h1 h2 c a))) r)) → ∃ r : Int, Ev P r ∧ (r = 0 ↔ CheckS i t l h1 h2 c a) := by
    intro P q1 hP
    by_cases b1 : l.length > 1000
    · refine no _ (fun h => by have := h.2.1; omega) ?_
      rw [hP, if_pos (by omega)]
      exact j0t
    by_cases b2 : RowsS l
    · have hbt : b = true := hb2.2 b2
      by_cases b3 : mayH h1 h2 c = true
      · obtain ⟨r, hr, hr2⟩ := j0f q1 (by omega) b2 b3
        refine ⟨r, ?_, hr2⟩
        rw [hP, if_neg (by omega), ev_bind hb, ev_ite, if_pos hbt, ev_bind_c (hard_Check_ev _ _ _), if_pos b3]
        exact hr
      · refine no _ (fun h => b3 h.2.2.2.1) ?_
        rw [hP, if_neg (by omega), ev_bind hb, ev_ite, if_pos hbt, ev_bind_c (hard_Check_ev _ _ _), if_neg b3]
        exact j0t
    · refine no _ (fun h => b2 h.2.2.1) ?_
      rw [hP, if_neg (by omega), ev_bind hb, ev_ite, if_neg (fun h => b2 (hb2.1 h))]
      exact j0t
  have cnt : ¬ (i = 0 ∧ t = 0) → ∃ r : Int, Ev (fun k => (raft_counts.f i).bind fun t118 => (if t118 = true then ((raft_counts.f t).bind fun t119 => (if t119 = true then (if (l.length : Int) > 1000 then (raft_Check.j0 k true i t l h1 h2 c a) else ((raft_rows.f k l).bind fun t120 => (if t120 = true then ((hard_Check.f h1 h2 c).bind fun t121 => (raft_Check.j0 k (t121 != 0) i t l h1 h2 c a)) else (raft_Check.j0 k true i t l h1 h2 c a)))) else (raft_Check.j0 k true i t l h1 h2 c a))) else (raft_Check.j0 k true i t l h1 h2 c a))) r ∧ (r = 0 ↔ CheckS i t l h1 h2 c a) := by
    intro h0
    by_cases b1 : 1 ≤ i ∧ i ≤ 2147483647
    · by_cases b2 : 1 ≤ t ∧ t ≤ 2147483647
      · refine mid _ (.inr ⟨b1.1, b1.2, b2.1, b2.2⟩) (fun r => ?_)
        rw [ev_bind_c (raft_counts_ev _), ev_ite, if_pos (by simpa using b1), ev_bind_c (raft_counts_ev _), ev_ite, if_pos (by simpa using b2), ev_ite]
      · refine no _ (fun h => by have := h.1; omega) ?_
        rw [ev_bind_c (raft_counts_ev _), ev_ite, if_pos (by simpa using b1), ev_bind_c (raft_counts_ev _), ev_ite, if_neg (by simpa using b2)]
        exact j0t
    · refine no _ (fun h => by have := h.1; omega) ?_
      rw [ev_bind_c (raft_counts_ev _), ev_ite, if_neg (by simpa using b1)]
      exact j0t
  by_cases c1 : i = 0
  · by_cases c2 : t = 0
    · exact mid (fun k => raft_Check.f k i t l h1 h2 c a) (.inl ⟨c1, c2⟩) (fun r => by
        simp only [raft_Check.f, ev_ite]
        rw [if_pos c1, if_pos c2])
    · obtain ⟨r, hr, hr2⟩ := cnt (fun h => c2 h.2)
      refine ⟨r, ?_, hr2⟩
      simp only [raft_Check.f, ev_ite]
      rw [if_pos c1, if_neg c2]
      exact hr
  · obtain ⟨r, hr, hr2⟩ := cnt (fun h => c1 h.1)
    refine ⟨r, ?_, hr2⟩
    simp only [raft_Check.f, ev_ite]
    rw [if_neg c1]
    exact hr
theorem raft_Last_ev (i t : Int) (l : List EntS) (h1 h2 c a : Int) (hl : l.length ≤ 140737488351232) (hg : ∀ e ∈ l, goodR e) (hi : -9223372036854775808 ≤ i ∧ i ≤ 9223372036854775807) : ∃ r : Int × Int, Ev (fun k => raft_Last.f k i t l h1 h2 c a) r ∧ (CheckS i t l h1 h2 c a → r.1 = i + (l.length : Int)) := by
  obtain ⟨q, hq, hq2⟩ := raft_Check_ev i t l h1 h2 c a hl hg hi
  simp only [raft_Last.f]
  by_cases hc : CheckS i t l h1 h2 c a
  · have hq0 := hq2.2 hc
    by_cases hl0 : 0 < l.length
    · have e : wrap64 ((l.length : Int) - 1) = ((l.length - 1 : Nat) : Int) := by
        rw [w64 (by omega) (by omega)]
        omega
      refine ⟨(l[l.length - 1].f0, l[l.length - 1].f1), ?_, fun _ => ?_⟩
      · rw [ev_bind hq, ev_ite, if_pos hq0, ev_ite, if_pos (by omega), ev_ite, e, if_pos (by omega), ev_ite, if_pos (by omega), ev_some, rdE_get (by omega)]
      · have := check_ix hc (l.length - 1) (by omega)
        simp only [ixS] at this
        simp only
        omega
    · refine ⟨(i, t), ?_, fun _ => by simp only; omega⟩
      rw [ev_bind hq, ev_ite, if_pos hq0, ev_ite, if_neg (by omega), ev_some]
  · refine ⟨(0, 0), ?_, fun h => absurd h hc⟩
    rw [ev_bind hq, ev_ite, if_neg (fun h => hc (hq2.1 h)), ev_some]
theorem raft_Term_ev {i t : Int} {l : List EntS} {h1 h2 c a : Int} (hc : CheckS i t l h1 h2 c a) (hg : ∀ e ∈ l, goodR e) {p : Int} {o : Nat} (hp : p = i + o) (ho : o ≤ l.length) : Ev (fun k => raft_Term.f k i t l h1 h2 c a p) (termR tmS t l o, 0) := by
  have hl : l.length ≤ 1000 := hc.2.1
  have hir : 0 ≤ i ∧ i ≤ 2147483647 := by have := hc.1; omega
  obtain ⟨q, hq, hq2⟩ := raft_Check_ev i t l h1 h2 c a (by omega) hg (by omega)
  obtain ⟨r, hr, hr2⟩ := raft_Last_ev i t l h1 h2 c a (by omega) hg (by omega)
  have hr3 := hr2 hc
  simp only [raft_Term.f]
  rw [ev_bind hr, ev_bind hq, ev_ite, if_pos (hq2.2 hc), ev_ite, if_neg (by omega), ev_ite, if_neg (by omega), ev_ite]
  by_cases h0 : o = 0
  · subst h0
    rw [if_pos (by omega), ev_some, termR_zero]
  · have e : wrap64 (wrap64 (p - i) - 1) = ((o - 1 : Nat) : Int) := by
      rw [w64 (x := p - i) (by omega) (by omega), w64 (by omega) (by omega)]
      omega
    rw [if_neg (by omega), ev_ite, e, if_pos (by omega), ev_ite, if_pos (by omega), ev_some, termR_pos t l (by omega) ho, rdE_get (by omega)]
theorem slices_Clone_byte_byte_ev {b : List Int} (h : b.length < 140737488355328) : slices_Clone_byte_byte.f b = some b := by
  unfold slices_Clone_byte_byte.f
  rw [if_pos h]
theorem raft_own_ev (a b c : Int) (s : ByteArray) (f : Bool) {l : List Int} (x y z u : Int) (h : l.length ≤ 140737488351232) : raft_own.f a b c s f l x y z u = some (a, b, c, s, f, l, x, y, z, u) := by
  unfold raft_own.f
  rw [slices_Clone_byte_byte_ev (by omega)]
  rfl
theorem raft_owns_ev (l : List EntS) (hl : l.length ≤ 1000000000000) (hg : ∀ e ∈ l, goodR e) : Ev (fun k => raft_owns.f k l) l := by
  have main : ∀ (d j : Nat) (acc : List EntS), l.length - j = d → j ≤ l.length → acc.length = j → Ev (fun k => raft_owns.l0 k acc l (l.length : Int) (j : Int)) (acc ++ l.drop j) := by
    intro d
    induction d with
    | zero =>
      intro j acc hd hj ha
      rw [ev_succ]
      simp only [raft_owns.l0, ev_ite]
      rw [if_neg (by omega), ev_some, List.drop_eq_nil_of_le (by omega), List.append_nil]
    | succ d ih =>
      intro j acc hd hj ha
      have hjl : j < l.length := by omega
      have hgj := hg _ (rdE_mem hjl)
      have hw : wrap64 ((j : Int) + 1) = ((j + 1 : Nat) : Int) := w64 (by omega) (by omega)
      rw [rdE_drop hjl]
      rw [ev_succ]
      simp only [raft_owns.l0, ev_ite, hw]
      generalize rd_T46 l (j : Int) = e at hgj ⊢
      rw [if_pos (by omega), if_pos (by omega), if_pos (by omega), ev_bind_c (raft_own_ev _ _ _ _ _ _ _ _ _ hgj.2), ev_ite, if_pos (by omega)]
      refine ev_eq (ih (j + 1) (acc ++ [e]) (by omega) (by omega) (by rw [List.length_append, List.length_singleton]; omega)) ?_
      rw [List.append_assoc, List.singleton_append]
  exact main (l.length - 0) 0 [] rfl (by omega) rfl
abbrev OkS (i t : Int) (l : List EntS) (h1 h2 c a : Int) (m : List EntS) (o : Nat) : Prop := OkP ixS tmS i t l h1 h2 c a m o
abbrev OutS := Int × Int × List EntS × Int × Int × Int × Int × Int
theorem comm_right (x : List EntS) : comm tmS x [] = 0 := by cases x <;> simp [comm]
theorem raft_Put_l0_ev {i t : Int} {l : List EntS} {h1 h2 c a : Int} {m : List EntS} {o : Nat} (hi : 0 ≤ i ∧ i ≤ 2147483647) (hl : l.length ≤ 1000) (hml : m.length ≤ 1000000) (hix : ∀ (j : Nat) (h : j < m.length), ixS m[j] = i + 1 + o + j) (ho : o ≤ l.length) : ∀ (d j : Nat), m.length - j = d → j ≤ m.length → ∀ R : OutS,
    Ev (fun k => raft_Put.j2 k m ((j + comm tmS (l.drop (o + j)) (m.drop j) : Nat) : Int) i t l h1 h2 c a) R → Ev (fun k => raft_Put.l0 k m (i + (l.length : Int)) (j : Int) i t l h1 h2 c a) R := by
  intro d
  induction d with
  | zero =>
    intro j hd hj R hR
    have e : m.drop j = [] := List.drop_eq_nil_of_le (by omega)
    rw [e, comm_right, Nat.add_zero] at hR
    rw [ev_succ]
    simp only [raft_Put.l0, ev_ite]
    rw [if_neg (by omega)]
    exact hR
  | succ d ih =>
    intro j hd hj R hR
    have hjl : j < m.length := by omega
    have hx := hix j hjl
    have hw : wrap64 ((j : Int) + 1) = ((j + 1 : Nat) : Int) := w64 (by omega) (by omega)
    have he : m.drop j = m[j] :: m.drop (j + 1) := List.drop_eq_getElem_cons hjl
    simp only [ixS] at hx
    rw [ev_succ]
    simp only [raft_Put.l0, ev_ite, rdE_get hjl, hw]
    rw [if_pos (by omega), if_pos (by omega)]
    by_cases hb : o + j < l.length
    · have e : wrap64 (wrap64 (m[j].f0 - i) - 1) = ((o + j : Nat) : Int) := by
        rw [w64 (x := m[j].f0 - i) (by omega) (by omega), w64 (by omega) (by omega)]
        omega
      have hel : l.drop (o + j) = l[o + j] :: l.drop (o + j + 1) := List.drop_eq_getElem_cons hb
      rw [if_pos (by omega)]
      simp only [e, rdE_get hb]
      rw [if_pos (by omega), if_pos (by omega)]
      rw [hel, he, comm] at hR
      by_cases ht : l[o + j].f1 = m[j].f1
      · rw [if_pos ht] at hR
        rw [if_pos ht]
        refine ih (j + 1) (by omega) (by omega) R ?_
        have e2 : j + (comm tmS (l.drop (o + j + 1)) (m.drop (j + 1)) + 1) = j + 1 + comm tmS (l.drop (o + (j + 1))) (m.drop (j + 1)) := by
          rw [← Nat.add_assoc o j 1]
          omega
        rw [e2] at hR
        exact hR
      · rw [if_neg ht, Nat.add_zero] at hR
        rw [if_neg ht]
        exact hR
    · have hel : l.drop (o + j) = [] := List.drop_eq_nil_of_le (by omega)
      rw [hel, comm_nil, Nat.add_zero] at hR
      rw [if_neg (by omega)]
      exact hR
theorem raft_Put_ev (i t : Int) (l : List EntS) (h1 h2 c a : Int) (m : List EntS) (hl : l.length ≤ 140737488351232) (hg : ∀ e ∈ l, goodR e) (hml : m.length ≤ 1000000) (hgm : ∀ e ∈ m, goodR e) (hi : -9223372036854775808 ≤ i ∧ i ≤ 9223372036854775807) :
    ∃ out : OutS, Ev (fun k => raft_Put.f k i t l h1 h2 c a m) out ∧ (∀ o, OkS i t l h1 h2 c a m o → out = (i, t, putL tmS l m o, h1, h2, c, a, 0)) ∧ (out.2.2.2.2.2.2.2 = 0 → ∃ o, OkS i t l h1 h2 c a m o) := by
  obtain ⟨q, hq, hq2⟩ := raft_Check_ev i t l h1 h2 c a hl hg hi
  obtain ⟨r, hr, hr2⟩ := raft_Last_ev i t l h1 h2 c a hl hg hi
  obtain ⟨b, hb, hb2⟩ := raft_rows_ev m (by omega) hgm
  have no : ∀ (P : Nat → Option OutS) (e : Int), e ≠ 0 → (∀ o, ¬ OkS i t l h1 h2 c a m o) → Ev P (0, 0, [], 0, 0, 0, 0, e) → ∃ out : OutS, Ev P out ∧ (∀ o, OkS i t l h1 h2 c a m o → out = (i, t, putL tmS l m o, h1, h2, c, a, 0)) ∧ (out.2.2.2.2.2.2.2 = 0 → ∃ o, OkS i t l h1 h2 c a m o) :=
    fun P e he hn hP => ⟨_, hP, fun o ho => absurd ho (hn o), fun h => absurd h he⟩
  have j0t : ∀ x : Int, Ev (fun k => raft_Put.j0 k m x true i t l h1 h2 c a) (0, 0, [], 0, 0, 0, 0, 1) := by
    intro x
    rw [ev_succ]
    simp only [raft_Put.j0, ev_ite]
    rw [if_pos (by trivial), ev_some]
  simp only [raft_Put.f]
  by_cases hc : CheckS i t l h1 h2 c a
  · have hq0 := hq2.2 hc
    have hr0 := hr2 hc
    have hi' : 0 ≤ i ∧ i ≤ 2147483647 := by have := hc.1; omega
    have hl' : l.length ≤ 1000 := hc.2.1
    by_cases hm0 : m.length = 0
    · refine no _ 1 (by omega) (fun o ho => by obtain ⟨h, _⟩ := ho.2.2.1; omega) ?_
      rw [ev_bind hr, ev_bind hq, ev_ite, if_pos hq0, ev_ite, if_pos (by omega)]
      exact j0t _
    by_cases hrow : RowsS m
    · have hbt := hb2.2 hrow
      have hm1 : 0 < m.length := by omega
      have e0 : rd_T46 m 0 = m[0] := rdE_get hm1
      have hr1 := hrow.1 0 hm1
      simp only [ixS, tmS] at hr1
      have hmi := rows_ix hrow
      subst hbt
      by_cases c1 : m[0].f0 ≤ i
      · refine no _ 4 (by omega) (fun o ho => by obtain ⟨h, h', _⟩ := ho.2.2.1; simp only [ixS] at h'; omega) ?_
        rw [ev_bind hr, ev_bind hq, ev_ite, if_pos hq0, ev_ite, if_neg (by omega), ev_bind hb, ev_succ]
        simp only [raft_Put.j0, ev_ite, e0]
        rw [if_neg (by simp), if_pos (by omega), if_pos c1, ev_some]
      have hw1 : wrap64 (r.1 + 1) = i + (l.length : Int) + 1 := by rw [hr0, w64 (by omega) (by omega)]
      by_cases c2 : m[0].f0 > i + (l.length : Int) + 1
      · refine no _ 5 (by omega) (fun o ho => by obtain ⟨h, h', _⟩ := ho.2.2.1; have := ho.2.2.2.1; simp only [ixS] at h'; omega) ?_
        rw [ev_bind hr, ev_bind hq, ev_ite, if_pos hq0, ev_ite, if_neg (by omega), ev_bind hb, ev_succ]
        simp only [raft_Put.j0, ev_ite, e0, hw1]
        rw [if_neg (by simp), if_pos (by omega), if_neg c1, if_pos c2, ev_some]
      obtain ⟨o, hoe⟩ : ∃ o : Nat, m[0].f0 = i + 1 + o := ⟨(m[0].f0 - i - 1).toNat, by omega⟩
      have hol : o ≤ l.length := by omega
      have huniq : ∀ o', OkS i t l h1 h2 c a m o' → o' = o := fun o' ho => by obtain ⟨h, h', _⟩ := ho.2.2.1; simp only [ixS] at h'; omega
      have hterm := raft_Term_ev hc hg (p := wrap64 (m[0].f0 - 1)) (o := o) (by rw [w64 (by omega) (by omega)]; omega) hol
      have hown := raft_owns_ev l (by omega) hg
      by_cases c3 : m[0].f1 < termR tmS t l o
      · refine no _ 1 (by omega) (fun o' ho => by obtain ⟨h, _, h'⟩ := ho.2.2.1; rw [huniq o' ho] at h'; simp only [tmS] at h'; omega) ?_
        rw [ev_bind hr, ev_bind hq, ev_ite, if_pos hq0, ev_ite, if_neg (by omega), ev_bind hb, ev_succ]
        simp only [raft_Put.j0, ev_ite, e0, hw1]
        rw [if_neg (by simp), if_pos (by omega), if_neg c1, if_neg c2, ev_bind hterm, ev_ite, if_pos c3, ev_some]
      have hix : ∀ (j : Nat) (h : j < m.length), ixS m[j] = i + 1 + o + j := fun j h => by
        rw [hmi j h]
        simp only [ixS]
        omega
      have go : ∀ R : OutS, Ev (fun k => raft_Put.j2 k m ((comm tmS (l.drop o) m : Nat) : Int) i t l h1 h2 c a) R → Ev (fun k => (raft_Last.f k i t l h1 h2 c a).bind fun bt161 => ((raft_Check.f k i t l h1 h2 c a).bind fun t163 => (if t163 = 0 then (if (m.length : Int) = 0 then (raft_Put.j0 k m bt161.1 true i t l h1 h2 c a) else ((raft_rows.f k m).bind fun t164 => (raft_Put.j0 k m bt161.1 (!t164) i t l h1 h2 c a))) else (raft_Put.j0 k m bt161.1 true i t l h1 h2 c a)))) R := by
        intro R hR
        rw [ev_bind hr, ev_bind hq, ev_ite, if_pos hq0, ev_ite, if_neg (by omega), ev_bind hb, ev_succ]
        simp only [raft_Put.j0, ev_ite, e0, hw1]
        rw [if_neg (by simp), if_pos (by omega), if_neg c1, if_neg c2, ev_bind hterm, ev_ite, if_neg c3, ev_bind hown, hr0]
        have := raft_Put_l0_ev (h1 := h1) (h2 := h2) (c := c) (a := a) (t := t) hi' hl' hml hix hol (m.length - 0) 0 rfl (by omega) R
        simp only [Nat.zero_add, Nat.add_zero, List.drop_zero] at this
        exact this hR
      have hs := comm_le (tm := tmS) (l.drop o) m
      rw [List.length_drop] at hs
      clear hq2 hr2 hb2 hr hq hb hterm hown
      have okp : ∀ p : (comm tmS (l.drop o) m = m.length ∨ (c < i + 1 + o + comm tmS (l.drop o) m ∧ o + m.length ≤ 1000)), OkS i t l h1 h2 c a m o := fun p => ⟨hc, hrow, ⟨hm1, hix 0 hm1 |>.trans (by omega), by simp only [tmS]; omega⟩, hol, p⟩
      generalize hS : comm tmS (l.drop o) m = s at go hs okp
      by_cases c4 : s = m.length
      · refine ⟨(i, t, putL tmS l m o, h1, h2, c, a, 0), go _ ?_, fun o' ho => by rw [huniq o' ho], fun _ => ⟨o, okp (.inl c4)⟩⟩
        rw [ev_succ]
        simp only [raft_Put.j2, ev_ite]
        rw [if_pos (by omega), ev_some]
        unfold putL
        rw [hS, if_pos c4]
      have hsx := hix s (by omega)
      simp only [ixS] at hsx
      have es : rd_T46 m (s : Int) = m[s]'(by omega) := rdE_get (by omega)
      by_cases c5 : m[s].f0 ≤ c
      · refine no _ 11 (by omega) (fun o' ho => by
          have h9 := ho.2.2.2.2
          rw [huniq o' ho, hS] at h9
          omega) (go _ ?_)
        rw [ev_succ]
        simp only [raft_Put.j2, ev_ite, es]
        rw [if_neg (by omega), if_pos (by omega), if_pos (by omega), if_pos c5, ev_some]
      have EW : True → wrap64 (wrap64 (m[s].f0 - i) - 1) = ((o + s : Nat) : Int) := fun _ => by
        rw [w64 (x := m[s].f0 - i) (by omega) (by omega), w64 (by omega) (by omega)]
        omega
      have EW2 : True → wrap64 (wrap64 (((o + s : Nat) : Int) + (m.length : Int)) - (s : Int)) = ((o + m.length : Nat) : Int) := fun _ => by
        rw [w64 (x := ((o + s : Nat) : Int) + (m.length : Int)) (by omega) (by omega), w64 (by omega) (by omega)]
        omega
      by_cases c6 : o + m.length > 1000
      · refine no _ 7 (by omega) (fun o' ho => by
          have h9 := ho.2.2.2.2
          rw [huniq o' ho, hS] at h9
          omega) (go _ ?_)
        rw [ev_succ]
        have ew := EW trivial
        have ew2 := EW2 trivial
        simp only [raft_Put.j2, ev_ite, es, ew, ew2]
        clear ew ew2
        rw [if_neg (by omega), if_pos (by omega), if_pos (by omega), if_neg c5, if_pos (by omega), ev_some]
      · have hown2 := raft_owns_ev (m.drop s) (by rw [List.length_drop]; omega) (fun e he => hgm e (List.mem_of_mem_drop he))
        refine ⟨(i, t, putL tmS l m o, h1, h2, c, a, 0), go _ ?_, fun o' ho => by rw [huniq o' ho], fun _ => ⟨o, okp (.inr ⟨by omega, by omega⟩)⟩⟩
        rw [ev_succ]
        have ew := EW trivial
        have ew2 := EW2 trivial
        simp only [raft_Put.j2, ev_ite, es, ew, ew2, Int.toNat_natCast, Option.bind_some]
        clear ew ew2
        rw [if_neg (by omega), if_pos (by omega), if_pos (by omega), if_neg c5, if_neg (by omega), if_pos (by omega), if_pos (by omega), if_pos (by omega), ev_bind hown2, ev_ite, if_pos (by rw [List.length_take, List.length_drop]; omega), ev_some]
        unfold putL
        rw [hS, if_neg c4]
    · refine no _ 1 (by omega) (fun o ho => hrow ho.2.1) ?_
      have hbf : b = false := by
        rw [← Bool.not_eq_true]
        exact fun h => hrow (hb2.1 h)
      subst hbf
      rw [ev_bind hr, ev_bind hq, ev_ite, if_pos hq0, ev_ite, if_neg (by omega), ev_bind hb]
      exact j0t _
  · refine no _ 1 (by omega) (fun o ho => hc ho.1) ?_
    rw [ev_bind hr, ev_bind hq, ev_ite, if_neg (fun h => hc (hq2.1 h))]
    exact j0t _
theorem putL_mem {l m : List EntS} {o : Nat} {e : EntS} (h : e ∈ putL tmS l m o) : e ∈ l ∨ e ∈ m := by
  unfold putL at h
  split at h
  · exact .inl h
  · rcases List.mem_append.1 h with h | h
    · exact .inl (List.mem_of_mem_take h)
    · exact .inr (List.mem_of_mem_drop h)
theorem garnerlaw23_awake_ev : Ev (fun k => garnerlaw23_awake.f k) true := Ev.of (fun k => garnerlaw23_awake.mono k) (k := 60) (by decide +kernel)
theorem garnerref02_same_l0_ev (x y : List Int) (hxy : x.length = y.length) (hl : x.length ≤ maxLen) : ∀ (d i : Nat), x.length - i = d → i ≤ x.length → Ev (fun k => garnerref02_same.l0 k x y (i : Int)) (decide (x.drop i = y.drop i)) := by
  have hlm := maxLen_le hl
  intro d
  induction d with
  | zero =>
    intro i hd hi
    rw [ev_succ]
    simp only [garnerref02_same.l0, ev_ite]
    rw [if_neg (by omega), ev_some, List.drop_eq_nil_of_le (by omega), List.drop_eq_nil_of_le (by omega)]
    simp
  | succ d ih =>
    intro i hd hi
    rw [ev_succ]
    simp only [garnerref02_same.l0, ev_ite]
    rw [if_pos (by omega), if_pos (by omega), if_pos (by omega), w64 (by omega) (by omega), drop_eq (xs := x) (by omega), drop_eq (xs := y) (by omega)]
    by_cases h : rd x (i : Int) = rd y (i : Int)
    · rw [if_pos h, h]
      refine ev_eq (ih (i + 1) (by omega) (by omega)) ?_
      simp
    · rw [if_neg h, ev_some]
      simp [h]
theorem garnerref02_same_ev {x y : List Int} (hl : x.length ≤ maxLen) : Ev (fun k => garnerref02_same.f k x y) (decide (x = y)) := by
  simp only [garnerref02_same.f, ev_ite]
  by_cases h : x.length = y.length
  · rw [if_pos (by omega)]
    exact garnerref02_same_l0_ev x y h hl (x.length - 0) 0 rfl (by omega)
  · rw [if_neg (by omega), ev_some]
    symm
    simp only [decide_eq_false_iff_not]
    rintro rfl
    exact h rfl
theorem garnerref02_Bytes_ev {x y : List Int} (hl : x.length ≤ maxLen) : Ev (fun k => garnerref02_Bytes.f k x y) (decide (x = y)) := by
  simp only [garnerref02_Bytes.f]
  rw [ev_bind (garnerref02_same_ev hl), ev_some]
theorem garnerref06_Same_self (l : List S46) (hl : l.length ≤ 140737488351232) (hg : ∀ e ∈ l, e.f4.f1.length ≤ maxLen) : Ev (fun k => garnerref06_Same.f k l l) true := by
  have main : ∀ (d j : Nat), l.length - j = d → j ≤ l.length → Ev (fun k => garnerref06_Same.l0 k l l (j : Int)) true := by
    intro d
    induction d with
    | zero =>
      intro j hd hj
      rw [ev_succ]
      simp only [garnerref06_Same.l0, ev_ite]
      rw [if_neg (by omega), ev_some]
    | succ d ih =>
      intro j hd hj
      have hjl : j < l.length := by omega
      have e : rd_T46 l (j : Int) = l[j] := by simp [rd_T46, hjl]
      have hgj := hg _ (List.getElem_mem hjl)
      have hw : wrap64 ((j : Int) + 1) = ((j + 1 : Nat) : Int) := w64 (by omega) (by omega)
      rw [ev_succ]
      simp only [garnerref06_Same.l0, ev_ite, hw, e]
      generalize l[j] = x at hgj ⊢
      have hs : Ev (fun k => garnerref05_Same.f k x.f4.f0 x.f4.f1 x.f4.f2.f0 x.f4.f2.f1 x.f4.f2.f2 x.f4.f2.f3 x.f4.f0 x.f4.f1 x.f4.f2.f0 x.f4.f2.f1 x.f4.f2.f2 x.f4.f2.f3) true := by
        simp only [garnerref05_Same.f, ev_ite]
        rw [if_pos (by simp), if_pos (by simp), ev_bind (garnerref02_Bytes_ev hgj), ev_some]
        simp
      rw [if_pos (by omega), if_pos (by omega), if_pos (by omega), if_pos (by trivial), if_pos (by trivial), if_pos (by trivial), if_pos (by trivial), ev_bind hs, ev_ite, if_pos (by trivial)]
      exact ih (j + 1) (by omega) (by omega)
  simp only [garnerref06_Same.f, ev_ite]
  rw [if_pos (by trivial)]
  exact main (l.length - 0) 0 rfl (by omega)
theorem garnerref23_Same_self (i t : Int) (l : List S46) (x y z u : Int) (hl : l.length ≤ 140737488351232) (hg : ∀ e ∈ l, e.f4.f1.length ≤ maxLen) : Ev (fun k => garnerref23_Same.f k i t l x y z u i t l x y z u) true := by
  simp only [garnerref23_Same.f, ev_ite]
  rw [if_pos (by trivial), if_pos (by trivial), if_pos (by simp), if_pos (by trivial), ev_bind (garnerref06_Same_self l hl hg), ev_some]
theorem RaftParts : StRaftParts.Pure := by
  intro i t l x y z u m a hi ht _ hl hgl hx hy hz hu _ hm hgm ha
  have ha := wf_u8 ha
  have hi := wf_i64 hi
  have good : ∀ e : EntS, StRaftParts.g46 e → goodR e := fun e he => by
    obtain ⟨h1, h2, h3, h4, h5⟩ := he
    obtain ⟨_, ⟨h6, h7, h8⟩, h9⟩ := h5
    exact ⟨wf_i64 h1, by omega⟩
  have hgl' : ∀ e ∈ l, goodR e := fun e he => good e (hgl e he)
  have hgm' : ∀ e ∈ m, goodR e := fun e he => good e (hgm e he)
  refine Ev.rounds (g := fun k => garnerlaw23_RaftParts.f k i t l x y z u m a) ?_
  have fin : Ev (fun k => (garnerlaw23_awake.f k).bind fun t => some t) true := by rw [ev_bind garnerlaw23_awake_ev, ev_some]
  have hno : Ev (fun k => garnerlaw23_RaftParts.j0 k m a true i t l x y z u) true := by
    rw [ev_succ]
    simp only [garnerlaw23_RaftParts.j0, ev_ite]
    rw [if_pos (by trivial)]
    exact fin
  have hno1 : ∀ (K : Int) (o1 o2 : OutS), Ev (fun k => garnerlaw23_RaftParts.j1 k m K true o1.1 o1.2.1 o1.2.2.1 o1.2.2.2.1 o1.2.2.2.2.1 o1.2.2.2.2.2.1 o1.2.2.2.2.2.2.1 o2.1 o2.2.1 o2.2.2.1 o2.2.2.2.1 o2.2.2.2.2.1 o2.2.2.2.2.2.1 o2.2.2.2.2.2.2.1) true := by
    intro K o1 o2
    rw [ev_succ]
    simp only [garnerlaw23_RaftParts.j1, ev_ite]
    rw [if_pos (by trivial)]
    exact fin
  simp only [garnerlaw23_RaftParts.f]
  rw [ev_bind (garnerlaw23_Light_ev i t l x y z u (by omega)), ev_ite]
  by_cases c1 : lightN (prsN l) = true
  · rw [if_pos c1, ev_bind (garnerlaw06_Light_ev m (by omega)), ev_ite]
    by_cases c2 : lightN (prsN m) = true
    · have hm40 : m.length ≤ 40 := by
        unfold lightN at c2
        rw [Bool.and_eq_true, decide_eq_true_eq, prsN_len] at c2
        exact c2.1
      rw [if_pos c2]
      by_cases c3 : m.length < 2
      · rw [decide_eq_true (by omega)]
        exact hno
      · have w1 : wrap64 ((m.length : Int) - 1) = (m.length : Int) - 1 := w64 (by omega) (by omega)
        have m1 := Int.emod_nonneg a (b := (m.length : Int) - 1) (by omega)
        have m2 := Int.emod_lt_of_pos a (b := (m.length : Int) - 1) (by omega)
        obtain ⟨K, hK⟩ : ∃ K : Nat, (K : Int) = 1 + a % ((m.length : Int) - 1) := ⟨(1 + a % ((m.length : Int) - 1)).toNat, by omega⟩
        have e0 : wrap64 (1 + Int.tmod (wrap64 a) ((m.length : Int) - 1)) = (K : Int) := by
          rw [w64 (x := a) (by omega) (by omega), Int.tmod_eq_emod_of_nonneg (by omega), ← hK, w64 (by omega) (by omega)]
        obtain ⟨o1, p1, p2, p3⟩ := raft_Put_ev i t l x y z u m (by omega) hgl' (by omega) hgm' hi
        obtain ⟨o2, q1, q2, q3⟩ := raft_Put_ev i t l x y z u (m.take K) (by omega) hgl' (by rw [List.length_take]; omega) (fun e he => hgm' e (List.mem_of_mem_take he)) hi
        rw [decide_eq_false (by omega), ev_succ]
        simp only [garnerlaw23_RaftParts.j0, ev_ite, w1, e0, Int.toNat_natCast]
        rw [if_neg (by simp), if_neg (by omega), ev_bind p1, ev_ite, if_pos (by omega), ev_ite, if_pos (by omega), ev_bind q1, ev_ite]
        by_cases d1 : o1.2.2.2.2.2.2.2 = 0
        · rw [if_pos d1]
          by_cases d2 : o2.2.2.2.2.2.2.2 = 0
          · obtain ⟨o, ho⟩ := p3 d1
            obtain ⟨o', ho'⟩ := q3 d2
            have hoo : o' = o := by
              obtain ⟨r1, r2, _⟩ := ho.2.2.1
              obtain ⟨r3, r4, _⟩ := ho'.2.2.1
              rw [List.getElem_take] at r4
              omega
            subst hoo
            have e1 := p2 _ ho
            have e2 := q2 _ ho'
            obtain ⟨f1, f2⟩ := parts (k := K) (by omega) (by omega) ho ho'
            have hg3 : ∀ e ∈ putL tmS l (m.take K) o', goodR e := fun e he => by
              rcases putL_mem he with h | h
              · exact hgl' e h
              · exact hgm' e (List.mem_of_mem_take h)
            have hlen3 : (putL tmS l (m.take K) o').length ≤ 1000 := f1.1.2.1
            obtain ⟨o3, s1, s2, s3⟩ := raft_Put_ev i t (putL tmS l (m.take K) o') x y z u (m.drop K) (by omega) hg3 (by rw [List.length_drop]; omega) (fun e he => hgm' e (List.mem_of_mem_drop he)) hi
            have e3 := s2 _ f1
            rw [f2] at e3
            have hg4 : ∀ e ∈ putL tmS l m o', e.f4.f1.length ≤ maxLen := fun e he => by
              have : goodR e := by
                rcases putL_mem he with h | h
                · exact hgl' e h
                · exact hgm' e h
              have := this.2
              unfold maxLen
              omega
            have hlen4 : (putL tmS l m o').length ≤ 1000000 := by
              have hl1000 : l.length ≤ 1000 := ho.1.2.1
              unfold putL
              split
              · omega
              · rw [List.length_append, List.length_take, List.length_drop]
                omega
            rw [e1, e2, ev_succ]
            simp only [garnerlaw23_RaftParts.j1, ev_ite, Int.toNat_natCast]
            rw [if_neg (by simp), if_pos (by omega), if_pos (by omega), ev_bind s1, e3]
            simp only [ev_ite]
            rw [if_pos (by trivial), ev_bind (garnerref23_Same_self i t (putL tmS l m o') x y z u (by omega) hg4), ev_ite, if_pos (by trivial)]
            exact fin
          · have e : (o2.2.2.2.2.2.2.2 != 0) = true := by simpa using d2
            rw [e]
            exact hno1 _ o1 o2
        · rw [if_neg d1]
          exact hno1 _ o1 o2
    · rw [if_neg c2]
      exact hno
  · rw [if_neg c1]
    exact hno
end Go.Proofs.Ytinldhpdfomcjaa.Pure
