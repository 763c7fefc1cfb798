/- The pure statement of the law RaftTurns: what the printed functions answer, each by its plain law, and that the law's answer is true. -/
import Derived.Test.YtangfpcifdpfeaaPRaftTurnsx0
import Derived.Test.YtangfpcifdpfeaaPRaftTurnsx1
import Derived.Test.YtangfpcifdpfeaaPRaftTurnsx2
import Derived.Test.YtangfpcifdpfeaaPRaftTurnsx3
import Derived.Test.YtangfpcifdpfeaaPRaftTurnsx4
import Derived.Test.YtangfpcifdpfeaaPRaftTurnsx5
import Derived.Test.YtangfpcifdpfeaaPRaftTurnsx6
import Derived.Test.YtangfpcifdpfeaaPRaftTurnsx7
import Derived.Test.YtangfpcifdpfeaaPRaftTurnsx8
import Derived.Test.YtangfpcifdpfeaaPRaftTurnsx9
import Derived.Test.YtangfpcifdpfeaaPRaftTurnsx10
import Derived.Test.YtangfpcifdpfeaaPRaftTurnsx11
import Derived.Test.YtangfpcifdpfeaaPRaftTurnsx12
import Derived.Test.YtangfpcifdpfeaaPRaftTurnsx13
import Derived.Test.YtangfpcifdpfeaaPRaftTurnsx14
import Derived.Test.YtangfpcifdpfeaaPRaftTurnsx15
import Derived.Test.YtangfpcifdpfeaaPRaftTurnsx16
import Derived.Test.YtangfpcifdpfeaaPRaftTurnsx17
import Derived.Test.YtangfpcifdpfeaaStRaftTurns
import Derived.Test.YtangfpcifdpfeaaQSz
import Derived.Test.YtangfpcifdpfeaaQV02
import Derived.Test.YtangfpcifdpfeaaQF06
import Derived.Test.YtangfpcifdpfeaaQF23
import Derived.Test.YtangfpcifdpfeaaQV22
namespace Go.Proofs.Ytangfpcifdpfeaa.Pure
open Go.RowKit Go.Proofs.Ytangfpcifdpfeaa.PRaftTurns Go.Proofs.Ytangfpcifdpfeaa.U Go.Proofs.YtangfpcifdpfeaaW.PrintWords Go.Proofs.YtangfpcifdpfeaaW.PrintLast Go.Proofs.YtangfpcifdpfeaaW.PrintMore
set_option linter.unusedVariables false
set_option linter.unusedSimpArgs false
set_option maxRecDepth 4000
def prN (e : S55) : Ent := ⟨e.f0, e.f1, e.f2, e.f3, e.f4.f0, e.f4.f1, e.f4.f2.f0, e.f4.f2.f1, e.f4.f2.f2, e.f4.f2.f3⟩
def prsN (l : List S55) : List Ent := l.map prN
theorem prsN_len (l : List S55) : (prsN l).length = l.length := by simp [prsN]
theorem rdN_get {l : List S55} {i : Nat} (h : i < l.length) : rd_T55 l (i : Int) = l[i] := by
  simp [rd_T55, h]
theorem dropN_eq {l : List S55} {i : Nat} (h : i < l.length) : l.drop i = rd_T55 l (i : Int) :: l.drop (i + 1) := by
  rw [rdN_get h]
  exact List.drop_eq_getElem_cons h
abbrev EntS := S55
abbrev ixS (e : EntS) : Int := e.f0
abbrev tmS (e : EntS) : Int := e.f1
theorem rdE_get {l : List EntS} {i : Nat} (h : i < l.length) : rd_T55 l (i : Int) = l[i] := by
  simp [rd_T55, h]
theorem rdE_drop {l : List EntS} {i : Nat} (h : i < l.length) : l.drop i = rd_T55 l (i : Int) :: l.drop (i + 1) := by
  rw [rdE_get h]
  exact List.drop_eq_getElem_cons h
theorem rdE_mem {l : List EntS} {i : Nat} (h : i < l.length) : rd_T55 l (i : Int) ∈ l := by
  rw [rdE_get h]
  exact List.getElem_mem _
def goodR (e : EntS) : Prop := (-9223372036854775808 ≤ e.f0 ∧ e.f0 ≤ 9223372036854775807) ∧ e.f4.f1.length ≤ 140737488351232
def RowsS (l : List EntS) : Prop := RowsP ixS tmS l
theorem garnerlaw06_Light_ev (l : List S55) (hl : l.length ≤ 140737488351232) : Ev (fun k => garnerlaw06_Light.f k l) (lightN (prsN l)) := by
  have main : ∀ (d i : Nat), l.length - i = d → i ≤ l.length → i ≤ 41 → lightN (prsN l) = (decide (l.length ≤ 40) && (prsN (l.drop i)).all fun e => decide (e.key.size ≤ 200 ∧ e.b.length ≤ 200)) → Ev (fun k => garnerlaw06_Light.l0 k l (i : Int)) (lightN (prsN l)) := by
    intro d
    induction d with
    | zero =>
      intro i hd hi h41 he
      rw [List.drop_eq_nil_of_le (by omega)] at he
      rw [he, ev_succ]
      simp only [garnerlaw06_Light.l0, ev_ite]
      rw [if_neg (by omega), ev_succ]
      simp only [garnerlaw06_Light.j1, ev_ite]
      rw [if_neg (by simp), ev_some]
      have e : (prsN []).all (fun e => decide (e.key.size ≤ 200 ∧ e.b.length ≤ 200)) = true := rfl
      rw [e, Bool.and_true, decide_eq_decide]
      omega
    | succ d ih =>
      intro i hd hi h41 he
      have hil : i < l.length := by omega
      rw [dropN_eq hil] at he
      have hw : wrap64 ((i : Int) + 1) = ((i + 1 : Nat) : Int) := w64 (by omega) (by omega)
      have ih' := ih (i + 1) (by omega) (by omega)
      rw [ev_succ]
      simp only [garnerlaw06_Light.l0, ev_ite]
      rw [if_pos (by omega), ev_succ]
      simp only [garnerlaw06_Light.j1, ev_ite, hw]
      generalize rd_T55 l (i : Int) = f at he ⊢
      have e1 : (prsN (f :: l.drop (i + 1))).all (fun e => decide (e.key.size ≤ 200 ∧ e.b.length ≤ 200)) = (decide (f.f3.size ≤ 200 ∧ f.f4.f1.length ≤ 200) && (prsN (l.drop (i + 1))).all fun e => decide (e.key.size ≤ 200 ∧ e.b.length ≤ 200)) := rfl
      rw [e1] at he
      by_cases h1 : i ≤ 40
      · rw [if_pos (by rw [decide_eq_true_eq]; omega), if_pos (by omega), if_pos (by omega)]
        by_cases h2 : f.f3.size > 200
        · rw [if_pos (by omega), ev_some, he, decide_eq_false (show ¬ (f.f3.size ≤ 200 ∧ f.f4.f1.length ≤ 200) by omega), Bool.false_and, Bool.and_false]
        · rw [if_neg (by omega)]
          by_cases h3 : f.f4.f1.length > 200
          · rw [if_pos (by omega), ev_some, he, decide_eq_false (show ¬ (f.f3.size ≤ 200 ∧ f.f4.f1.length ≤ 200) by omega), Bool.false_and, Bool.and_false]
          · rw [if_neg (by omega)]
            refine ih' (by omega) ?_
            rw [he, decide_eq_true (show f.f3.size ≤ 200 ∧ f.f4.f1.length ≤ 200 by omega), Bool.true_and]
      · rw [if_neg (by rw [decide_eq_true_eq]; omega), ev_some, he, decide_eq_false (show ¬ l.length ≤ 40 by omega), Bool.false_and, decide_eq_false (by omega)]
  refine main (l.length - 0) 0 rfl (by omega) (by omega) ?_
  unfold lightN
  rw [prsN_len, List.drop_zero]
theorem garnerlaw23_Light_ev (a b : Int) (l : List S55) (c d e f : Int) (hl : l.length ≤ 140737488351232) : Ev (fun k => garnerlaw23_Light.f k a b l c d e f) (lightN (prsN l)) := by
  simp only [garnerlaw23_Light.f]
  rw [ev_bind (garnerlaw06_Light_ev l hl), ev_some]
theorem raft_counts_ev (n : Int) : raft_counts.f n = some (decide (1 ≤ n ∧ n ≤ 2147483647)) := by
  unfold raft_counts.f
  split
  · congr 1
    rw [decide_eq_decide]
    omega
  · congr 1
    symm
    rw [decide_eq_false_iff_not]
    omega
theorem raft_rows_ev (l : List EntS) (hl : l.length ≤ 140737488351232) (hg : ∀ e ∈ l, goodR e) : ∃ b, Ev (fun k => raft_rows.f k l) b ∧ (b = true ↔ RowsS l) := by
  have main : ∀ (d j : Nat), l.length - j = d → j ≤ l.length → (∀ q (h : q < j) (h' : q < l.length), 1 ≤ ixS l[q] ∧ ixS l[q] ≤ 2147483647 ∧ 1 ≤ tmS l[q] ∧ tmS l[q] ≤ 2147483647) → (∀ q (h : q + 1 < j) (h' : q + 1 < l.length), ixS l[q + 1] = ixS l[q] + 1 ∧ tmS l[q] ≤ tmS l[q + 1]) →
      ∃ b, Ev (fun k => raft_rows.l0 k l l (l.length : Int) (j : Int)) b ∧ (b = true ↔ RowsS l) := by
    intro d
    induction d with
    | zero =>
      intro j hd hj h1 h2
      refine ⟨true, ?_, ?_⟩
      · rw [ev_succ]
        simp only [raft_rows.l0, ev_ite]
        rw [if_neg (by omega), ev_some]
      · have : RowsS l := ⟨fun q hq => h1 q (by omega) hq, fun q hq => h2 q (by omega) hq⟩
        simp [this]
    | succ d ih =>
      intro j hd hj h1 h2
      have hjl : j < l.length := by omega
      have hgj := hg _ (List.getElem_mem hjl)
      have hw : wrap64 ((j : Int) + 1) = ((j + 1 : Nat) : Int) := w64 (by omega) (by omega)
      have no : ¬ RowsS l → ∃ b, Ev (fun _ => some false) b ∧ (b = true ↔ RowsS l) := fun h => ⟨false, by rw [ev_some], by simp [h]⟩
      have step : (1 ≤ ixS l[j] ∧ ixS l[j] ≤ 2147483647 ∧ 1 ≤ tmS l[j] ∧ tmS l[j] ≤ 2147483647) → (∀ q (h : q + 1 = j), ixS l[j] = ixS (l[q]'(by omega)) + 1 ∧ tmS (l[q]'(by omega)) ≤ tmS l[j]) → ∃ b, Ev (fun k => raft_rows.l0 k l l (l.length : Int) ((j + 1 : Nat) : Int)) b ∧ (b = true ↔ RowsS l) := by
        intro h3 h4
        refine ih (j + 1) (by omega) (by omega) ?_ ?_
        · intro q hq hq'
          by_cases he : q = j
          · subst he; exact h3
          · exact h1 q (by omega) hq'
        · intro q hq hq'
          by_cases he : q + 1 = j
          · have := h4 q he
            simp only [he]
            exact this
          · exact h2 q (by omega) hq'
      have key : ∃ b, Ev (fun k => raft_rows.l0 (k + 1) l l (l.length : Int) (j : Int)) b ∧ (b = true ↔ RowsS l) := by
        simp only [raft_rows.l0, ev_ite, hw, rdE_get hjl]
        by_cases c1 : 1 ≤ l[j].f0 ∧ l[j].f0 ≤ 2147483647
        · by_cases c2 : 1 ≤ l[j].f1 ∧ l[j].f1 ≤ 2147483647
          · by_cases hj0 : j = 0
            · obtain ⟨b, hb, hb2⟩ := step ⟨c1.1, c1.2, c2.1, c2.2⟩ (fun q hq => by omega)
              refine ⟨b, ?_, hb2⟩
              rw [if_pos (by omega), if_pos (by omega), if_pos (by omega), ev_bind_c (raft_counts_ev _), ev_ite, if_pos (by simpa using c1), ev_bind_c (raft_counts_ev _), ev_ite, if_pos (by simpa using c2), ev_ite, if_neg (by omega)]
              exact hb
            · have e : wrap64 ((j : Int) - 1) = ((j - 1 : Nat) : Int) := by
                rw [w64 (by omega) (by omega)]
                omega
              have ej : j - 1 + 1 = j := by omega
              by_cases c3 : l[j].f0 = (l[j - 1]'(by omega)).f0 + 1
              · by_cases c4 : l[j].f1 < (l[j - 1]'(by omega)).f1
                · obtain ⟨b, hb, hb2⟩ := no (fun h => by
                    have := (h.2 (j - 1) (by omega)).2
                    simp only [ixS, tmS, ej] at this
                    omega)
                  refine ⟨b, ?_, hb2⟩
                  rw [if_pos (by omega), if_pos (by omega), if_pos (by omega), ev_bind_c (raft_counts_ev _), ev_ite, if_pos (by simpa using c1), ev_bind_c (raft_counts_ev _), ev_ite, if_pos (by simpa using c2), ev_ite, if_pos (by omega)]
                  simp only [e, ev_ite, rdE_get (show j - 1 < l.length by omega)]
                  rw [if_pos (by omega), if_pos (by omega), w64 (by omega) (by omega), if_pos (by omega), if_pos c4]
                  exact hb
                · obtain ⟨b, hb, hb2⟩ := step ⟨c1.1, c1.2, c2.1, c2.2⟩ (fun q hq => by
                    have eq : q = j - 1 := by omega
                    subst eq
                    exact ⟨c3, by simp only [tmS]; omega⟩)
                  refine ⟨b, ?_, hb2⟩
                  rw [if_pos (by omega), if_pos (by omega), if_pos (by omega), ev_bind_c (raft_counts_ev _), ev_ite, if_pos (by simpa using c1), ev_bind_c (raft_counts_ev _), ev_ite, if_pos (by simpa using c2), ev_ite, if_pos (by omega)]
                  simp only [e, ev_ite, rdE_get (show j - 1 < l.length by omega)]
                  rw [if_pos (by omega), if_pos (by omega), w64 (by omega) (by omega), if_pos (by omega), if_neg c4]
                  exact hb
              · obtain ⟨b, hb, hb2⟩ := no (fun h => by
                  have := (h.2 (j - 1) (by omega)).1
                  simp only [ixS, tmS, ej] at this
                  omega)
                refine ⟨b, ?_, hb2⟩
                rw [if_pos (by omega), if_pos (by omega), if_pos (by omega), ev_bind_c (raft_counts_ev _), ev_ite, if_pos (by simpa using c1), ev_bind_c (raft_counts_ev _), ev_ite, if_pos (by simpa using c2), ev_ite, if_pos (by omega)]
                simp only [e, ev_ite, rdE_get (show j - 1 < l.length by omega)]
                rw [if_pos (by omega), if_pos (by omega), w64 (by omega) (by omega), if_neg (by omega)]
                exact hb
          · obtain ⟨b, hb, hb2⟩ := no (fun h => c2 ⟨(h.1 j hjl).2.2.1, (h.1 j hjl).2.2.2⟩)
            refine ⟨b, ?_, hb2⟩
            rw [if_pos (by omega), if_pos (by omega), if_pos (by omega), ev_bind_c (raft_counts_ev _), ev_ite, if_pos (by simpa using c1), ev_bind_c (raft_counts_ev _), ev_ite, if_neg (by simpa using c2)]
            exact hb
        · obtain ⟨b, hb, hb2⟩ := no (fun h => c1 ⟨(h.1 j hjl).1, (h.1 j hjl).2.1⟩)
          refine ⟨b, ?_, hb2⟩
          rw [if_pos (by omega), if_pos (by omega), if_pos (by omega), ev_bind_c (raft_counts_ev _), ev_ite, if_neg (by simpa using c1)]
          exact hb
      obtain ⟨b, hb, hb2⟩ := key
      exact ⟨b, ev_succ.2 hb, hb2⟩
  exact main (l.length - 0) 0 rfl (by omega) (fun q h => by omega) (fun q h => by omega)
theorem hard_counts_ev (n : Int) : hard_counts.f n = some (decide (0 ≤ n ∧ n ≤ 2147483647)) := by
  unfold hard_counts.f
  by_cases h : n ≥ 0
  · rw [if_pos h]
    simp [h]
  · rw [if_neg h]
    congr 1
    symm
    rw [decide_eq_false_iff_not]
    omega
theorem hard_Check_ev (t v c : Int) : hard_Check.f t v c = some (if mayH t v c = true then 0 else 1) := by
  simp only [hard_Check.f, hard_counts_ev, Option.bind_some, decide_eq_true_eq, mayH_iff]
  repeat' split
  all_goals first | rfl | omega
abbrev CheckS (i t : Int) (l : List EntS) (h1 h2 c a : Int) : Prop := CheckP ixS tmS i t l h1 h2 c a
theorem raft_Check_ev (i t : Int) (l : List EntS) (h1 h2 c a : Int) (hl : l.length ≤ 140737488351232) (hg : ∀ e ∈ l, goodR e) (hi : -9223372036854775808 ≤ i ∧ i ≤ 9223372036854775807) : ∃ r : Int, Ev (fun k => raft_Check.f k i t l h1 h2 c a) r ∧ (r = 0 ↔ CheckS i t l h1 h2 c a) := by
  have no : ∀ P : Nat → Option Int, ¬ CheckS i t l h1 h2 c a → Ev P 1 → ∃ r : Int, Ev P r ∧ (r = 0 ↔ CheckS i t l h1 h2 c a) := fun P h hP => ⟨1, hP, by simp [h]⟩
  have j1t : Ev (fun k => raft_Check.j1 k true i t l h1 h2 c a) 1 := by
    rw [ev_succ]
    simp only [raft_Check.j1, ev_ite]
    rw [if_pos (by trivial), ev_some]
  have j0t : Ev (fun k => raft_Check.j0 k true i t l h1 h2 c a) 1 := by
    rw [ev_succ]
    simp only [raft_Check.j0, ev_ite]
    rw [if_pos (by trivial), ev_some]
  have hin : i ≤ 2147483647 → wrap64 (i + 1) = i + 1 := fun h => w64 (by omega) (by omega)
  have j1f : ((i = 0 ∧ t = 0) ∨ (1 ≤ i ∧ i ≤ 2147483647 ∧ 1 ≤ t ∧ t ≤ 2147483647)) → l.length ≤ 1000 → RowsS l → mayH h1 h2 c = true → (∀ h : 0 < l.length, ixS l[0] = i + 1 ∧ t ≤ tmS l[0]) → ∃ r : Int, Ev (fun k => raft_Check.j1 k false i t l h1 h2 c a) r ∧ (r = 0 ↔ CheckS i t l h1 h2 c a) := by
    intro q1 q2 q3 q4 q5
    by_cases b1 : a < i
    · refine no _ (fun h => by have := h.2.2.2.2.2.1; omega) ?_
      rw [ev_succ]
      simp only [raft_Check.j1, ev_ite]
      rw [if_neg (by simp), if_pos b1, ev_some]
    by_cases b2 : a > c
    · refine no _ (fun h => by have := h.2.2.2.2.2.2.1; omega) ?_
      rw [ev_succ]
      simp only [raft_Check.j1, ev_ite]
      rw [if_neg (by simp), if_neg b1, if_pos b2, ev_some]
    by_cases b3 : c > i + (l.length : Int)
    · refine no _ (fun h => by have := h.2.2.2.2.2.2.2; omega) ?_
      rw [ev_succ]
      simp only [raft_Check.j1, ev_ite]
      rw [if_neg (by simp), if_neg b1, if_neg b2, w64 (by omega) (by omega), if_pos b3, ev_some]
    · refine ⟨0, ?_, ?_⟩
      · rw [ev_succ]
        simp only [raft_Check.j1, ev_ite]
        rw [if_neg (by simp), if_neg b1, if_neg b2, w64 (by omega) (by omega), if_neg b3, ev_some]
      · have : CheckS i t l h1 h2 c a := ⟨q1, q2, q3, q4, q5, by omega, by omega, by omega⟩
        simp [this]
  have j0f : ((i = 0 ∧ t = 0) ∨ (1 ≤ i ∧ i ≤ 2147483647 ∧ 1 ≤ t ∧ t ≤ 2147483647)) → l.length ≤ 1000 → RowsS l → mayH h1 h2 c = true → ∃ r : Int, Ev (fun k => raft_Check.j0 k false i t l h1 h2 c a) r ∧ (r = 0 ↔ CheckS i t l h1 h2 c a) := by
    intro q1 q2 q3 q4
    have hii : wrap64 (i + 1) = i + 1 := hin (by omega)
    by_cases hl0 : 0 < l.length
    · have e0 : rd_T55 l 0 = l[0] := rdE_get hl0
      by_cases b1 : l[0].f0 = i + 1
      · by_cases b2 : l[0].f1 < t
        · refine no _ (fun h => by have := (h.2.2.2.2.1 hl0).2; simp only [tmS] at this; omega) ?_
          rw [ev_succ]
          simp only [raft_Check.j0, ev_ite, e0, hii]
          rw [if_neg (by simp), if_pos (by omega), if_pos (by omega), if_pos b1, decide_eq_true b2]
          exact j1t
        · obtain ⟨r, hr, hr2⟩ := j1f q1 q2 q3 q4 (fun _ => ⟨b1, by simp only [tmS]; omega⟩)
          refine ⟨r, ?_, hr2⟩
          rw [ev_succ]
          simp only [raft_Check.j0, ev_ite, e0, hii]
          rw [if_neg (by simp), if_pos (by omega), if_pos (by omega), if_pos b1, decide_eq_false b2]
          exact hr
      · refine no _ (fun h => b1 (h.2.2.2.2.1 hl0).1) ?_
        rw [ev_succ]
        simp only [raft_Check.j0, ev_ite, e0, hii]
        rw [if_neg (by simp), if_pos (by omega), if_pos (by omega), if_neg b1]
        exact j1t
    · obtain ⟨r, hr, hr2⟩ := j1f q1 q2 q3 q4 (fun h => absurd h hl0)
      refine ⟨r, ?_, hr2⟩
      rw [ev_succ]
      simp only [raft_Check.j0, ev_ite]
      rw [if_neg (by simp), if_neg (by omega)]
      exact hr
  obtain ⟨b, hb, hb2⟩ := raft_rows_ev l hl hg
  have mid : ∀ (P : Nat → Option Int), ((i = 0 ∧ t = 0) ∨ (1 ≤ i ∧ i ≤ 2147483647 ∧ 1 ≤ t ∧ t ≤ 2147483647)) → (∀ r, Ev P r ↔ (if (l.length : Int) > 1000 then Ev (fun k => raft_Check.j0 k true i t l h1 h2 c a) r else Ev (fun k => (raft_rows.f k l).bind fun t116 => (if t116 = true then ((hard_Check.f h1 h2 c).bind fun t117 => (raft_Check.j0 k (t117 != 0) i t l h1 h2 c a)) else (raft_Check.j0 k true i t l h1 h2 c a))) r)) → ∃ r : Int, Ev P r ∧ (r = 0 ↔ CheckS i t l h1 h2 c a) := by
    intro P q1 hP
    by_cases b1 : l.length > 1000
    · refine no _ (fun h => by have := h.2.1; omega) ?_
      rw [hP, if_pos (by omega)]
      exact j0t
    by_cases b2 : RowsS l
    · have hbt : b = true := hb2.2 b2
      by_cases b3 : mayH h1 h2 c = true
      · obtain ⟨r, hr, hr2⟩ := j0f q1 (by omega) b2 b3
        refine ⟨r, ?_, hr2⟩
        rw [hP, if_neg (by omega), ev_bind hb, ev_ite, if_pos hbt, ev_bind_c (hard_Check_ev _ _ _), if_pos b3]
        exact hr
      · refine no _ (fun h => b3 h.2.2.2.1) ?_
        rw [hP, if_neg (by omega), ev_bind hb, ev_ite, if_pos hbt, ev_bind_c (hard_Check_ev _ _ _), if_neg b3]
        exact j0t
    · refine no _ (fun h => b2 h.2.2.1) ?_
      rw [hP, if_neg (by omega), ev_bind hb, ev_ite, if_neg (fun h => b2 (hb2.1 h))]
      exact j0t
  have cnt : ¬ (i = 0 ∧ t = 0) → ∃ r : Int, Ev (fun k => (raft_counts.f i).bind fun t118 => (if t118 = true then ((raft_counts.f t).bind fun t119 => (if t119 = true then (if (l.length : Int) > 1000 then (raft_Check.j0 k true i t l h1 h2 c a) else ((raft_rows.f k l).bind fun t120 => (if t120 = true then ((hard_Check.f h1 h2 c).bind fun t121 => (raft_Check.j0 k (t121 != 0) i t l h1 h2 c a)) else (raft_Check.j0 k true i t l h1 h2 c a)))) else (raft_Check.j0 k true i t l h1 h2 c a))) else (raft_Check.j0 k true i t l h1 h2 c a))) r ∧ (r = 0 ↔ CheckS i t l h1 h2 c a) := by
    intro h0
    by_cases b1 : 1 ≤ i ∧ i ≤ 2147483647
    · by_cases b2 : 1 ≤ t ∧ t ≤ 2147483647
      · refine mid _ (.inr ⟨b1.1, b1.2, b2.1, b2.2⟩) (fun r => ?_)
        rw [ev_bind_c (raft_counts_ev _), ev_ite, if_pos (by simpa using b1), ev_bind_c (raft_counts_ev _), ev_ite, if_pos (by simpa using b2), ev_ite]
      · refine no _ (fun h => by have := h.1; omega) ?_
        rw [ev_bind_c (raft_counts_ev _), ev_ite, if_pos (by simpa using b1), ev_bind_c (raft_counts_ev _), ev_ite, if_neg (by simpa using b2)]
        exact j0t
    · refine no _ (fun h => by have := h.1; omega) ?_
      rw [ev_bind_c (raft_counts_ev _), ev_ite, if_neg (by simpa using b1)]
      exact j0t
  by_cases c1 : i = 0
  · by_cases c2 : t = 0
    · exact mid (fun k => raft_Check.f k i t l h1 h2 c a) (.inl ⟨c1, c2⟩) (fun r => by
        simp only [raft_Check.f, ev_ite]
        rw [if_pos c1, if_pos c2])
    · obtain ⟨r, hr, hr2⟩ := cnt (fun h => c2 h.2)
      refine ⟨r, ?_, hr2⟩
      simp only [raft_Check.f, ev_ite]
      rw [if_pos c1, if_neg c2]
      exact hr
  · obtain ⟨r, hr, hr2⟩ := cnt (fun h => c1 h.1)
    refine ⟨r, ?_, hr2⟩
    simp only [raft_Check.f, ev_ite]
    rw [if_neg c1]
    exact hr
theorem raft_Last_ev (i t : Int) (l : List EntS) (h1 h2 c a : Int) (hl : l.length ≤ 140737488351232) (hg : ∀ e ∈ l, goodR e) (hi : -9223372036854775808 ≤ i ∧ i ≤ 9223372036854775807) : ∃ r : Int × Int, Ev (fun k => raft_Last.f k i t l h1 h2 c a) r ∧ (CheckS i t l h1 h2 c a → r.1 = i + (l.length : Int)) := by
  obtain ⟨q, hq, hq2⟩ := raft_Check_ev i t l h1 h2 c a hl hg hi
  simp only [raft_Last.f]
  by_cases hc : CheckS i t l h1 h2 c a
  · have hq0 := hq2.2 hc
    by_cases hl0 : 0 < l.length
    · have e : wrap64 ((l.length : Int) - 1) = ((l.length - 1 : Nat) : Int) := by
        rw [w64 (by omega) (by omega)]
        omega
      refine ⟨(l[l.length - 1].f0, l[l.length - 1].f1), ?_, fun _ => ?_⟩
      · rw [ev_bind hq, ev_ite, if_pos hq0, ev_ite, if_pos (by omega), ev_ite, e, if_pos (by omega), ev_ite, if_pos (by omega), ev_some, rdE_get (by omega)]
      · have := check_ix hc (l.length - 1) (by omega)
        simp only [ixS] at this
        simp only
        omega
    · refine ⟨(i, t), ?_, fun _ => by simp only; omega⟩
      rw [ev_bind hq, ev_ite, if_pos hq0, ev_ite, if_neg (by omega), ev_some]
  · refine ⟨(0, 0), ?_, fun h => absurd h hc⟩
    rw [ev_bind hq, ev_ite, if_neg (fun h => hc (hq2.1 h)), ev_some]
theorem slices_Clone_byte_byte_ev {b : List Int} (h : b.length < 140737488355328) : slices_Clone_byte_byte.f b = some b := by
  unfold slices_Clone_byte_byte.f
  rw [if_pos h]
theorem raft_own_ev (a b c : Int) (s : ByteArray) (f : Bool) {l : List Int} (x y z u : Int) (h : l.length ≤ 140737488351232) : raft_own.f a b c s f l x y z u = some (a, b, c, s, f, l, x, y, z, u) := by
  unfold raft_own.f
  rw [slices_Clone_byte_byte_ev (by omega)]
  rfl
theorem raft_owns_ev (l : List EntS) (hl : l.length ≤ 1000000000000) (hg : ∀ e ∈ l, goodR e) : Ev (fun k => raft_owns.f k l) l := by
  have main : ∀ (d j : Nat) (acc : List EntS), l.length - j = d → j ≤ l.length → acc.length = j → Ev (fun k => raft_owns.l0 k acc l (l.length : Int) (j : Int)) (acc ++ l.drop j) := by
    intro d
    induction d with
    | zero =>
      intro j acc hd hj ha
      rw [ev_succ]
      simp only [raft_owns.l0, ev_ite]
      rw [if_neg (by omega), ev_some, List.drop_eq_nil_of_le (by omega), List.append_nil]
    | succ d ih =>
      intro j acc hd hj ha
      have hjl : j < l.length := by omega
      have hgj := hg _ (rdE_mem hjl)
      have hw : wrap64 ((j : Int) + 1) = ((j + 1 : Nat) : Int) := w64 (by omega) (by omega)
      rw [rdE_drop hjl]
      rw [ev_succ]
      simp only [raft_owns.l0, ev_ite, hw]
      generalize rd_T55 l (j : Int) = e at hgj ⊢
      rw [if_pos (by omega), if_pos (by omega), if_pos (by omega), ev_bind_c (raft_own_ev _ _ _ _ _ _ _ _ _ hgj.2), ev_ite, if_pos (by omega)]
      refine ev_eq (ih (j + 1) (acc ++ [e]) (by omega) (by omega) (by rw [List.length_append, List.length_singleton]; omega)) ?_
      rw [List.append_assoc, List.singleton_append]
  exact main (l.length - 0) 0 [] rfl (by omega) rfl
theorem raft_Term_ev {i t : Int} {l : List EntS} {h1 h2 c a : Int} (hc : CheckS i t l h1 h2 c a) (hg : ∀ e ∈ l, goodR e) {p : Int} {o : Nat} (hp : p = i + o) (ho : o ≤ l.length) : Ev (fun k => raft_Term.f k i t l h1 h2 c a p) (termR tmS t l o, 0) := by
  have hl : l.length ≤ 1000 := hc.2.1
  have hir : 0 ≤ i ∧ i ≤ 2147483647 := by have := hc.1; omega
  obtain ⟨q, hq, hq2⟩ := raft_Check_ev i t l h1 h2 c a (by omega) hg (by omega)
  obtain ⟨r, hr, hr2⟩ := raft_Last_ev i t l h1 h2 c a (by omega) hg (by omega)
  have hr3 := hr2 hc
  simp only [raft_Term.f]
  rw [ev_bind hr, ev_bind hq, ev_ite, if_pos (hq2.2 hc), ev_ite, if_neg (by omega), ev_ite, if_neg (by omega), ev_ite]
  by_cases h0 : o = 0
  · subst h0
    rw [if_pos (by omega), ev_some, termR_zero]
  · have e : wrap64 (wrap64 (p - i) - 1) = ((o - 1 : Nat) : Int) := by
      rw [w64 (x := p - i) (by omega) (by omega), w64 (by omega) (by omega)]
      omega
    rw [if_neg (by omega), ev_ite, e, if_pos (by omega), ev_ite, if_pos (by omega), ev_some, termR_pos t l (by omega) ho, rdE_get (by omega)]
theorem garnerlaw23_awake_ev : Ev (fun k => garnerlaw23_awake.f k) true := Ev.of (fun k => garnerlaw23_awake.mono k) (k := 60) (by decide +kernel)
theorem hard_Step_ev (t v c t' v' c' last : Int) : Ev (fun k => hard_Step.f k t v c t' v' c' last) (stepH t v c t' v' c' last) := by
  have h2 : ∀ b : Bool, b = decide (t' = t ∧ v ≠ 0 ∧ v' ≠ v) → Ev (fun k => hard_Step.j2 k last b t' v' c') (if t' = t ∧ v ≠ 0 ∧ v' ≠ v then 4 else if last < c' then 3 else 0) := by
    intro b hb
    rw [ev_succ]
    simp only [hard_Step.j2, ev_ite, ev_some, hb, decide_eq_true_eq]
    repeat' split
    all_goals first | rfl | omega
  have h1 : ∀ b : Bool, b = decide (t' < t ∨ c' < c) → Ev (fun k => hard_Step.j1 k last b t v c t' v' c') (if t' < t ∨ c' < c ∨ (t' = t ∧ v ≠ 0 ∧ v' ≠ v) then 4 else if last < c' then 3 else 0) := by
    intro b hb
    rw [ev_succ]
    simp only [hard_Step.j1, ev_ite, ev_some, hb, decide_eq_true_eq]
    by_cases hc : t' < t ∨ c' < c
    · rw [if_pos hc, if_pos (by omega)]
    · rw [if_neg hc]
      by_cases ht : t' = t
      · rw [if_pos ht]
        by_cases hv : v = 0
        · rw [if_pos hv]
          refine ev_eq (h2 false (by simp [hv])) ?_
          repeat' split
          all_goals first | rfl | omega
        · rw [if_neg hv]
          refine ev_eq (h2 _ (by rw [Bool.eq_iff_iff]; simp [hv, ht])) ?_
          repeat' split
          all_goals first | rfl | omega
      · rw [if_neg ht]
        refine ev_eq (h2 false (by simp [ht])) ?_
        repeat' split
        all_goals first | rfl | omega
  have h0 : ∀ b : Bool, b = (mayH t v c == false || mayH t' v' c' == false) → Ev (fun k => hard_Step.j0 k last b t v c t' v' c') (stepH t v c t' v' c' last) := by
    intro b hb
    rw [ev_succ]
    simp only [hard_Step.j0, ev_ite, ev_some]
    unfold stepH
    by_cases hm : mayH t v c = false ∨ mayH t' v' c' = false
    · rw [if_pos (by rw [hb]; simpa using hm), if_pos hm]
    · rw [if_neg (by rw [hb]; simpa using hm), if_neg hm]
      by_cases ht : t' < t
      · rw [if_pos ht]
        exact h1 true (by simp [ht])
      · rw [if_neg ht]
        exact h1 _ (by simp [ht])
  simp only [hard_Step.f, hard_Check_ev, Option.bind_some]
  by_cases hm : mayH t v c = true
  · simp only [hm, if_true]
    refine h0 _ ?_
    rw [hm]
    cases mayH t' v' c' <;> rfl
  · have hf : mayH t v c = false := by simpa using hm
    simp only [hf]
    exact h0 true (by rw [hf]; rfl)
theorem raft_Vote_ev {i t : Int} {l : List EntS} {h1 h2 c a : Int} (hc : CheckS i t l h1 h2 c a) (hg : ∀ e ∈ l, goodR e) (x y z : Int) : Ev (fun k => raft_Vote.f k i t l h1 h2 c a x y z) (if stepH h1 h2 c x y z (i + l.length) = 0 then (i, t, l, x, y, z, a, 0) else (0, 0, [], 0, 0, 0, 0, stepH h1 h2 c x y z (i + l.length))) := by
  have hl : l.length ≤ 1000 := hc.2.1
  have hir : 0 ≤ i ∧ i ≤ 2147483647 := by have := hc.1; omega
  obtain ⟨q, hq, hq2⟩ := raft_Check_ev i t l h1 h2 c a (by omega) hg (by omega)
  obtain ⟨r, hr, hr2⟩ := raft_Last_ev i t l h1 h2 c a (by omega) hg (by omega)
  have hr3 := hr2 hc
  simp only [raft_Vote.f]
  rw [ev_bind hq, ev_ite, if_pos (hq2.2 hc), ev_bind hr, hr3, ev_bind (hard_Step_ev _ _ _ _ _ _ _), ev_ite]
  by_cases h : stepH h1 h2 c x y z (i + (l.length : Int)) = 0
  · rw [if_pos h, if_pos h, ev_bind (raft_owns_ev l (by omega) hg), ev_some]
  · rw [if_neg h, if_neg h, ev_some]
theorem raft_Apply_ev {i t : Int} {l : List EntS} {h1 h2 c a : Int} (hc : CheckS i t l h1 h2 c a) (hg : ∀ e ∈ l, goodR e) (n : Int) : Ev (fun k => raft_Apply.f k i t l h1 h2 c a n) (if n < a then (0, 0, [], 0, 0, 0, 0, [], 4) else if n > c then (0, 0, [], 0, 0, 0, 0, [], 3) else (i, t, l, h1, h2, c, n, (l.take (n - i).toNat).drop (a - i).toNat, 0)) := by
  have hl : l.length ≤ 1000 := hc.2.1
  have hir : 0 ≤ i ∧ i ≤ 2147483647 := by have := hc.1; omega
  obtain ⟨h3, h4, h5⟩ := hc.2.2.2.2.2
  obtain ⟨q, hq, hq2⟩ := raft_Check_ev i t l h1 h2 c a (by omega) hg (by omega)
  simp only [raft_Apply.f]
  rw [ev_bind hq, ev_ite, if_pos (hq2.2 hc), ev_ite]
  by_cases b1 : n < a
  · rw [if_pos b1, if_pos b1, ev_some]
  rw [if_neg b1, if_neg b1, ev_ite]
  by_cases b2 : n > c
  · rw [if_pos b2, if_pos b2, ev_some]
  have w1 : wrap64 (a - i) = a - i := w64 (by omega) (by omega)
  have w2 : wrap64 (n - i) = n - i := w64 (by omega) (by omega)
  rw [if_neg b2, if_neg b2]
  simp only [w1, w2, ev_ite]
  rw [if_pos (by omega), if_pos (by omega), if_pos (by omega), ev_bind (raft_owns_ev _ (by rw [List.length_drop, List.length_take]; omega) (fun e he => hg e (List.mem_of_mem_take (List.mem_of_mem_drop he)))), ev_bind (raft_owns_ev l (by omega) hg), ev_some]
theorem raft_Compact_ev {i t : Int} {l : List EntS} {h1 h2 c a : Int} (hc : CheckS i t l h1 h2 c a) (hg : ∀ e ∈ l, goodR e) (n : Int) (h : ¬ n ≤ i) (h' : ¬ n > a) (q : Nat) (hq : (q : Int) = n - i) (hq0 : 0 < q) (hql : q ≤ l.length) : Ev (fun k => raft_Compact.f k i t l h1 h2 c a n) (n, tmS (l[q - 1]'(by omega)), l.drop q, h1, h2, c, a, 0) := by
  have hl : l.length ≤ 1000 := hc.2.1
  have hir : 0 ≤ i ∧ i ≤ 2147483647 := by have := hc.1; omega
  obtain ⟨h3, h4, h5⟩ := hc.2.2.2.2.2
  obtain ⟨s, hs, hs2⟩ := raft_Check_ev i t l h1 h2 c a (by omega) hg (by omega)
  have w1 : wrap64 (n - i) = (q : Int) := by rw [w64 (by omega) (by omega), hq]
  have w2 : wrap64 ((q : Int) - 1) = ((q - 1 : Nat) : Int) := by rw [w64 (by omega) (by omega)]; omega
  simp only [raft_Compact.f]
  rw [ev_bind hs, ev_ite, if_pos (hs2.2 hc), ev_ite, if_neg h, ev_ite, if_neg h']
  simp only [w1, w2, ev_ite, Int.toNat_natCast, rdE_get (show q - 1 < l.length by omega)]
  rw [if_pos (by omega), if_pos (by omega), if_pos (by omega), if_pos (by omega), ev_bind (raft_owns_ev _ (by rw [List.length_drop]; omega) (fun e he => hg e (List.mem_of_mem_drop he))), ev_some]
theorem raft_Term_far {i t : Int} {l : List EntS} {h1 h2 c a : Int} (hc : CheckS i t l h1 h2 c a) (hg : ∀ e ∈ l, goodR e) {p : Int} (hp : p > i + l.length) : Ev (fun k => raft_Term.f k i t l h1 h2 c a p) (0, 3) := by
  have hl : l.length ≤ 1000 := hc.2.1
  have hir : 0 ≤ i ∧ i ≤ 2147483647 := by have := hc.1; omega
  obtain ⟨q, hq, hq2⟩ := raft_Check_ev i t l h1 h2 c a (by omega) hg (by omega)
  obtain ⟨r, hr, hr2⟩ := raft_Last_ev i t l h1 h2 c a (by omega) hg (by omega)
  have hr3 := hr2 hc
  simp only [raft_Term.f]
  rw [ev_bind hr, ev_bind hq, ev_ite, if_pos (hq2.2 hc), ev_ite, if_neg (by omega), ev_ite, if_pos (by omega), ev_some]
def restS (i t : Int) (l : List EntS) (n u : Int) : List EntS := if n ≤ i + l.length ∧ termR tmS t l (n - i).toNat = u then l.drop (n - i).toNat else []
theorem raft_Reset_ev {i t : Int} {l : List EntS} {h1 h2 c a : Int} (hc : CheckS i t l h1 h2 c a) (hg : ∀ e ∈ l, goodR e) (n u : Int) (hn : 1 ≤ n ∧ n ≤ 2147483647) (hu : 1 ≤ u ∧ u ≤ 2147483647) (hna : a < n) :
    Ev (fun k => raft_Reset.f k i t l h1 h2 c a n u) (n, u, restS i t l n u, (if h1 < u then u else h1), (if h1 < u then 0 else h2), mn (mx c n) (n + (restS i t l n u).length), n, 0) := by
  have hl : l.length ≤ 1000 := hc.2.1
  have hir : 0 ≤ i ∧ i ≤ 2147483647 := by have := hc.1; omega
  obtain ⟨h3, h4, h5⟩ := hc.2.2.2.2.2
  obtain ⟨s, hs, hs2⟩ := raft_Check_ev i t l h1 h2 c a (by omega) hg (by omega)
  have j1 : ∀ b : Bool, (b = true ↔ (n ≤ i + l.length ∧ termR tmS t l (n - i).toNat = u)) → Ev (fun k => raft_Reset.j1 k n u [] b i t l h1 h2 c a) (n, u, restS i t l n u, (if h1 < u then u else h1), (if h1 < u then 0 else h2), mn (mx c n) (n + (restS i t l n u).length), n, 0) := by
    intro b hb
    unfold restS
    rw [ev_succ]
    simp only [raft_Reset.j1, ev_ite]
    have w1 : ∀ m : Nat, m ≤ 1000 → wrap64 (n + (m : Int)) = n + m := fun m hm => w64 (by omega) (by omega)
    by_cases h : n ≤ i + l.length ∧ termR tmS t l (n - i).toNat = u
    · rw [if_pos (hb.2 h), w64 (x := n - i) (by omega) (by omega), if_pos (by omega), if_pos (by omega), ev_bind (raft_owns_ev _ (by rw [List.length_drop]; omega) (fun e he => hg e (List.mem_of_mem_drop he))), ev_ite, w1 _ (by rw [List.length_drop]; omega), if_pos h]
      split
      · rw [ev_some]
      · rw [ev_some]
    · rw [if_neg (fun q => h (hb.1 q)), w1 _ (by simp), if_neg h]
      split
      · rw [ev_some]
      · rw [ev_some]
  simp only [raft_Reset.f]
  rw [ev_bind hs, ev_ite, if_pos (hs2.2 hc), ev_bind_c (raft_counts_ev _), ev_ite, if_pos (by simpa using hn), ev_bind_c (raft_counts_ev _), ev_succ]
  simp only [raft_Reset.j0, ev_ite]
  rw [if_neg (by simpa using hu), if_neg (by omega)]
  by_cases hf : n ≤ i + l.length
  · rw [ev_bind (raft_Term_ev hc hg (p := n) (o := (n - i).toNat) (by omega) (by omega)), ev_ite, if_pos (by trivial)]
    exact j1 _ (by simp [hf])
  · rw [ev_bind (raft_Term_far hc hg (by omega)), ev_ite, if_neg (by simp)]
    exact j1 _ (by simp [hf])
theorem garnerref23_counts_ev (n : Int) : garnerref23_counts.f n = some (decide (1 ≤ n ∧ n ≤ 2147483647)) := by
  unfold garnerref23_counts.f
  split
  · congr 1
    rw [decide_eq_decide]
    omega
  · congr 1
    symm
    rw [decide_eq_false_iff_not]
    omega
theorem garnerref23_Rows_ev {l : List EntS} (hl : l.length ≤ 1000000000000) (h : RowsS l) : Ev (fun k => garnerref23_Rows.f k l) true := by
  have main : ∀ (d j : Nat), l.length - j = d → j ≤ l.length → Ev (fun k => garnerref23_Rows.l0 k l (j : Int)) true := by
    intro d
    induction d with
    | zero =>
      intro j hd hj
      rw [ev_succ]
      simp only [garnerref23_Rows.l0, ev_ite]
      rw [if_neg (by omega), ev_some]
    | succ d ih =>
      intro j hd hj
      have hjl : j < l.length := by omega
      have hw : wrap64 ((j : Int) + 1) = ((j + 1 : Nat) : Int) := w64 (by omega) (by omega)
      have h1 := h.1 j hjl
      simp only [ixS, tmS] at h1
      have hn := ih (j + 1) (by omega) (by omega)
      rw [ev_succ]
      simp only [garnerref23_Rows.l0, ev_ite, hw, rdE_get hjl]
      rw [if_pos (by omega), if_pos (by omega), ev_bind_c (garnerref23_counts_ev _), ev_ite, if_pos (by simp; omega), ev_bind_c (garnerref23_counts_ev _), ev_ite, if_pos (by simp; omega), ev_ite]
      by_cases h0 : j = 0
      · rw [if_neg (by omega)]
        exact hn
      · have h2 := h.2 (j - 1) (by omega)
        have e : j - 1 + 1 = j := by omega
        simp only [e, ixS, tmS] at h2
        have w1 : wrap64 ((j : Int) - 1) = ((j - 1 : Nat) : Int) := by rw [w64 (by omega) (by omega)]; omega
        simp only [w1, ev_ite, rdE_get (show j - 1 < l.length by omega)]
        rw [if_pos (by omega), if_pos (by omega), if_pos (by omega), w64 (by omega) (by omega), if_pos (by omega), if_neg (by omega)]
        exact hn
  exact main (l.length - 0) 0 rfl (by omega)
theorem garnerref22_May_ev (t v c : Int) : garnerref22_May.f t v c = some (mayH t v c) := by
  unfold garnerref22_May.f mayH
  repeat' split
  all_goals (congr 1; first | (symm; rw [decide_eq_false_iff_not]; omega) | (symm; rw [decide_eq_true_eq]; omega) | (rw [Bool.eq_iff_iff]; simp only [decide_eq_true_eq, beq_iff_eq]; omega))
theorem garnerref23_May_yes {i t : Int} {l : List EntS} {h1 h2 c a : Int} (hc : CheckS i t l h1 h2 c a) : Ev (fun k => garnerref23_May.f k i t l h1 h2 c a) true := by
  obtain ⟨g1, g2, g3, g4, g5, g6, g7, g8⟩ := hc
  have hir : 0 ≤ i ∧ i ≤ 2147483647 ∧ 0 ≤ t ∧ t ≤ 2147483647 := by omega
  have hb : ¬ (((i == 0) != (t == 0)) = true) := by
    have : (i == 0) = (t == 0) := by
      rw [Bool.eq_iff_iff]
      simp only [beq_iff_eq]
      omega
    rw [this]
    simp
  simp only [garnerref23_May.f, ev_ite]
  rw [if_neg (by omega), if_neg (by omega), if_neg (by omega), if_neg (by omega), if_neg hb, if_neg (by omega), ev_bind (garnerref23_Rows_ev (by omega) g3), ev_ite, if_pos (by trivial), ev_bind_c (garnerref22_May_ev _ _ _), g4, ev_succ]
  simp only [garnerref23_May.j0, ev_ite]
  rw [if_neg (by simp)]
  have w1 : wrap64 (i + (l.length : Int)) = i + l.length := w64 (by omega) (by omega)
  have fin : Ev (fun k => some (decide (c ≤ wrap64 (i + (l.length : Int))))) true := by
    rw [w1, ev_some]
    simpa using g8
  by_cases h0 : 0 < l.length
  · obtain ⟨k1, k2⟩ := g5 h0
    simp only [ixS, tmS] at k1 k2
    have e0 : rd_T55 l 0 = l[0] := rdE_get h0
    have k3 := (g3.1 0 h0).1
    have k4 := (g3.1 0 h0).2.1
    simp only [ixS] at k3 k4
    simp only [e0]
    rw [if_pos (by omega), if_pos (by omega), w64 (x := l[0].f0 - 1) (by omega) (by omega), if_pos (by omega), if_neg (by omega), if_pos (by omega), if_pos (by omega)]
    exact fin
  · rw [if_neg (by omega), if_pos (by omega), if_pos (by omega)]
    exact fin
theorem garnerref02_same_l0_ev (x y : List Int) (hxy : x.length = y.length) (hl : x.length ≤ maxLen) : ∀ (d i : Nat), x.length - i = d → i ≤ x.length → Ev (fun k => garnerref02_same.l0 k x y (i : Int)) (decide (x.drop i = y.drop i)) := by
  have hlm := maxLen_le hl
  intro d
  induction d with
  | zero =>
    intro i hd hi
    rw [ev_succ]
    simp only [garnerref02_same.l0, ev_ite]
    rw [if_neg (by omega), ev_some, List.drop_eq_nil_of_le (by omega), List.drop_eq_nil_of_le (by omega)]
    simp
  | succ d ih =>
    intro i hd hi
    rw [ev_succ]
    simp only [garnerref02_same.l0, ev_ite]
    rw [if_pos (by omega), if_pos (by omega), if_pos (by omega), w64 (by omega) (by omega), drop_eq (xs := x) (by omega), drop_eq (xs := y) (by omega)]
    by_cases h : rd x (i : Int) = rd y (i : Int)
    · rw [if_pos h, h]
      refine ev_eq (ih (i + 1) (by omega) (by omega)) ?_
      simp
    · rw [if_neg h, ev_some]
      simp [h]
theorem garnerref02_same_ev {x y : List Int} (hl : x.length ≤ maxLen) : Ev (fun k => garnerref02_same.f k x y) (decide (x = y)) := by
  simp only [garnerref02_same.f, ev_ite]
  by_cases h : x.length = y.length
  · rw [if_pos (by omega)]
    exact garnerref02_same_l0_ev x y h hl (x.length - 0) 0 rfl (by omega)
  · rw [if_neg (by omega), ev_some]
    symm
    simp only [decide_eq_false_iff_not]
    rintro rfl
    exact h rfl
theorem garnerref02_Bytes_ev {x y : List Int} (hl : x.length ≤ maxLen) : Ev (fun k => garnerref02_Bytes.f k x y) (decide (x = y)) := by
  simp only [garnerref02_Bytes.f]
  rw [ev_bind (garnerref02_same_ev hl), ev_some]
theorem garnerref06_Same_self (l : List S55) (hl : l.length ≤ 140737488351232) (hg : ∀ e ∈ l, e.f4.f1.length ≤ maxLen) : Ev (fun k => garnerref06_Same.f k l l) true := by
  have main : ∀ (d j : Nat), l.length - j = d → j ≤ l.length → Ev (fun k => garnerref06_Same.l0 k l l (j : Int)) true := by
    intro d
    induction d with
    | zero =>
      intro j hd hj
      rw [ev_succ]
      simp only [garnerref06_Same.l0, ev_ite]
      rw [if_neg (by omega), ev_some]
    | succ d ih =>
      intro j hd hj
      have hjl : j < l.length := by omega
      have e : rd_T55 l (j : Int) = l[j] := by simp [rd_T55, hjl]
      have hgj := hg _ (List.getElem_mem hjl)
      have hw : wrap64 ((j : Int) + 1) = ((j + 1 : Nat) : Int) := w64 (by omega) (by omega)
      rw [ev_succ]
      simp only [garnerref06_Same.l0, ev_ite, hw, e]
      generalize l[j] = x at hgj ⊢
      have hs : Ev (fun k => garnerref05_Same.f k x.f4.f0 x.f4.f1 x.f4.f2.f0 x.f4.f2.f1 x.f4.f2.f2 x.f4.f2.f3 x.f4.f0 x.f4.f1 x.f4.f2.f0 x.f4.f2.f1 x.f4.f2.f2 x.f4.f2.f3) true := by
        simp only [garnerref05_Same.f, ev_ite]
        rw [if_pos (by simp), if_pos (by simp), ev_bind (garnerref02_Bytes_ev hgj), ev_some]
        simp
      rw [if_pos (by omega), if_pos (by omega), if_pos (by omega), if_pos (by trivial), if_pos (by trivial), if_pos (by trivial), if_pos (by trivial), ev_bind hs, ev_ite, if_pos (by trivial)]
      exact ih (j + 1) (by omega) (by omega)
  simp only [garnerref06_Same.f, ev_ite]
  rw [if_pos (by trivial)]
  exact main (l.length - 0) 0 rfl (by omega)
theorem garnerref23_Same_self (i t : Int) (l : List S55) (x y z u : Int) (hl : l.length ≤ 140737488351232) (hg : ∀ e ∈ l, e.f4.f1.length ≤ maxLen) : Ev (fun k => garnerref23_Same.f k i t l x y z u i t l x y z u) true := by
  simp only [garnerref23_Same.f, ev_ite]
  rw [if_pos (by trivial), if_pos (by trivial), if_pos (by simp), if_pos (by trivial), ev_bind (garnerref06_Same_self l hl hg), ev_some]
theorem garnerref22_Follows_ev (t v c t' v' c' : Int) : garnerref22_Follows.f t v c t' v' c' = some (decide (¬ (t' < t ∨ c' < c ∨ (t' = t ∧ v ≠ 0 ∧ v' ≠ v)))) := by
  unfold garnerref22_Follows.f
  repeat' split
  all_goals (congr 1; first | (symm; rw [decide_eq_false_iff_not]; omega) | (symm; rw [decide_eq_true_eq]; omega) | (rw [Bool.eq_iff_iff]; simp only [decide_eq_true_eq, beq_iff_eq]; omega))
theorem garnerref22_Step_ev (t v c t' v' c' last : Int) : Ev (fun k => garnerref22_Step.f k t v c t' v' c' last) (stepH t v c t' v' c' last) := by
  have h0 : ∀ b : Bool, b = (mayH t v c == false || mayH t' v' c' == false) → Ev (fun k => garnerref22_Step.j0 k last b t v c t' v' c') (stepH t v c t' v' c' last) := by
    intro b hb
    rw [ev_succ]
    simp only [garnerref22_Step.j0, garnerref22_Follows_ev, Option.bind_some, ev_ite, ev_some]
    unfold stepH
    by_cases hm : mayH t v c = false ∨ mayH t' v' c' = false
    · rw [if_pos (by rw [hb]; simpa using hm), if_pos hm]
    · rw [if_neg (by rw [hb]; simpa using hm), if_neg hm]
      simp only [decide_eq_true_eq]
      repeat' split
      all_goals first | rfl | omega
  simp only [garnerref22_Step.f, garnerref22_May_ev, Option.bind_some]
  by_cases hm : mayH t v c = true
  · simp only [hm, if_true]
    refine h0 _ ?_
    rw [hm]
    cases mayH t' v' c' <;> rfl
  · have hf : mayH t v c = false := by simpa using hm
    simp only [hf]
    exact h0 true (by rw [hf]; rfl)
theorem ref_rows (k : Nat) (l : List EntS) (j : Int) : garnerref23_Rows.l0 k l j = raft_rows.l0 k l l (l.length : Int) j := by
  induction k generalizing j with
  | zero => rfl
  | succ k ih =>
    simp only [garnerref23_Rows.l0, raft_rows.l0, garnerref23_counts_ev, raft_counts_ev, ih]
    by_cases h : j < l.length
    · simp only [if_pos h]
    · simp only [if_neg h]
theorem ref_rows_iff (l : List EntS) (hl : l.length ≤ 140737488351232) (hg : ∀ e ∈ l, goodR e) : ∃ b, Ev (fun k => garnerref23_Rows.f k l) b ∧ (b = true ↔ RowsS l) := by
  obtain ⟨b, hb, hb2⟩ := raft_rows_ev l hl hg
  refine ⟨b, ?_, hb2⟩
  simp only [garnerref23_Rows.f, ref_rows]
  simp only [raft_rows.f] at hb
  exact hb
theorem ref_May_no {i t : Int} {l : List EntS} {h1 h2 c a : Int} (hl : l.length ≤ 140737488351232) (hg : ∀ e ∈ l, goodR e) (hn : ¬ CheckS i t l h1 h2 c a) : Ev (fun k => garnerref23_May.f k i t l h1 h2 c a) false := by
  have j0t : Ev (fun k => garnerref23_May.j0 k true i t l h1 h2 c a) false := by
    rw [ev_succ]
    simp only [garnerref23_May.j0, ev_ite]
    rw [if_pos (by trivial), ev_some]
  simp only [garnerref23_May.f, ev_ite]
  by_cases c1 : i < 0
  · rw [if_pos c1]; exact j0t
  rw [if_neg c1]
  by_cases c2 : i > 2147483647
  · rw [if_pos c2]; exact j0t
  rw [if_neg c2]
  by_cases c3 : t < 0
  · rw [if_pos c3]; exact j0t
  rw [if_neg c3]
  by_cases c4 : t > 2147483647
  · rw [if_pos c4]; exact j0t
  rw [if_neg c4]
  by_cases c5 : ((i == 0) != (t == 0)) = true
  · rw [if_pos c5]; exact j0t
  rw [if_neg c5]
  have c5' : i = 0 ↔ t = 0 := by
    rw [Bool.not_eq_true, bne_eq_false_iff_eq, Bool.eq_iff_iff, beq_iff_eq, beq_iff_eq] at c5
    exact c5
  by_cases c6 : (l.length : Int) > 1000
  · rw [if_pos c6]; exact j0t
  rw [if_neg c6]
  obtain ⟨b, hb, hb2⟩ := ref_rows_iff l hl hg
  rw [ev_bind hb, ev_ite]
  by_cases c7 : b = true
  rotate_left
  · rw [if_neg c7]; exact j0t
  rw [if_pos c7, ev_bind_c (garnerref22_May_ev _ _ _)]
  by_cases c8 : mayH h1 h2 c = true
  rotate_left
  · rw [Bool.not_eq_true] at c8
    rw [c8]; exact j0t
  rw [c8, ev_succ]
  simp only [garnerref23_May.j0, ev_ite]
  rw [if_neg (by simp)]
  have w1 : wrap64 (i + (l.length : Int)) = i + l.length := w64 (by omega) (by omega)
  have tail : (∀ h : 0 < l.length, ixS l[0] = i + 1 ∧ t ≤ tmS l[0]) → (if i ≤ a then (if a ≤ c then Ev (fun _ => some (decide (c ≤ wrap64 (i + (l.length : Int))))) false else Ev (fun _ => some false) false) else Ev (fun _ => some false) false) := by
    intro hh
    by_cases d1 : i ≤ a
    · rw [if_pos d1]
      by_cases d2 : a ≤ c
      · rw [if_pos d2, w1, ev_some, decide_eq_false_iff_not]
        intro d3
        exact hn ⟨by omega, by omega, hb2.1 c7, c8, hh, d1, d2, d3⟩
      · rw [if_neg d2, ev_some]
    · rw [if_neg d1, ev_some]
  by_cases h0 : 0 < l.length
  · have e0 : rd_T55 l 0 = l[0] := rdE_get h0
    have k3 := ((hb2.1 c7).1 0 h0).1
    have k4 := ((hb2.1 c7).1 0 h0).2.1
    simp only [ixS] at k3 k4
    simp only [e0]
    rw [if_pos (by omega), if_pos (by omega), w64 (x := l[0].f0 - 1) (by omega) (by omega)]
    by_cases d1 : l[0].f0 - 1 = i
    · rw [if_pos d1]
      by_cases d2 : l[0].f1 < t
      · rw [if_pos d2, ev_some]
      · rw [if_neg d2]
        exact tail (fun _ => ⟨by simp only [ixS]; omega, by simp only [tmS]; omega⟩)
    · rw [if_neg d1, ev_some]
  · rw [if_neg (by omega)]
    exact tail (fun h => absurd h h0)
abbrev LogS : Type := Int × Int × List EntS × Int × Int × Int × Int × Int
def fineS (l : List EntS) : Prop := l.length ≤ 140737488351232 ∧ ∀ e ∈ l, e.f4.f1.length ≤ maxLen
theorem fine_of {l : List EntS} {l' : List EntS} (hl : l.length ≤ 1000) (hg : ∀ e ∈ l, goodR e ∧ e.f4.f1.length ≤ maxLen) (h : ∀ e ∈ l', e ∈ l) (hl' : l'.length ≤ l.length) : fineS l' := ⟨by omega, fun e he => (hg e (h e he)).2⟩
theorem fine_nil : fineS [] := ⟨by simp, fun e he => absurd he (by simp)⟩
theorem bad_Vote {i t : Int} {l : List EntS} {h1 h2 c a : Int} (hl : l.length ≤ 140737488351232) (hg : ∀ e ∈ l, goodR e) (hi : -9223372036854775808 ≤ i ∧ i ≤ 9223372036854775807) (hn : ¬ CheckS i t l h1 h2 c a) (x y z : Int) : Ev (fun k => raft_Vote.f k i t l h1 h2 c a x y z) (0, 0, [], 0, 0, 0, 0, 1) := by
  obtain ⟨q, hq, hq2⟩ := raft_Check_ev i t l h1 h2 c a hl hg hi
  simp only [raft_Vote.f]
  rw [ev_bind hq, ev_ite, if_neg (fun h => hn (hq2.1 h)), ev_some]
theorem bad_Apply {i t : Int} {l : List EntS} {h1 h2 c a : Int} (hl : l.length ≤ 140737488351232) (hg : ∀ e ∈ l, goodR e) (hi : -9223372036854775808 ≤ i ∧ i ≤ 9223372036854775807) (hn : ¬ CheckS i t l h1 h2 c a) (n : Int) : Ev (fun k => raft_Apply.f k i t l h1 h2 c a n) (0, 0, [], 0, 0, 0, 0, [], 1) := by
  obtain ⟨q, hq, hq2⟩ := raft_Check_ev i t l h1 h2 c a hl hg hi
  simp only [raft_Apply.f]
  rw [ev_bind hq, ev_ite, if_neg (fun h => hn (hq2.1 h)), ev_some]
theorem bad_Compact {i t : Int} {l : List EntS} {h1 h2 c a : Int} (hl : l.length ≤ 140737488351232) (hg : ∀ e ∈ l, goodR e) (hi : -9223372036854775808 ≤ i ∧ i ≤ 9223372036854775807) (hn : ¬ CheckS i t l h1 h2 c a) (n : Int) : Ev (fun k => raft_Compact.f k i t l h1 h2 c a n) (0, 0, [], 0, 0, 0, 0, 1) := by
  obtain ⟨q, hq, hq2⟩ := raft_Check_ev i t l h1 h2 c a hl hg hi
  simp only [raft_Compact.f]
  rw [ev_bind hq, ev_ite, if_neg (fun h => hn (hq2.1 h)), ev_some]
theorem bad_Reset {i t : Int} {l : List EntS} {h1 h2 c a : Int} (hl : l.length ≤ 140737488351232) (hg : ∀ e ∈ l, goodR e) (hi : -9223372036854775808 ≤ i ∧ i ≤ 9223372036854775807) (hn : ¬ CheckS i t l h1 h2 c a) (n u : Int) : Ev (fun k => raft_Reset.f k i t l h1 h2 c a n u) (0, 0, [], 0, 0, 0, 0, 1) := by
  obtain ⟨q, hq, hq2⟩ := raft_Check_ev i t l h1 h2 c a hl hg hi
  simp only [raft_Reset.f]
  rw [ev_bind hq, ev_ite, if_neg (fun h => hn (hq2.1 h)), ev_succ]
  simp only [raft_Reset.j0, ev_ite]
  rw [if_pos (by trivial), ev_some]
theorem both_Vote {i t : Int} {l : List EntS} {h1 h2 c a : Int} (hc : CheckS i t l h1 h2 c a) (hg : ∀ e ∈ l, goodR e ∧ e.f4.f1.length ≤ maxLen) (x y z : Int) : ∃ o : LogS, Ev (fun k => raft_Vote.f k i t l h1 h2 c a x y z) o ∧ Ev (fun k => garnerref23_Vote.f k i t l h1 h2 c a x y z) o ∧ fineS o.2.2.1 := by
  have hl : l.length ≤ 1000 := hc.2.1
  have hir : 0 ≤ i ∧ i ≤ 2147483647 := by have := hc.1; omega
  refine ⟨_, raft_Vote_ev hc (fun e he => (hg e he).1) x y z, ?_, ?_⟩
  · have hL : garnerref23_Last.f i t l h1 h2 c a = some (i + (l.length : Int)) := by
      simp only [garnerref23_Last.f]
      rw [w64 (by omega) (by omega)]
    simp only [garnerref23_Vote.f]
    rw [ev_bind_c hL, ev_bind (garnerref22_Step_ev _ _ _ _ _ _ _), ev_ite]
    split
    · rw [ev_some]
    · rw [ev_some]
  · split
    · exact fine_of hl hg (fun e he => he) (Nat.le_refl _)
    · exact fine_nil
theorem both_Apply {i t : Int} {l : List EntS} {h1 h2 c a : Int} (hc : CheckS i t l h1 h2 c a) (hg : ∀ e ∈ l, goodR e ∧ e.f4.f1.length ≤ maxLen) (n : Int) : ∃ (o : LogS) (m : List EntS), Ev (fun k => raft_Apply.f k i t l h1 h2 c a n) (o.1, o.2.1, o.2.2.1, o.2.2.2.1, o.2.2.2.2.1, o.2.2.2.2.2.1, o.2.2.2.2.2.2.1, m, o.2.2.2.2.2.2.2) ∧ Ev (fun k => garnerref23_Apply.f k i t l h1 h2 c a n) (o.1, o.2.1, o.2.2.1, o.2.2.2.1, o.2.2.2.2.1, o.2.2.2.2.2.1, o.2.2.2.2.2.2.1, m, o.2.2.2.2.2.2.2) ∧ fineS o.2.2.1 ∧ fineS m := by
  have hl : l.length ≤ 1000 := hc.2.1
  have hir : 0 ≤ i ∧ i ≤ 2147483647 := by have := hc.1; omega
  obtain ⟨h3, h4, h5⟩ := hc.2.2.2.2.2
  have A := raft_Apply_ev hc (fun e he => (hg e he).1) n
  by_cases b1 : n < a
  · rw [if_pos b1] at A
    refine ⟨(0, 0, [], 0, 0, 0, 0, 4), [], A, ?_, fine_nil, fine_nil⟩
    simp only [garnerref23_Apply.f, ev_ite]
    rw [if_pos b1, ev_some]
  rw [if_neg b1] at A
  by_cases b2 : n > c
  · rw [if_pos b2] at A
    refine ⟨(0, 0, [], 0, 0, 0, 0, 3), [], A, ?_, fine_nil, fine_nil⟩
    simp only [garnerref23_Apply.f, ev_ite]
    rw [if_neg b1, if_pos b2, ev_some]
  rw [if_neg b2] at A
  refine ⟨(i, t, l, h1, h2, c, n, 0), _, A, ?_, fine_of hl hg (fun e he => he) (Nat.le_refl _), fine_of hl hg (fun e he => List.mem_of_mem_take (List.mem_of_mem_drop he)) (by rw [List.length_drop, List.length_take]; omega)⟩
  simp only [garnerref23_Apply.f, ev_ite]
  rw [if_neg b1, if_neg b2, w64 (by omega) (by omega)]
  have main : ∀ (D q : Nat) (acc : List EntS), (n - i).toNat - q = D → q ≤ (n - i).toNat → acc.length ≤ q → Ev (fun k => garnerref23_Apply.l0 k n acc (i + 1 + (q : Int)) i t l h1 h2 c a) (i, t, l, h1, h2, c, n, acc ++ (l.take (n - i).toNat).drop q, 0) := by
    intro D
    induction D with
    | zero =>
      intro q acc hd hq ha
      rw [ev_succ]
      simp only [garnerref23_Apply.l0, ev_ite]
      rw [if_neg (by omega), ev_some, List.drop_eq_nil_of_le (by rw [List.length_take]; omega), List.append_nil]
    | succ D ih =>
      intro q acc hd hq ha
      have hql : q < l.length := by omega
      have w1 : wrap64 (wrap64 (i + 1 + (q : Int) - i) - 1) = (q : Int) := by
        rw [w64 (x := i + 1 + (q : Int) - i) (by omega) (by omega), w64 (by omega) (by omega)]
        omega
      have w2 : wrap64 (i + 1 + (q : Int) + 1) = i + 1 + ((q + 1 : Nat) : Int) := by
        rw [w64 (by omega) (by omega)]
        omega
      have ed : (l.take (n - i).toNat).drop q = l[q] :: (l.take (n - i).toNat).drop (q + 1) := by
        rw [List.drop_eq_getElem_cons (by rw [List.length_take]; omega), List.getElem_take]
      rw [ev_succ]
      simp only [garnerref23_Apply.l0, ev_ite, w1, w2, rdE_get hql]
      rw [if_pos (by omega), if_pos (by omega), if_pos (by omega), if_pos (by omega), ed]
      refine ev_eq (ih (q + 1) (acc ++ [l[q]]) (by omega) (by omega) (by rw [List.length_append, List.length_singleton]; omega)) ?_
      rw [List.append_assoc, List.singleton_append]
  have := main _ (a - i).toNat [] rfl (by omega) (by simp)
  rw [show i + 1 + (((a - i).toNat : Nat) : Int) = a + 1 by omega, List.nil_append] at this
  exact this
theorem both_Compact {i t : Int} {l : List EntS} {h1 h2 c a : Int} (hc : CheckS i t l h1 h2 c a) (hg : ∀ e ∈ l, goodR e ∧ e.f4.f1.length ≤ maxLen) (n : Int) : ∃ o : LogS, Ev (fun k => raft_Compact.f k i t l h1 h2 c a n) o ∧ garnerref23_Compact.f i t l h1 h2 c a n = some o ∧ fineS o.2.2.1 := by
  have hl : l.length ≤ 1000 := hc.2.1
  have hir : 0 ≤ i ∧ i ≤ 2147483647 := by have := hc.1; omega
  obtain ⟨h3, h4, h5⟩ := hc.2.2.2.2.2
  obtain ⟨s, hs, hs2⟩ := raft_Check_ev i t l h1 h2 c a (by omega) (fun e he => (hg e he).1) (by omega)
  by_cases b1 : n ≤ i
  · refine ⟨(0, 0, [], 0, 0, 0, 0, 4), ?_, ?_, fine_nil⟩
    · simp only [raft_Compact.f]
      rw [ev_bind hs, ev_ite, if_pos (hs2.2 hc), ev_ite, if_pos b1, ev_some]
    · simp only [garnerref23_Compact.f]
      rw [if_pos b1]
  by_cases b2 : n > a
  · refine ⟨(0, 0, [], 0, 0, 0, 0, 3), ?_, ?_, fine_nil⟩
    · simp only [raft_Compact.f]
      rw [ev_bind hs, ev_ite, if_pos (hs2.2 hc), ev_ite, if_neg b1, ev_ite, if_pos b2, ev_some]
    · simp only [garnerref23_Compact.f]
      rw [if_neg b1, if_pos b2]
  obtain ⟨q, hq⟩ : ∃ q : Nat, (q : Int) = n - i := ⟨(n - i).toNat, by omega⟩
  refine ⟨_, raft_Compact_ev hc (fun e he => (hg e he).1) n b1 b2 q hq (by omega) (by omega), ?_, fine_of hl hg (fun e he => List.mem_of_mem_drop he) (by rw [List.length_drop]; omega)⟩
  have w1 : wrap64 (n - i) = (q : Int) := by rw [w64 (by omega) (by omega), hq]
  have w2 : wrap64 ((q : Int) - 1) = ((q - 1 : Nat) : Int) := by rw [w64 (by omega) (by omega)]; omega
  have hT : garnerref23_Term.f i t l h1 h2 c a n = some (tmS (l[q - 1]'(by omega))) := by
    simp only [garnerref23_Term.f, w1, w2, rdE_get (show q - 1 < l.length by omega)]
    rw [if_neg (by omega), if_pos (by omega), if_pos (by omega)]
  simp only [garnerref23_Compact.f, hT, w1, Option.bind_some, Int.toNat_natCast, List.nil_append]
  rw [if_neg b1, if_neg b2, if_pos (by omega), if_pos (by omega), if_pos (by simp only [List.length_nil, List.length_drop]; omega)]
theorem both_Reset {i t : Int} {l : List EntS} {h1 h2 c a : Int} (hc : CheckS i t l h1 h2 c a) (hg : ∀ e ∈ l, goodR e ∧ e.f4.f1.length ≤ maxLen) (n u : Int) : ∃ o : LogS, Ev (fun k => raft_Reset.f k i t l h1 h2 c a n u) o ∧ Ev (fun k => garnerref23_Reset.f k i t l h1 h2 c a n u) o ∧ fineS o.2.2.1 := by
  have hl : l.length ≤ 1000 := hc.2.1
  have hir : 0 ≤ i ∧ i ≤ 2147483647 := by have := hc.1; omega
  obtain ⟨h3, h4, h5⟩ := hc.2.2.2.2.2
  obtain ⟨s, hs, hs2⟩ := raft_Check_ev i t l h1 h2 c a (by omega) (fun e he => (hg e he).1) (by omega)
  have j0t : Ev (fun k => raft_Reset.j0 k n u true i t l h1 h2 c a) (0, 0, [], 0, 0, 0, 0, 1) := by
    rw [ev_succ]
    simp only [raft_Reset.j0, ev_ite]
    rw [if_pos (by trivial), ev_some]
  have r0t : Ev (fun k => garnerref23_Reset.j0 k n u true i t l h1 h2 c a) (0, 0, [], 0, 0, 0, 0, 1) := by
    rw [ev_succ]
    simp only [garnerref23_Reset.j0, ev_ite]
    rw [if_pos (by trivial), ev_some]
  by_cases b1 : 1 ≤ n ∧ n ≤ 2147483647
  rotate_left
  · refine ⟨(0, 0, [], 0, 0, 0, 0, 1), ?_, ?_, fine_nil⟩
    · simp only [raft_Reset.f]
      rw [ev_bind hs, ev_ite, if_pos (hs2.2 hc), ev_bind_c (raft_counts_ev _), ev_ite, if_neg (by simpa using b1)]
      exact j0t
    · simp only [garnerref23_Reset.f]
      rw [ev_bind_c (garnerref23_counts_ev _), ev_ite, if_neg (by simpa using b1)]
      exact r0t
  by_cases b2 : 1 ≤ u ∧ u ≤ 2147483647
  rotate_left
  · refine ⟨(0, 0, [], 0, 0, 0, 0, 1), ?_, ?_, fine_nil⟩
    · simp only [raft_Reset.f]
      rw [ev_bind hs, ev_ite, if_pos (hs2.2 hc), ev_bind_c (raft_counts_ev _), ev_ite, if_pos (by simpa using b1), ev_bind_c (raft_counts_ev _), decide_eq_false b2]
      exact j0t
    · simp only [garnerref23_Reset.f]
      rw [ev_bind_c (garnerref23_counts_ev _), ev_ite, if_pos (by simpa using b1), ev_bind_c (garnerref23_counts_ev _), decide_eq_false b2]
      exact r0t
  by_cases b3 : n ≤ a
  · refine ⟨(0, 0, [], 0, 0, 0, 0, 4), ?_, ?_, fine_nil⟩
    · simp only [raft_Reset.f]
      rw [ev_bind hs, ev_ite, if_pos (hs2.2 hc), ev_bind_c (raft_counts_ev _), ev_ite, if_pos (by simpa using b1), ev_bind_c (raft_counts_ev _), decide_eq_true b2, ev_succ]
      simp only [raft_Reset.j0, ev_ite]
      rw [if_neg (by simp), if_pos b3, ev_some]
    · simp only [garnerref23_Reset.f]
      rw [ev_bind_c (garnerref23_counts_ev _), ev_ite, if_pos (by simpa using b1), ev_bind_c (garnerref23_counts_ev _), decide_eq_true b2, ev_succ]
      simp only [garnerref23_Reset.j0, ev_ite]
      rw [if_neg (by simp), if_pos b3, ev_some]
  have hrl : (restS i t l n u).length ≤ l.length := by
    unfold restS
    split
    · rw [List.length_drop]; omega
    · simp
  have hrm : ∀ e ∈ restS i t l n u, e ∈ l := by
    intro e he
    unfold restS at he
    split at he
    · exact List.mem_of_mem_drop he
    · exact absurd he (by simp)
  refine ⟨_, raft_Reset_ev hc (fun e he => (hg e he).1) n u b1 b2 (by omega), ?_, fine_of hl hg hrm hrl⟩
  have hL : ∀ (m : List EntS) (x y z v : Int), m.length ≤ 1000 → garnerref23_Last.f n u m x y z v = some (n + (m.length : Int)) := by
    intro m x y z v hm
    simp only [garnerref23_Last.f]
    rw [w64 (by omega) (by omega)]
  have j3 : ∀ (m : List EntS) (d : Int), m.length ≤ 1000 → Ev (fun k => garnerref23_Reset.j3 k u n u m h1 h2 d n) (n, u, m, (if h1 < u then u else h1), (if h1 < u then 0 else h2), mn d (n + (m.length : Int)), n, 0) := by
    intro m d hm
    rw [ev_succ]
    simp only [garnerref23_Reset.j3, hL m _ _ _ _ hm, Option.bind_some, ev_ite]
    by_cases d1 : d > n + (m.length : Int)
    · have e : mn d (n + (m.length : Int)) = n + (m.length : Int) := by unfold mn; rw [if_pos (by omega)]
      rw [if_pos d1, e]
      by_cases d2 : h1 < u
      · rw [if_pos d2, if_pos d2, if_pos d2, ev_some]
      · rw [if_neg d2, if_neg d2, if_neg d2, ev_some]
    · have e : mn d (n + (m.length : Int)) = d := by unfold mn; rw [if_neg (by omega)]
      rw [if_neg d1, e]
      by_cases d2 : h1 < u
      · rw [if_pos d2, if_pos d2, if_pos d2, ev_some]
      · rw [if_neg d2, if_neg d2, if_neg d2, ev_some]
  have j2 : ∀ (m : List EntS), m.length ≤ 1000 → Ev (fun k => garnerref23_Reset.j2 k n u m i t l h1 h2 c a) (n, u, m, (if h1 < u then u else h1), (if h1 < u then 0 else h2), mn (mx c n) (n + (m.length : Int)), n, 0) := by
    intro m hm
    rw [ev_succ]
    simp only [garnerref23_Reset.j2, ev_ite]
    unfold mx
    split
    · exact j3 m n hm
    · exact j3 m c hm
  have j1 : ∀ b : Bool, (b = true ↔ (n ≤ i + l.length ∧ termR tmS t l (n - i).toNat = u)) → Ev (fun k => garnerref23_Reset.j1 k n u [] b i t l h1 h2 c a) (n, u, restS i t l n u, (if h1 < u then u else h1), (if h1 < u then 0 else h2), mn (mx c n) (n + (restS i t l n u).length), n, 0) := by
    intro b hb
    have hj := j2 (restS i t l n u) (by omega)
    rw [ev_succ]
    simp only [garnerref23_Reset.j1, ev_ite]
    by_cases h : n ≤ i + l.length ∧ termR tmS t l (n - i).toNat = u
    · have er : restS i t l n u = l.drop (n - i).toNat := by unfold restS; rw [if_pos h]
      rw [er] at hj ⊢
      rw [if_pos (hb.2 h), w64 (x := n - i) (by omega) (by omega), if_pos (by omega), if_pos (by omega)]
      simp only [Option.bind_some, List.nil_append, ev_ite]
      rw [if_pos (by simp only [List.length_nil, List.length_drop]; omega)]
      exact hj
    · have er : restS i t l n u = [] := by unfold restS; rw [if_neg h]
      rw [er] at hj ⊢
      rw [if_neg (fun q => h (hb.1 q))]
      exact hj
  simp only [garnerref23_Reset.f]
  rw [ev_bind_c (garnerref23_counts_ev _), ev_ite, if_pos (by simpa using b1), ev_bind_c (garnerref23_counts_ev _), decide_eq_true b2, ev_succ]
  simp only [garnerref23_Reset.j0, ev_ite]
  rw [if_neg (by simp), if_neg b3]
  have hLl : garnerref23_Last.f i t l h1 h2 c a = some (i + (l.length : Int)) := by
    simp only [garnerref23_Last.f]
    rw [w64 (by omega) (by omega)]
  by_cases hf : n ≤ i + l.length
  · have hW : garnerref23_Where.f i t l h1 h2 c a n = some 0 := by
      simp only [garnerref23_Where.f, hLl, Option.bind_some]
      rw [if_neg (by omega), if_neg (by omega)]
    have hT : garnerref23_Term.f i t l h1 h2 c a n = some (termR tmS t l (n - i).toNat) := by
      have w2 : wrap64 (wrap64 (n - i) - 1) = (((n - i).toNat - 1 : Nat) : Int) := by
        rw [w64 (x := n - i) (by omega) (by omega), w64 (by omega) (by omega)]
        omega
      simp only [garnerref23_Term.f, w2, rdE_get (show (n - i).toNat - 1 < l.length by omega)]
      rw [if_neg (by omega), if_pos (by omega), if_pos (by omega), termR_pos t l (by omega) (by omega)]
    simp only [hW, hT, Option.bind_some, ev_ite]
    rw [if_pos trivial]
    exact j1 _ (by simp [hf])
  · have hW : garnerref23_Where.f i t l h1 h2 c a n = some 3 := by
      simp only [garnerref23_Where.f, hLl, Option.bind_some]
      rw [if_neg (by omega), if_pos (by omega)]
    simp only [hW, Option.bind_some, ev_ite]
    rw [if_neg (by decide)]
    exact j1 _ (by simp [hf])
theorem RaftTurns : StRaftTurns.Pure := by
  intro i t l h1 h2 c a x y z n0 n1 n2 n3 hi _ hl0 _ hgl _ _ _ _ _ _ _ _ _ _ _
  have good : ∀ e ∈ l, goodR e ∧ e.f4.f1.length ≤ maxLen := fun e he => by
    obtain ⟨h1, h2, h3, h4, h5⟩ := hgl e he
    obtain ⟨_, ⟨h6, h7, h8⟩, h9⟩ := h5
    exact ⟨⟨wf_i64 h1, by omega⟩, h6⟩
  have hir := wf_i64 hi
  refine Ev.rounds (g := fun k => garnerlaw23_RaftTurns.f k i t l h1 h2 c a x y z n0 n1 n2 n3) ?_
  have fin : Ev (fun k => (garnerlaw23_awake.f k).bind fun t => some t) true := by rw [ev_bind garnerlaw23_awake_ev, ev_some]
  have hl1 : l.length ≤ 140737488351232 := by omega
  simp only [garnerlaw23_RaftTurns.f]
  rw [ev_bind (garnerlaw23_Light_ev _ _ _ _ _ _ _ hl1), ev_ite]
  by_cases c1 : lightN (prsN l) = true
  rotate_left
  · rw [if_neg c1]
    exact fin
  rw [if_pos c1]
  have same : ∀ o : LogS, fineS o.2.2.1 → Ev (fun k => garnerref23_Same.f k o.1 o.2.1 o.2.2.1 o.2.2.2.1 o.2.2.2.2.1 o.2.2.2.2.2.1 o.2.2.2.2.2.2.1 o.1 o.2.1 o.2.2.1 o.2.2.2.1 o.2.2.2.2.1 o.2.2.2.2.2.1 o.2.2.2.2.2.2.1) true := fun o ho => garnerref23_Same_self _ _ _ _ _ _ _ ho.1 ho.2
  by_cases hc : CheckS i t l h1 h2 c a
  · obtain ⟨o1, p1, q1, f1⟩ := both_Vote hc good x y z
    obtain ⟨o2, m, p2, q2, f2, f2m⟩ := both_Apply hc good n0
    obtain ⟨o3, p3, q3, f3⟩ := both_Compact hc good n1
    obtain ⟨o4, p4, q4, f4⟩ := both_Reset hc good n2 n3
    rw [ev_bind p1, ev_bind p2, ev_bind p3, ev_bind p4, ev_bind (garnerref23_May_yes hc), ev_ite, if_pos (by trivial), ev_bind q1, ev_bind q2, ev_bind_c q3, ev_bind q4]
    simp only [ev_ite]
    rw [if_pos (by trivial), if_pos (by trivial), if_pos (by trivial), if_pos (by trivial), ev_bind (garnerref06_Same_self m f2m.1 f2m.2), ev_ite, if_pos (by trivial), ev_bind (same o1 f1), ev_ite, if_pos (by trivial), ev_bind (same o2 f2), ev_ite, if_pos (by trivial), ev_bind (same o3 f3), ev_ite, if_pos (by trivial), ev_bind (same o4 f4), ev_ite, if_pos (by trivial)]
    exact fin
  · have hg' : ∀ e ∈ l, goodR e := fun e he => (good e he).1
    have z0 := same (0, 0, [], 0, 0, 0, 0, 0) fine_nil
    rw [ev_bind (bad_Vote hl1 hg' hir hc x y z), ev_bind (bad_Apply hl1 hg' hir hc n0), ev_bind (bad_Compact hl1 hg' hir hc n1), ev_bind (bad_Reset hl1 hg' hir hc n2 n3), ev_bind (ref_May_no hl1 hg' hc), ev_ite, if_neg (by simp)]
    simp only [ev_ite]
    rw [if_pos (by trivial), if_pos (by trivial), if_pos (by trivial), if_pos (by trivial), if_pos (by simp), ev_bind z0, ev_ite, if_pos (by trivial), ev_bind z0, ev_ite, if_pos (by trivial), ev_bind z0, ev_ite, if_pos (by trivial), ev_bind z0, ev_ite, if_pos (by trivial)]
    exact fin
end Go.Proofs.Ytangfpcifdpfeaa.Pure
