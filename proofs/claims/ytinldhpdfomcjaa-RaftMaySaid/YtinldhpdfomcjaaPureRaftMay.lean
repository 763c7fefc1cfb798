/- The pure statement of the law RaftMay: what the printed functions answer, each by its plain law, and that the law's answer is true. -/
import Derived.Test.YtinldhpdfomcjaaPRaftMayx0
import Derived.Test.YtinldhpdfomcjaaPRaftMayx1
import Derived.Test.YtinldhpdfomcjaaPRaftMayx2
import Derived.Test.YtinldhpdfomcjaaPRaftMayx3
import Derived.Test.YtinldhpdfomcjaaPRaftMayx4
import Derived.Test.YtinldhpdfomcjaaPRaftMayx5
import Derived.Test.YtinldhpdfomcjaaPRaftMayx6
import Derived.Test.YtinldhpdfomcjaaPRaftMayx7
import Derived.Test.YtinldhpdfomcjaaPRaftMayx8
import Derived.Test.YtinldhpdfomcjaaPRaftMayx9
import Derived.Test.YtinldhpdfomcjaaPRaftMayx10
import Derived.Test.YtinldhpdfomcjaaPRaftMayx11
import Derived.Test.YtinldhpdfomcjaaPRaftMayx12
import Derived.Test.YtinldhpdfomcjaaPRaftMayx13
import Derived.Test.YtinldhpdfomcjaaPRaftMayx14
import Derived.Test.YtinldhpdfomcjaaPRaftMayx15
import Derived.Test.YtinldhpdfomcjaaPRaftMayx16
import Derived.Test.YtinldhpdfomcjaaPRaftMayx17
import Derived.Test.YtinldhpdfomcjaaStRaftMay
import Derived.Test.YtinldhpdfomcjaaQSz
import Derived.Test.YtinldhpdfomcjaaQV02
import Derived.Test.YtinldhpdfomcjaaQF06
import Derived.Test.YtinldhpdfomcjaaQF23
import Derived.Test.YtinldhpdfomcjaaQV22
namespace Go.Proofs.Ytinldhpdfomcjaa.Pure
open Go.RowKit Go.Proofs.Ytinldhpdfomcjaa.PRaftMay Go.Proofs.Ytinldhpdfomcjaa.U Go.Proofs.YtinldhpdfomcjaaW.PrintWords Go.Proofs.YtinldhpdfomcjaaW.PrintLast Go.Proofs.YtinldhpdfomcjaaW.PrintMore
set_option linter.unusedVariables false
set_option linter.unusedSimpArgs false
set_option maxRecDepth 4000
def prN (e : S46) : Ent := ⟨e.f0, e.f1, e.f2, e.f3, e.f4.f0, e.f4.f1, e.f4.f2.f0, e.f4.f2.f1, e.f4.f2.f2, e.f4.f2.f3⟩
def prsN (l : List S46) : List Ent := l.map prN
theorem prsN_len (l : List S46) : (prsN l).length = l.length := by simp [prsN]
theorem rdN_get {l : List S46} {i : Nat} (h : i < l.length) : rd_T46 l (i : Int) = l[i] := by
  simp [rd_T46, h]
theorem dropN_eq {l : List S46} {i : Nat} (h : i < l.length) : l.drop i = rd_T46 l (i : Int) :: l.drop (i + 1) := by
  rw [rdN_get h]
  exact List.drop_eq_getElem_cons h
abbrev EntS := S46
abbrev ixS (e : EntS) : Int := e.f0
abbrev tmS (e : EntS) : Int := e.f1
theorem rdE_get {l : List EntS} {i : Nat} (h : i < l.length) : rd_T46 l (i : Int) = l[i] := by
  simp [rd_T46, h]
theorem rdE_drop {l : List EntS} {i : Nat} (h : i < l.length) : l.drop i = rd_T46 l (i : Int) :: l.drop (i + 1) := by
  rw [rdE_get h]
  exact List.drop_eq_getElem_cons h
theorem rdE_mem {l : List EntS} {i : Nat} (h : i < l.length) : rd_T46 l (i : Int) ∈ l := by
  rw [rdE_get h]
  exact List.getElem_mem _
def goodR (e : EntS) : Prop := (-9223372036854775808 ≤ e.f0 ∧ e.f0 ≤ 9223372036854775807) ∧ e.f4.f1.length ≤ 140737488351232
def RowsS (l : List EntS) : Prop := RowsP ixS tmS l
theorem garnerlaw06_Light_ev (l : List S46) (hl : l.length ≤ 140737488351232) : Ev (fun k => garnerlaw06_Light.f k l) (lightN (prsN l)) := by
  have main : ∀ (d i : Nat), l.length - i = d → i ≤ l.length → i ≤ 41 → lightN (prsN l) = (decide (l.length ≤ 40) && (prsN (l.drop i)).all fun e => decide (e.key.size ≤ 200 ∧ e.b.length ≤ 200)) → Ev (fun k => garnerlaw06_Light.l0 k l (i : Int)) (lightN (prsN l)) := by
    intro d
    induction d with
    | zero =>
      intro i hd hi h41 he
      rw [List.drop_eq_nil_of_le (by omega)] at he
      rw [he, ev_succ]
      simp only [garnerlaw06_Light.l0, ev_ite]
      rw [if_neg (by omega), ev_succ]
      simp only [garnerlaw06_Light.j1, ev_ite]
      rw [if_neg (by simp), ev_some]
      have e : (prsN []).all (fun e => decide (e.key.size ≤ 200 ∧ e.b.length ≤ 200)) = true := rfl
      rw [e, Bool.and_true, decide_eq_decide]
      omega
    | succ d ih =>
      intro i hd hi h41 he
      have hil : i < l.length := by omega
      rw [dropN_eq hil] at he
      have hw : wrap64 ((i : Int) + 1) = ((i + 1 : Nat) : Int) := w64 (by omega) (by omega)
      have ih' := ih (i + 1) (by omega) (by omega)
      rw [ev_succ]
      simp only [garnerlaw06_Light.l0, ev_ite]
      rw [if_pos (by omega), ev_succ]
      simp only [garnerlaw06_Light.j1, ev_ite, hw]
      generalize rd_T46 l (i : Int) = f at he ⊢
      have e1 : (prsN (f :: l.drop (i + 1))).all (fun e => decide (e.key.size ≤ 200 ∧ e.b.length ≤ 200)) = (decide (f.f3.size ≤ 200 ∧ f.f4.f1.length ≤ 200) && (prsN (l.drop (i + 1))).all fun e => decide (e.key.size ≤ 200 ∧ e.b.length ≤ 200)) := rfl
      rw [e1] at he
      by_cases h1 : i ≤ 40
      · rw [if_pos (by rw [decide_eq_true_eq]; omega), if_pos (by omega), if_pos (by omega)]
        by_cases h2 : f.f3.size > 200
        · rw [if_pos (by omega), ev_some, he, decide_eq_false (show ¬ (f.f3.size ≤ 200 ∧ f.f4.f1.length ≤ 200) by omega), Bool.false_and, Bool.and_false]
        · rw [if_neg (by omega)]
          by_cases h3 : f.f4.f1.length > 200
          · rw [if_pos (by omega), ev_some, he, decide_eq_false (show ¬ (f.f3.size ≤ 200 ∧ f.f4.f1.length ≤ 200) by omega), Bool.false_and, Bool.and_false]
          · rw [if_neg (by omega)]
            refine ih' (by omega) ?_
            rw [he, decide_eq_true (show f.f3.size ≤ 200 ∧ f.f4.f1.length ≤ 200 by omega), Bool.true_and]
      · rw [if_neg (by rw [decide_eq_true_eq]; omega), ev_some, he, decide_eq_false (show ¬ l.length ≤ 40 by omega), Bool.false_and, decide_eq_false (by omega)]
  refine main (l.length - 0) 0 rfl (by omega) (by omega) ?_
  unfold lightN
  rw [prsN_len, List.drop_zero]
theorem raft_counts_ev (n : Int) : raft_counts.f n = some (decide (1 ≤ n ∧ n ≤ 2147483647)) := by
  unfold raft_counts.f
  split
  · congr 1
    rw [decide_eq_decide]
    omega
  · congr 1
    symm
    rw [decide_eq_false_iff_not]
    omega
theorem raft_rows_ev (l : List EntS) (hl : l.length ≤ 140737488351232) (hg : ∀ e ∈ l, goodR e) : ∃ b, Ev (fun k => raft_rows.f k l) b ∧ (b = true ↔ RowsS l) := by
  have main : ∀ (d j : Nat), l.length - j = d → j ≤ l.length → (∀ q (h : q < j) (h' : q < l.length), 1 ≤ ixS l[q] ∧ ixS l[q] ≤ 2147483647 ∧ 1 ≤ tmS l[q] ∧ tmS l[q] ≤ 2147483647) → (∀ q (h : q + 1 < j) (h' : q + 1 < l.length), ixS l[q + 1] = ixS l[q] + 1 ∧ tmS l[q] ≤ tmS l[q + 1]) →
      ∃ b, Ev (fun k => raft_rows.l0 k l l (l.length : Int) (j : Int)) b ∧ (b = true ↔ RowsS l) := by
    intro d
    induction d with
    | zero =>
      intro j hd hj h1 h2
      refine ⟨true, ?_, ?_⟩
      · rw [ev_succ]
        simp only [raft_rows.l0, ev_ite]
        rw [if_neg (by omega), ev_some]
      · have : RowsS l := ⟨fun q hq => h1 q (by omega) hq, fun q hq => h2 q (by omega) hq⟩
        simp [this]
    | succ d ih =>
      intro j hd hj h1 h2
      have hjl : j < l.length := by omega
      have hgj := hg _ (List.getElem_mem hjl)
      have hw : wrap64 ((j : Int) + 1) = ((j + 1 : Nat) : Int) := w64 (by omega) (by omega)
      have no : ¬ RowsS l → ∃ b, Ev (fun _ => some false) b ∧ (b = true ↔ RowsS l) := fun h => ⟨false, by rw [ev_some], by simp [h]⟩
      have step : (1 ≤ ixS l[j] ∧ ixS l[j] ≤ 2147483647 ∧ 1 ≤ tmS l[j] ∧ tmS l[j] ≤ 2147483647) → (∀ q (h : q + 1 = j), ixS l[j] = ixS (l[q]'(by omega)) + 1 ∧ tmS (l[q]'(by omega)) ≤ tmS l[j]) → ∃ b, Ev (fun k => raft_rows.l0 k l l (l.length : Int) ((j + 1 : Nat) : Int)) b ∧ (b = true ↔ RowsS l) := by
        intro h3 h4
        refine ih (j + 1) (by omega) (by omega) ?_ ?_
        · intro q hq hq'
          by_cases he : q = j
          · subst he; exact h3
          · exact h1 q (by omega) hq'
        · intro q hq hq'
          by_cases he : q + 1 = j
          · have := h4 q he
            simp only [he]
            exact this
          · exact h2 q (by omega) hq'
      have key : ∃ b, Ev (fun k => raft_rows.l0 (k + 1) l l (l.length : Int) (j : Int)) b ∧ (b = true ↔ RowsS l) := by
        simp only [raft_rows.l0, ev_ite, hw, rdE_get hjl]
        by_cases c1 : 1 ≤ l[j].f0 ∧ l[j].f0 ≤ 2147483647
        · by_cases c2 : 1 ≤ l[j].f1 ∧ l[j].f1 ≤ 2147483647
          · by_cases hj0 : j = 0
            · obtain ⟨b, hb, hb2⟩ := step ⟨c1.1, c1.2, c2.1, c2.2⟩ (fun q hq => by omega)
              refine ⟨b, ?_, hb2⟩
              rw [if_pos (by omega), if_pos (by omega), if_pos (by omega), ev_bind_c (raft_counts_ev _), ev_ite, if_pos (by simpa using c1), ev_bind_c (raft_counts_ev _), ev_ite, if_pos (by simpa using c2), ev_ite, if_neg (by omega)]
              exact hb
            · have e : wrap64 ((j : Int) - 1) = ((j - 1 : Nat) : Int) := by
                rw [w64 (by omega) (by omega)]
                omega
              have ej : j - 1 + 1 = j := by omega
              by_cases c3 : l[j].f0 = (l[j - 1]'(by omega)).f0 + 1
              · by_cases c4 : l[j].f1 < (l[j - 1]'(by omega)).f1
                · obtain ⟨b, hb, hb2⟩ := no (fun h => by
                    have := (h.2 (j - 1) (by omega)).2
                    simp only [ixS, tmS, ej] at this
                    omega)
                  refine ⟨b, ?_, hb2⟩
                  rw [if_pos (by omega), if_pos (by omega), if_pos (by omega), ev_bind_c (raft_counts_ev _), ev_ite, if_pos (by simpa using c1), ev_bind_c (raft_counts_ev _), ev_ite, if_pos (by simpa using c2), ev_ite, if_pos (by omega)]
                  simp only [e, ev_ite, rdE_get (show j - 1 < l.length by omega)]
                  rw [if_pos (by omega), if_pos (by omega), w64 (by omega) (by omega), if_pos (by omega), if_pos c4]
                  exact hb
                · obtain ⟨b, hb, hb2⟩ := step ⟨c1.1, c1.2, c2.1, c2.2⟩ (fun q hq => by
                    have eq : q = j - 1 := by omega
                    subst eq
                    exact ⟨c3, by simp only [tmS]; omega⟩)
                  refine ⟨b, ?_, hb2⟩
                  rw [if_pos (by omega), if_pos (by omega), if_pos (by omega), ev_bind_c (raft_counts_ev _), ev_ite, if_pos (by simpa using c1), ev_bind_c (raft_counts_ev _), ev_ite, if_pos (by simpa using c2), ev_ite, if_pos (by omega)]
                  simp only [e, ev_ite, rdE_get (show j - 1 < l.length by omega)]
                  rw [if_pos (by omega), if_pos (by omega), w64 (by omega) (by omega), if_pos (by omega), if_neg c4]
                  exact hb
              · obtain ⟨b, hb, hb2⟩ := no (fun h => by
                  have := (h.2 (j - 1) (by omega)).1
                  simp only [ixS, tmS, ej] at this
                  omega)
                refine ⟨b, ?_, hb2⟩
                rw [if_pos (by omega), if_pos (by omega), if_pos (by omega), ev_bind_c (raft_counts_ev _), ev_ite, if_pos (by simpa using c1), ev_bind_c (raft_counts_ev _), ev_ite, if_pos (by simpa using c2), ev_ite, if_pos (by omega)]
                simp only [e, ev_ite, rdE_get (show j - 1 < l.length by omega)]
                rw [if_pos (by omega), if_pos (by omega), w64 (by omega) (by omega), if_neg (by omega)]
                exact hb
          · obtain ⟨b, hb, hb2⟩ := no (fun h => c2 ⟨(h.1 j hjl).2.2.1, (h.1 j hjl).2.2.2⟩)
            refine ⟨b, ?_, hb2⟩
            rw [if_pos (by omega), if_pos (by omega), if_pos (by omega), ev_bind_c (raft_counts_ev _), ev_ite, if_pos (by simpa using c1), ev_bind_c (raft_counts_ev _), ev_ite, if_neg (by simpa using c2)]
            exact hb
        · obtain ⟨b, hb, hb2⟩ := no (fun h => c1 ⟨(h.1 j hjl).1, (h.1 j hjl).2.1⟩)
          refine ⟨b, ?_, hb2⟩
          rw [if_pos (by omega), if_pos (by omega), if_pos (by omega), ev_bind_c (raft_counts_ev _), ev_ite, if_neg (by simpa using c1)]
          exact hb
      obtain ⟨b, hb, hb2⟩ := key
      exact ⟨b, ev_succ.2 hb, hb2⟩
  exact main (l.length - 0) 0 rfl (by omega) (fun q h => by omega) (fun q h => by omega)
theorem hard_counts_ev (n : Int) : hard_counts.f n = some (decide (0 ≤ n ∧ n ≤ 2147483647)) := by
  unfold hard_counts.f
  by_cases h : n ≥ 0
  · rw [if_pos h]
    simp [h]
  · rw [if_neg h]
    congr 1
    symm
    rw [decide_eq_false_iff_not]
    omega
theorem hard_Check_ev (t v c : Int) : hard_Check.f t v c = some (if mayH t v c = true then 0 else 1) := by
  simp only [hard_Check.f, hard_counts_ev, Option.bind_some, decide_eq_true_eq, mayH_iff]
  repeat' split
  all_goals first | rfl | omega
abbrev CheckS (i t : Int) (l : List EntS) (h1 h2 c a : Int) : Prop := CheckP ixS tmS i t l h1 h2 c a
theorem raft_Check_ev (i t : Int) (l : List EntS) (h1 h2 c a : Int) (hl : l.length ≤ 140737488351232) (hg : ∀ e ∈ l, goodR e) (hi : -9223372036854775808 ≤ i ∧ i ≤ 9223372036854775807) : ∃ r : Int, Ev (fun k => raft_Check.f k i t l h1 h2 c a) r ∧ (r = 0 ↔ CheckS i t l h1 h2 c a) := by
  have no : ∀ P : Nat → Option Int, ¬ CheckS i t l h1 h2 c a → Ev P 1 → ∃ r : Int, Ev P r ∧ (r = 0 ↔ CheckS i t l h1 h2 c a) := fun P h hP => ⟨1, hP, by simp [h]⟩
  have j1t : Ev (fun k => raft_Check.j1 k true i t l h1 h2 c a) 1 := by
    rw [ev_succ]
    simp only [raft_Check.j1, ev_ite]
    rw [if_pos (by trivial), ev_some]
  have j0t : Ev (fun k => raft_Check.j0 k true i t l h1 h2 c a) 1 := by
    rw [ev_succ]
    simp only [raft_Check.j0, ev_ite]
    rw [if_pos (by trivial), ev_some]
  have hin : i ≤ 2147483647 → wrap64 (i + 1) = i + 1 := fun h => w64 (by omega) (by omega)
  have j1f : ((i = 0 ∧ t = 0) ∨ (1 ≤ i ∧ i ≤ 2147483647 ∧ 1 ≤ t ∧ t ≤ 2147483647)) → l.length ≤ 1000 → RowsS l → mayH h1 h2 c = true → (∀ h : 0 < l.length, ixS l[0] = i + 1 ∧ t ≤ tmS l[0]) → ∃ r : Int, Ev (fun k => raft_Check.j1 k false i t l h1 h2 c a) r ∧ (r = 0 ↔ CheckS i t l h1 h2 c a) := by
    intro q1 q2 q3 q4 q5
    by_cases b1 : a < i
    · refine no _ (fun h => by have := h.2.2.2.2.2.1; omega) ?_
      rw [ev_succ]
      simp only [raft_Check.j1, ev_ite]
      rw [if_neg (by simp), if_pos b1, ev_some]
    by_cases b2 : a > c
    · refine no _ (fun h => by have := h.2.2.2.2.2.2.1; omega) ?_
      rw [ev_succ]
      simp only [raft_Check.j1, ev_ite]
      rw [if_neg (by simp), if_neg b1, if_pos b2, ev_some]
    by_cases b3 : c > i + (l.length : Int)
    · refine no _ (fun h => by have := h.2.2.2.2.2.2.2; omega) ?_
      rw [ev_succ]
      simp only [raft_Check.j1, ev_ite]
      rw [if_neg (by simp), if_neg b1, if_neg b2, w64 (by omega) (by omega), if_pos b3, ev_some]
    · refine ⟨0, ?_, ?_⟩
      · rw [ev_succ]
        simp only [raft_Check.j1, ev_ite]
        rw [if_neg (by simp), if_neg b1, if_neg b2, w64 (by omega) (by omega), if_neg b3, ev_some]
      · have : CheckS i t l h1 h2 c a := ⟨q1, q2, q3, q4, q5, by omega, by omega, by omega⟩
        simp [this]
  have j0f : ((i = 0 ∧ t = 0) ∨ (1 ≤ i ∧ i ≤ 2147483647 ∧ 1 ≤ t ∧ t ≤ 2147483647)) → l.length ≤ 1000 → RowsS l → mayH h1 h2 c = true → ∃ r : Int, Ev (fun k => raft_Check.j0 k false i t l h1 h2 c a) r ∧ (r = 0 ↔ CheckS i t l h1 h2 c a) := by
    intro q1 q2 q3 q4
    have hii : wrap64 (i + 1) = i + 1 := hin (by omega)
    by_cases hl0 : 0 < l.length
    · have e0 : rd_T46 l 0 = l[0] := rdE_get hl0
      by_cases b1 : l[0].f0 = i + 1
      · by_cases b2 : l[0].f1 < t
        · refine no _ (fun h => by have := (h.2.2.2.2.1 hl0).2; simp only [tmS] at this; omega) ?_
          rw [ev_succ]
          simp only [raft_Check.j0, ev_ite, e0, hii]
          rw [if_neg (by simp), if_pos (by omega), if_pos (by omega), if_pos b1, decide_eq_true b2]
          exact j1t
        · obtain ⟨r, hr, hr2⟩ := j1f q1 q2 q3 q4 (fun _ => ⟨b1, by simp only [tmS]; omega⟩)
          refine ⟨r, ?_, hr2⟩
          rw [ev_succ]
          simp only [raft_Check.j0, ev_ite, e0, hii]
          rw [if_neg (by simp), if_pos (by omega), if_pos (by omega), if_pos b1, decide_eq_false b2]
          exact hr
      · refine no _ (fun h => b1 (h.2.2.2.2.1 hl0).1) ?_
        rw [ev_succ]
        simp only [raft_Check.j0, ev_ite, e0, hii]
        rw [if_neg (by simp), if_pos (by omega), if_pos (by omega), if_neg b1]
        exact j1t
    · obtain ⟨r, hr, hr2⟩ := j1f q1 q2 q3 q4 (fun h => absurd h hl0)
      refine ⟨r, ?_, hr2⟩
      rw [ev_succ]
      simp only [raft_Check.j0, ev_ite]
      rw [if_neg (by simp), if_neg (by omega)]
      exact hr
  obtain ⟨b, hb, hb2⟩ := raft_rows_ev l hl hg
  have mid : ∀ (P : Nat → Option Int), ((i = 0 ∧ t = 0) ∨ (1 ≤ i ∧ i ≤ 2147483647 ∧ 1 ≤ t ∧ t ≤ 2147483647)) → (∀ r, Ev P r ↔ (if (l.length : Int) > 1000 then Ev (fun k => raft_Check.j0 k true i t l h1 h2 c a) r else Ev (fun k => (raft_rows.f k l).bind fun t116 => (if t116 = true then ((hard_Check.f h1 h2 c).bind fun t117 => (raft_Check.j0 k (t117 != 0) i t l h1 h2 c a)) else (raft_Check.j0 k true i t l h1 h2 c a))) r)) → ∃ r : Int, Ev P r ∧ (r = 0 ↔ CheckS i t l h1 h2 c a) := by
    intro P q1 hP
    by_cases b1 : l.length > 1000
    · refine no _ (fun h => by have := h.2.1; omega) ?_
      rw [hP, if_pos (by omega)]
      exact j0t
    by_cases b2 : RowsS l
    · have hbt : b = true := hb2.2 b2
      by_cases b3 : mayH h1 h2 c = true
      · obtain ⟨r, hr, hr2⟩ := j0f q1 (by omega) b2 b3
        refine ⟨r, ?_, hr2⟩
        rw [hP, if_neg (by omega), ev_bind hb, ev_ite, if_pos hbt, ev_bind_c (hard_Check_ev _ _ _), if_pos b3]
        exact hr
      · refine no _ (fun h => b3 h.2.2.2.1) ?_
        rw [hP, if_neg (by omega), ev_bind hb, ev_ite, if_pos hbt, ev_bind_c (hard_Check_ev _ _ _), if_neg b3]
        exact j0t
    · refine no _ (fun h => b2 h.2.2.1) ?_
      rw [hP, if_neg (by omega), ev_bind hb, ev_ite, if_neg (fun h => b2 (hb2.1 h))]
      exact j0t
  have cnt : ¬ (i = 0 ∧ t = 0) → ∃ r : Int, Ev (fun k => (raft_counts.f i).bind fun t118 => (if t118 = true then ((raft_counts.f t).bind fun t119 => (if t119 = true then (if (l.length : Int) > 1000 then (raft_Check.j0 k true i t l h1 h2 c a) else ((raft_rows.f k l).bind fun t120 => (if t120 = true then ((hard_Check.f h1 h2 c).bind fun t121 => (raft_Check.j0 k (t121 != 0) i t l h1 h2 c a)) else (raft_Check.j0 k true i t l h1 h2 c a)))) else (raft_Check.j0 k true i t l h1 h2 c a))) else (raft_Check.j0 k true i t l h1 h2 c a))) r ∧ (r = 0 ↔ CheckS i t l h1 h2 c a) := by
    intro h0
    by_cases b1 : 1 ≤ i ∧ i ≤ 2147483647
    · by_cases b2 : 1 ≤ t ∧ t ≤ 2147483647
      · refine mid _ (.inr ⟨b1.1, b1.2, b2.1, b2.2⟩) (fun r => ?_)
        rw [ev_bind_c (raft_counts_ev _), ev_ite, if_pos (by simpa using b1), ev_bind_c (raft_counts_ev _), ev_ite, if_pos (by simpa using b2), ev_ite]
      · refine no _ (fun h => by have := h.1; omega) ?_
        rw [ev_bind_c (raft_counts_ev _), ev_ite, if_pos (by simpa using b1), ev_bind_c (raft_counts_ev _), ev_ite, if_neg (by simpa using b2)]
        exact j0t
    · refine no _ (fun h => by have := h.1; omega) ?_
      rw [ev_bind_c (raft_counts_ev _), ev_ite, if_neg (by simpa using b1)]
      exact j0t
  by_cases c1 : i = 0
  · by_cases c2 : t = 0
    · exact mid (fun k => raft_Check.f k i t l h1 h2 c a) (.inl ⟨c1, c2⟩) (fun r => by
        simp only [raft_Check.f, ev_ite]
        rw [if_pos c1, if_pos c2])
    · obtain ⟨r, hr, hr2⟩ := cnt (fun h => c2 h.2)
      refine ⟨r, ?_, hr2⟩
      simp only [raft_Check.f, ev_ite]
      rw [if_pos c1, if_neg c2]
      exact hr
  · obtain ⟨r, hr, hr2⟩ := cnt (fun h => c1 h.1)
    refine ⟨r, ?_, hr2⟩
    simp only [raft_Check.f, ev_ite]
    rw [if_neg c1]
    exact hr
theorem raft_Last_ev (i t : Int) (l : List EntS) (h1 h2 c a : Int) (hl : l.length ≤ 140737488351232) (hg : ∀ e ∈ l, goodR e) (hi : -9223372036854775808 ≤ i ∧ i ≤ 9223372036854775807) : ∃ r : Int × Int, Ev (fun k => raft_Last.f k i t l h1 h2 c a) r ∧ (CheckS i t l h1 h2 c a → r.1 = i + (l.length : Int)) := by
  obtain ⟨q, hq, hq2⟩ := raft_Check_ev i t l h1 h2 c a hl hg hi
  simp only [raft_Last.f]
  by_cases hc : CheckS i t l h1 h2 c a
  · have hq0 := hq2.2 hc
    by_cases hl0 : 0 < l.length
    · have e : wrap64 ((l.length : Int) - 1) = ((l.length - 1 : Nat) : Int) := by
        rw [w64 (by omega) (by omega)]
        omega
      refine ⟨(l[l.length - 1].f0, l[l.length - 1].f1), ?_, fun _ => ?_⟩
      · rw [ev_bind hq, ev_ite, if_pos hq0, ev_ite, if_pos (by omega), ev_ite, e, if_pos (by omega), ev_ite, if_pos (by omega), ev_some, rdE_get (by omega)]
      · have := check_ix hc (l.length - 1) (by omega)
        simp only [ixS] at this
        simp only
        omega
    · refine ⟨(i, t), ?_, fun _ => by simp only; omega⟩
      rw [ev_bind hq, ev_ite, if_pos hq0, ev_ite, if_neg (by omega), ev_some]
  · refine ⟨(0, 0), ?_, fun h => absurd h hc⟩
    rw [ev_bind hq, ev_ite, if_neg (fun h => hc (hq2.1 h)), ev_some]
theorem raft_Term_ev {i t : Int} {l : List EntS} {h1 h2 c a : Int} (hc : CheckS i t l h1 h2 c a) (hg : ∀ e ∈ l, goodR e) {p : Int} {o : Nat} (hp : p = i + o) (ho : o ≤ l.length) : Ev (fun k => raft_Term.f k i t l h1 h2 c a p) (termR tmS t l o, 0) := by
  have hl : l.length ≤ 1000 := hc.2.1
  have hir : 0 ≤ i ∧ i ≤ 2147483647 := by have := hc.1; omega
  obtain ⟨q, hq, hq2⟩ := raft_Check_ev i t l h1 h2 c a (by omega) hg (by omega)
  obtain ⟨r, hr, hr2⟩ := raft_Last_ev i t l h1 h2 c a (by omega) hg (by omega)
  have hr3 := hr2 hc
  simp only [raft_Term.f]
  rw [ev_bind hr, ev_bind hq, ev_ite, if_pos (hq2.2 hc), ev_ite, if_neg (by omega), ev_ite, if_neg (by omega), ev_ite]
  by_cases h0 : o = 0
  · subst h0
    rw [if_pos (by omega), ev_some, termR_zero]
  · have e : wrap64 (wrap64 (p - i) - 1) = ((o - 1 : Nat) : Int) := by
      rw [w64 (x := p - i) (by omega) (by omega), w64 (by omega) (by omega)]
      omega
    rw [if_neg (by omega), ev_ite, e, if_pos (by omega), ev_ite, if_pos (by omega), ev_some, termR_pos t l (by omega) ho, rdE_get (by omega)]
theorem slices_Clone_byte_byte_ev {b : List Int} (h : b.length < 140737488355328) : slices_Clone_byte_byte.f b = some b := by
  unfold slices_Clone_byte_byte.f
  rw [if_pos h]
theorem raft_own_ev (a b c : Int) (s : ByteArray) (f : Bool) {l : List Int} (x y z u : Int) (h : l.length ≤ 140737488351232) : raft_own.f a b c s f l x y z u = some (a, b, c, s, f, l, x, y, z, u) := by
  unfold raft_own.f
  rw [slices_Clone_byte_byte_ev (by omega)]
  rfl
theorem raft_owns_ev (l : List EntS) (hl : l.length ≤ 1000000000000) (hg : ∀ e ∈ l, goodR e) : Ev (fun k => raft_owns.f k l) l := by
  have main : ∀ (d j : Nat) (acc : List EntS), l.length - j = d → j ≤ l.length → acc.length = j → Ev (fun k => raft_owns.l0 k acc l (l.length : Int) (j : Int)) (acc ++ l.drop j) := by
    intro d
    induction d with
    | zero =>
      intro j acc hd hj ha
      rw [ev_succ]
      simp only [raft_owns.l0, ev_ite]
      rw [if_neg (by omega), ev_some, List.drop_eq_nil_of_le (by omega), List.append_nil]
    | succ d ih =>
      intro j acc hd hj ha
      have hjl : j < l.length := by omega
      have hgj := hg _ (rdE_mem hjl)
      have hw : wrap64 ((j : Int) + 1) = ((j + 1 : Nat) : Int) := w64 (by omega) (by omega)
      rw [rdE_drop hjl]
      rw [ev_succ]
      simp only [raft_owns.l0, ev_ite, hw]
      generalize rd_T46 l (j : Int) = e at hgj ⊢
      rw [if_pos (by omega), if_pos (by omega), if_pos (by omega), ev_bind_c (raft_own_ev _ _ _ _ _ _ _ _ _ hgj.2), ev_ite, if_pos (by omega)]
      refine ev_eq (ih (j + 1) (acc ++ [e]) (by omega) (by omega) (by rw [List.length_append, List.length_singleton]; omega)) ?_
      rw [List.append_assoc, List.singleton_append]
  exact main (l.length - 0) 0 [] rfl (by omega) rfl
abbrev OkS (i t : Int) (l : List EntS) (h1 h2 c a : Int) (m : List EntS) (o : Nat) : Prop := OkP ixS tmS i t l h1 h2 c a m o
abbrev OutS := Int × Int × List EntS × Int × Int × Int × Int × Int
theorem comm_right (x : List EntS) : comm tmS x [] = 0 := by cases x <;> simp [comm]
theorem raft_Put_l0_ev {i t : Int} {l : List EntS} {h1 h2 c a : Int} {m : List EntS} {o : Nat} (hi : 0 ≤ i ∧ i ≤ 2147483647) (hl : l.length ≤ 1000) (hml : m.length ≤ 1000000) (hix : ∀ (j : Nat) (h : j < m.length), ixS m[j] = i + 1 + o + j) (ho : o ≤ l.length) : ∀ (d j : Nat), m.length - j = d → j ≤ m.length → ∀ R : OutS,
    Ev (fun k => raft_Put.j2 k m ((j + comm tmS (l.drop (o + j)) (m.drop j) : Nat) : Int) i t l h1 h2 c a) R → Ev (fun k => raft_Put.l0 k m (i + (l.length : Int)) (j : Int) i t l h1 h2 c a) R := by
  intro d
  induction d with
  | zero =>
    intro j hd hj R hR
    have e : m.drop j = [] := List.drop_eq_nil_of_le (by omega)
    rw [e, comm_right, Nat.add_zero] at hR
    rw [ev_succ]
    simp only [raft_Put.l0, ev_ite]
    rw [if_neg (by omega)]
    exact hR
  | succ d ih =>
    intro j hd hj R hR
    have hjl : j < m.length := by omega
    have hx := hix j hjl
    have hw : wrap64 ((j : Int) + 1) = ((j + 1 : Nat) : Int) := w64 (by omega) (by omega)
    have he : m.drop j = m[j] :: m.drop (j + 1) := List.drop_eq_getElem_cons hjl
    simp only [ixS] at hx
    rw [ev_succ]
    simp only [raft_Put.l0, ev_ite, rdE_get hjl, hw]
    rw [if_pos (by omega), if_pos (by omega)]
    by_cases hb : o + j < l.length
    · have e : wrap64 (wrap64 (m[j].f0 - i) - 1) = ((o + j : Nat) : Int) := by
        rw [w64 (x := m[j].f0 - i) (by omega) (by omega), w64 (by omega) (by omega)]
        omega
      have hel : l.drop (o + j) = l[o + j] :: l.drop (o + j + 1) := List.drop_eq_getElem_cons hb
      rw [if_pos (by omega)]
      simp only [e, rdE_get hb]
      rw [if_pos (by omega), if_pos (by omega)]
      rw [hel, he, comm] at hR
      by_cases ht : l[o + j].f1 = m[j].f1
      · rw [if_pos ht] at hR
        rw [if_pos ht]
        refine ih (j + 1) (by omega) (by omega) R ?_
        have e2 : j + (comm tmS (l.drop (o + j + 1)) (m.drop (j + 1)) + 1) = j + 1 + comm tmS (l.drop (o + (j + 1))) (m.drop (j + 1)) := by
          rw [← Nat.add_assoc o j 1]
          omega
        rw [e2] at hR
        exact hR
      · rw [if_neg ht, Nat.add_zero] at hR
        rw [if_neg ht]
        exact hR
    · have hel : l.drop (o + j) = [] := List.drop_eq_nil_of_le (by omega)
      rw [hel, comm_nil, Nat.add_zero] at hR
      rw [if_neg (by omega)]
      exact hR
theorem raft_Put_ev (i t : Int) (l : List EntS) (h1 h2 c a : Int) (m : List EntS) (hl : l.length ≤ 140737488351232) (hg : ∀ e ∈ l, goodR e) (hml : m.length ≤ 1000000) (hgm : ∀ e ∈ m, goodR e) (hi : -9223372036854775808 ≤ i ∧ i ≤ 9223372036854775807) :
    ∃ out : OutS, Ev (fun k => raft_Put.f k i t l h1 h2 c a m) out ∧ (∀ o, OkS i t l h1 h2 c a m o → out = (i, t, putL tmS l m o, h1, h2, c, a, 0)) ∧ (out.2.2.2.2.2.2.2 = 0 → ∃ o, OkS i t l h1 h2 c a m o) := by
  obtain ⟨q, hq, hq2⟩ := raft_Check_ev i t l h1 h2 c a hl hg hi
  obtain ⟨r, hr, hr2⟩ := raft_Last_ev i t l h1 h2 c a hl hg hi
  obtain ⟨b, hb, hb2⟩ := raft_rows_ev m (by omega) hgm
  have no : ∀ (P : Nat → Option OutS) (e : Int), e ≠ 0 → (∀ o, ¬ OkS i t l h1 h2 c a m o) → Ev P (0, 0, [], 0, 0, 0, 0, e) → ∃ out : OutS, Ev P out ∧ (∀ o, OkS i t l h1 h2 c a m o → out = (i, t, putL tmS l m o, h1, h2, c, a, 0)) ∧ (out.2.2.2.2.2.2.2 = 0 → ∃ o, OkS i t l h1 h2 c a m o) :=
    fun P e he hn hP => ⟨_, hP, fun o ho => absurd ho (hn o), fun h => absurd h he⟩
  have j0t : ∀ x : Int, Ev (fun k => raft_Put.j0 k m x true i t l h1 h2 c a) (0, 0, [], 0, 0, 0, 0, 1) := by
    intro x
    rw [ev_succ]
    simp only [raft_Put.j0, ev_ite]
    rw [if_pos (by trivial), ev_some]
  simp only [raft_Put.f]
  by_cases hc : CheckS i t l h1 h2 c a
  · have hq0 := hq2.2 hc
    have hr0 := hr2 hc
    have hi' : 0 ≤ i ∧ i ≤ 2147483647 := by have := hc.1; omega
    have hl' : l.length ≤ 1000 := hc.2.1
    by_cases hm0 : m.length = 0
    · refine no _ 1 (by omega) (fun o ho => by obtain ⟨h, _⟩ := ho.2.2.1; omega) ?_
      rw [ev_bind hr, ev_bind hq, ev_ite, if_pos hq0, ev_ite, if_pos (by omega)]
      exact j0t _
    by_cases hrow : RowsS m
    · have hbt := hb2.2 hrow
      have hm1 : 0 < m.length := by omega
      have e0 : rd_T46 m 0 = m[0] := rdE_get hm1
      have hr1 := hrow.1 0 hm1
      simp only [ixS, tmS] at hr1
      have hmi := rows_ix hrow
      subst hbt
      by_cases c1 : m[0].f0 ≤ i
      · refine no _ 4 (by omega) (fun o ho => by obtain ⟨h, h', _⟩ := ho.2.2.1; simp only [ixS] at h'; omega) ?_
        rw [ev_bind hr, ev_bind hq, ev_ite, if_pos hq0, ev_ite, if_neg (by omega), ev_bind hb, ev_succ]
        simp only [raft_Put.j0, ev_ite, e0]
        rw [if_neg (by simp), if_pos (by omega), if_pos c1, ev_some]
      have hw1 : wrap64 (r.1 + 1) = i + (l.length : Int) + 1 := by rw [hr0, w64 (by omega) (by omega)]
      by_cases c2 : m[0].f0 > i + (l.length : Int) + 1
      · refine no _ 5 (by omega) (fun o ho => by obtain ⟨h, h', _⟩ := ho.2.2.1; have := ho.2.2.2.1; simp only [ixS] at h'; omega) ?_
        rw [ev_bind hr, ev_bind hq, ev_ite, if_pos hq0, ev_ite, if_neg (by omega), ev_bind hb, ev_succ]
        simp only [raft_Put.j0, ev_ite, e0, hw1]
        rw [if_neg (by simp), if_pos (by omega), if_neg c1, if_pos c2, ev_some]
      obtain ⟨o, hoe⟩ : ∃ o : Nat, m[0].f0 = i + 1 + o := ⟨(m[0].f0 - i - 1).toNat, by omega⟩
      have hol : o ≤ l.length := by omega
      have huniq : ∀ o', OkS i t l h1 h2 c a m o' → o' = o := fun o' ho => by obtain ⟨h, h', _⟩ := ho.2.2.1; simp only [ixS] at h'; omega
      have hterm := raft_Term_ev hc hg (p := wrap64 (m[0].f0 - 1)) (o := o) (by rw [w64 (by omega) (by omega)]; omega) hol
      have hown := raft_owns_ev l (by omega) hg
      by_cases c3 : m[0].f1 < termR tmS t l o
      · refine no _ 1 (by omega) (fun o' ho => by obtain ⟨h, _, h'⟩ := ho.2.2.1; rw [huniq o' ho] at h'; simp only [tmS] at h'; omega) ?_
        rw [ev_bind hr, ev_bind hq, ev_ite, if_pos hq0, ev_ite, if_neg (by omega), ev_bind hb, ev_succ]
        simp only [raft_Put.j0, ev_ite, e0, hw1]
        rw [if_neg (by simp), if_pos (by omega), if_neg c1, if_neg c2, ev_bind hterm, ev_ite, if_pos c3, ev_some]
      have hix : ∀ (j : Nat) (h : j < m.length), ixS m[j] = i + 1 + o + j := fun j h => by
        rw [hmi j h]
        simp only [ixS]
        omega
      have go : ∀ R : OutS, Ev (fun k => raft_Put.j2 k m ((comm tmS (l.drop o) m : Nat) : Int) i t l h1 h2 c a) R → Ev (fun k => (raft_Last.f k i t l h1 h2 c a).bind fun bt161 => ((raft_Check.f k i t l h1 h2 c a).bind fun t163 => (if t163 = 0 then (if (m.length : Int) = 0 then (raft_Put.j0 k m bt161.1 true i t l h1 h2 c a) else ((raft_rows.f k m).bind fun t164 => (raft_Put.j0 k m bt161.1 (!t164) i t l h1 h2 c a))) else (raft_Put.j0 k m bt161.1 true i t l h1 h2 c a)))) R := by
        intro R hR
        rw [ev_bind hr, ev_bind hq, ev_ite, if_pos hq0, ev_ite, if_neg (by omega), ev_bind hb, ev_succ]
        simp only [raft_Put.j0, ev_ite, e0, hw1]
        rw [if_neg (by simp), if_pos (by omega), if_neg c1, if_neg c2, ev_bind hterm, ev_ite, if_neg c3, ev_bind hown, hr0]
        have := raft_Put_l0_ev (h1 := h1) (h2 := h2) (c := c) (a := a) (t := t) hi' hl' hml hix hol (m.length - 0) 0 rfl (by omega) R
        simp only [Nat.zero_add, Nat.add_zero, List.drop_zero] at this
        exact this hR
      have hs := comm_le (tm := tmS) (l.drop o) m
      rw [List.length_drop] at hs
      clear hq2 hr2 hb2 hr hq hb hterm hown
      have okp : ∀ p : (comm tmS (l.drop o) m = m.length ∨ (c < i + 1 + o + comm tmS (l.drop o) m ∧ o + m.length ≤ 1000)), OkS i t l h1 h2 c a m o := fun p => ⟨hc, hrow, ⟨hm1, hix 0 hm1 |>.trans (by omega), by simp only [tmS]; omega⟩, hol, p⟩
      generalize hS : comm tmS (l.drop o) m = s at go hs okp
      by_cases c4 : s = m.length
      · refine ⟨(i, t, putL tmS l m o, h1, h2, c, a, 0), go _ ?_, fun o' ho => by rw [huniq o' ho], fun _ => ⟨o, okp (.inl c4)⟩⟩
        rw [ev_succ]
        simp only [raft_Put.j2, ev_ite]
        rw [if_pos (by omega), ev_some]
        unfold putL
        rw [hS, if_pos c4]
      have hsx := hix s (by omega)
      simp only [ixS] at hsx
      have es : rd_T46 m (s : Int) = m[s]'(by omega) := rdE_get (by omega)
      by_cases c5 : m[s].f0 ≤ c
      · refine no _ 11 (by omega) (fun o' ho => by
          have h9 := ho.2.2.2.2
          rw [huniq o' ho, hS] at h9
          omega) (go _ ?_)
        rw [ev_succ]
        simp only [raft_Put.j2, ev_ite, es]
        rw [if_neg (by omega), if_pos (by omega), if_pos (by omega), if_pos c5, ev_some]
      have EW : True → wrap64 (wrap64 (m[s].f0 - i) - 1) = ((o + s : Nat) : Int) := fun _ => by
        rw [w64 (x := m[s].f0 - i) (by omega) (by omega), w64 (by omega) (by omega)]
        omega
      have EW2 : True → wrap64 (wrap64 (((o + s : Nat) : Int) + (m.length : Int)) - (s : Int)) = ((o + m.length : Nat) : Int) := fun _ => by
        rw [w64 (x := ((o + s : Nat) : Int) + (m.length : Int)) (by omega) (by omega), w64 (by omega) (by omega)]
        omega
      by_cases c6 : o + m.length > 1000
      · refine no _ 7 (by omega) (fun o' ho => by
          have h9 := ho.2.2.2.2
          rw [huniq o' ho, hS] at h9
          omega) (go _ ?_)
        rw [ev_succ]
        have ew := EW trivial
        have ew2 := EW2 trivial
        simp only [raft_Put.j2, ev_ite, es, ew, ew2]
        clear ew ew2
        rw [if_neg (by omega), if_pos (by omega), if_pos (by omega), if_neg c5, if_pos (by omega), ev_some]
      · have hown2 := raft_owns_ev (m.drop s) (by rw [List.length_drop]; omega) (fun e he => hgm e (List.mem_of_mem_drop he))
        refine ⟨(i, t, putL tmS l m o, h1, h2, c, a, 0), go _ ?_, fun o' ho => by rw [huniq o' ho], fun _ => ⟨o, okp (.inr ⟨by omega, by omega⟩)⟩⟩
        rw [ev_succ]
        have ew := EW trivial
        have ew2 := EW2 trivial
        simp only [raft_Put.j2, ev_ite, es, ew, ew2, Int.toNat_natCast, Option.bind_some]
        clear ew ew2
        rw [if_neg (by omega), if_pos (by omega), if_pos (by omega), if_neg c5, if_neg (by omega), if_pos (by omega), if_pos (by omega), if_pos (by omega), ev_bind hown2, ev_ite, if_pos (by rw [List.length_take, List.length_drop]; omega), ev_some]
        unfold putL
        rw [hS, if_neg c4]
    · refine no _ 1 (by omega) (fun o ho => hrow ho.2.1) ?_
      have hbf : b = false := by
        rw [← Bool.not_eq_true]
        exact fun h => hrow (hb2.1 h)
      subst hbf
      rw [ev_bind hr, ev_bind hq, ev_ite, if_pos hq0, ev_ite, if_neg (by omega), ev_bind hb]
      exact j0t _
  · refine no _ 1 (by omega) (fun o ho => hc ho.1) ?_
    rw [ev_bind hr, ev_bind hq, ev_ite, if_neg (fun h => hc (hq2.1 h))]
    exact j0t _
theorem putL_mem {l m : List EntS} {o : Nat} {e : EntS} (h : e ∈ putL tmS l m o) : e ∈ l ∨ e ∈ m := by
  unfold putL at h
  split at h
  · exact .inl h
  · rcases List.mem_append.1 h with h | h
    · exact .inl (List.mem_of_mem_take h)
    · exact .inr (List.mem_of_mem_drop h)
theorem garnerlaw23_awake_ev : Ev (fun k => garnerlaw23_awake.f k) true := Ev.of (fun k => garnerlaw23_awake.mono k) (k := 60) (by decide +kernel)
theorem hard_Step_ev (t v c t' v' c' last : Int) : Ev (fun k => hard_Step.f k t v c t' v' c' last) (stepH t v c t' v' c' last) := by
  have h2 : ∀ b : Bool, b = decide (t' = t ∧ v ≠ 0 ∧ v' ≠ v) → Ev (fun k => hard_Step.j2 k last b t' v' c') (if t' = t ∧ v ≠ 0 ∧ v' ≠ v then 4 else if last < c' then 3 else 0) := by
    intro b hb
    rw [ev_succ]
    simp only [hard_Step.j2, ev_ite, ev_some, hb, decide_eq_true_eq]
    repeat' split
    all_goals first | rfl | omega
  have h1 : ∀ b : Bool, b = decide (t' < t ∨ c' < c) → Ev (fun k => hard_Step.j1 k last b t v c t' v' c') (if t' < t ∨ c' < c ∨ (t' = t ∧ v ≠ 0 ∧ v' ≠ v) then 4 else if last < c' then 3 else 0) := by
    intro b hb
    rw [ev_succ]
    simp only [hard_Step.j1, ev_ite, ev_some, hb, decide_eq_true_eq]
    by_cases hc : t' < t ∨ c' < c
    · rw [if_pos hc, if_pos (by omega)]
    · rw [if_neg hc]
      by_cases ht : t' = t
      · rw [if_pos ht]
        by_cases hv : v = 0
        · rw [if_pos hv]
          refine ev_eq (h2 false (by simp [hv])) ?_
          repeat' split
          all_goals first | rfl | omega
        · rw [if_neg hv]
          refine ev_eq (h2 _ (by rw [Bool.eq_iff_iff]; simp [hv, ht])) ?_
          repeat' split
          all_goals first | rfl | omega
      · rw [if_neg ht]
        refine ev_eq (h2 false (by simp [ht])) ?_
        repeat' split
        all_goals first | rfl | omega
  have h0 : ∀ b : Bool, b = (mayH t v c == false || mayH t' v' c' == false) → Ev (fun k => hard_Step.j0 k last b t v c t' v' c') (stepH t v c t' v' c' last) := by
    intro b hb
    rw [ev_succ]
    simp only [hard_Step.j0, ev_ite, ev_some]
    unfold stepH
    by_cases hm : mayH t v c = false ∨ mayH t' v' c' = false
    · rw [if_pos (by rw [hb]; simpa using hm), if_pos hm]
    · rw [if_neg (by rw [hb]; simpa using hm), if_neg hm]
      by_cases ht : t' < t
      · rw [if_pos ht]
        exact h1 true (by simp [ht])
      · rw [if_neg ht]
        exact h1 _ (by simp [ht])
  simp only [hard_Step.f, hard_Check_ev, Option.bind_some]
  by_cases hm : mayH t v c = true
  · simp only [hm, if_true]
    refine h0 _ ?_
    rw [hm]
    cases mayH t' v' c' <;> rfl
  · have hf : mayH t v c = false := by simpa using hm
    simp only [hf]
    exact h0 true (by rw [hf]; rfl)
theorem raft_Vote_ev {i t : Int} {l : List EntS} {h1 h2 c a : Int} (hc : CheckS i t l h1 h2 c a) (hg : ∀ e ∈ l, goodR e) (x y z : Int) : Ev (fun k => raft_Vote.f k i t l h1 h2 c a x y z) (if stepH h1 h2 c x y z (i + l.length) = 0 then (i, t, l, x, y, z, a, 0) else (0, 0, [], 0, 0, 0, 0, stepH h1 h2 c x y z (i + l.length))) := by
  have hl : l.length ≤ 1000 := hc.2.1
  have hir : 0 ≤ i ∧ i ≤ 2147483647 := by have := hc.1; omega
  obtain ⟨q, hq, hq2⟩ := raft_Check_ev i t l h1 h2 c a (by omega) hg (by omega)
  obtain ⟨r, hr, hr2⟩ := raft_Last_ev i t l h1 h2 c a (by omega) hg (by omega)
  have hr3 := hr2 hc
  simp only [raft_Vote.f]
  rw [ev_bind hq, ev_ite, if_pos (hq2.2 hc), ev_bind hr, hr3, ev_bind (hard_Step_ev _ _ _ _ _ _ _), ev_ite]
  by_cases h : stepH h1 h2 c x y z (i + (l.length : Int)) = 0
  · rw [if_pos h, if_pos h, ev_bind (raft_owns_ev l (by omega) hg), ev_some]
  · rw [if_neg h, if_neg h, ev_some]
theorem raft_Apply_ev {i t : Int} {l : List EntS} {h1 h2 c a : Int} (hc : CheckS i t l h1 h2 c a) (hg : ∀ e ∈ l, goodR e) (n : Int) : Ev (fun k => raft_Apply.f k i t l h1 h2 c a n) (if n < a then (0, 0, [], 0, 0, 0, 0, [], 4) else if n > c then (0, 0, [], 0, 0, 0, 0, [], 3) else (i, t, l, h1, h2, c, n, (l.take (n - i).toNat).drop (a - i).toNat, 0)) := by
  have hl : l.length ≤ 1000 := hc.2.1
  have hir : 0 ≤ i ∧ i ≤ 2147483647 := by have := hc.1; omega
  obtain ⟨h3, h4, h5⟩ := hc.2.2.2.2.2
  obtain ⟨q, hq, hq2⟩ := raft_Check_ev i t l h1 h2 c a (by omega) hg (by omega)
  simp only [raft_Apply.f]
  rw [ev_bind hq, ev_ite, if_pos (hq2.2 hc), ev_ite]
  by_cases b1 : n < a
  · rw [if_pos b1, if_pos b1, ev_some]
  rw [if_neg b1, if_neg b1, ev_ite]
  by_cases b2 : n > c
  · rw [if_pos b2, if_pos b2, ev_some]
  have w1 : wrap64 (a - i) = a - i := w64 (by omega) (by omega)
  have w2 : wrap64 (n - i) = n - i := w64 (by omega) (by omega)
  rw [if_neg b2, if_neg b2]
  simp only [w1, w2, ev_ite]
  rw [if_pos (by omega), if_pos (by omega), if_pos (by omega), ev_bind (raft_owns_ev _ (by rw [List.length_drop, List.length_take]; omega) (fun e he => hg e (List.mem_of_mem_take (List.mem_of_mem_drop he)))), ev_bind (raft_owns_ev l (by omega) hg), ev_some]
theorem raft_Compact_ev {i t : Int} {l : List EntS} {h1 h2 c a : Int} (hc : CheckS i t l h1 h2 c a) (hg : ∀ e ∈ l, goodR e) (n : Int) (h : ¬ n ≤ i) (h' : ¬ n > a) (q : Nat) (hq : (q : Int) = n - i) (hq0 : 0 < q) (hql : q ≤ l.length) : Ev (fun k => raft_Compact.f k i t l h1 h2 c a n) (n, tmS (l[q - 1]'(by omega)), l.drop q, h1, h2, c, a, 0) := by
  have hl : l.length ≤ 1000 := hc.2.1
  have hir : 0 ≤ i ∧ i ≤ 2147483647 := by have := hc.1; omega
  obtain ⟨h3, h4, h5⟩ := hc.2.2.2.2.2
  obtain ⟨s, hs, hs2⟩ := raft_Check_ev i t l h1 h2 c a (by omega) hg (by omega)
  have w1 : wrap64 (n - i) = (q : Int) := by rw [w64 (by omega) (by omega), hq]
  have w2 : wrap64 ((q : Int) - 1) = ((q - 1 : Nat) : Int) := by rw [w64 (by omega) (by omega)]; omega
  simp only [raft_Compact.f]
  rw [ev_bind hs, ev_ite, if_pos (hs2.2 hc), ev_ite, if_neg h, ev_ite, if_neg h']
  simp only [w1, w2, ev_ite, Int.toNat_natCast, rdE_get (show q - 1 < l.length by omega)]
  rw [if_pos (by omega), if_pos (by omega), if_pos (by omega), if_pos (by omega), ev_bind (raft_owns_ev _ (by rw [List.length_drop]; omega) (fun e he => hg e (List.mem_of_mem_drop he))), ev_some]
theorem raft_Compact_no {i t : Int} {l : List EntS} {h1 h2 c a : Int} (hc : CheckS i t l h1 h2 c a) (hg : ∀ e ∈ l, goodR e) (n : Int) (h : n ≤ i ∨ n > a) : ∃ x : Int, x ≠ 0 ∧ Ev (fun k => raft_Compact.f k i t l h1 h2 c a n) (0, 0, [], 0, 0, 0, 0, x) := by
  have hl : l.length ≤ 1000 := hc.2.1
  have hir : 0 ≤ i ∧ i ≤ 2147483647 := by have := hc.1; omega
  obtain ⟨s, hs, hs2⟩ := raft_Check_ev i t l h1 h2 c a (by omega) hg (by omega)
  by_cases b : n ≤ i
  · refine ⟨4, by omega, ?_⟩
    simp only [raft_Compact.f]
    rw [ev_bind hs, ev_ite, if_pos (hs2.2 hc), ev_ite, if_pos b, ev_some]
  · refine ⟨3, by omega, ?_⟩
    simp only [raft_Compact.f]
    rw [ev_bind hs, ev_ite, if_pos (hs2.2 hc), ev_ite, if_neg b, ev_ite, if_pos (by omega), ev_some]
theorem raft_Term_far {i t : Int} {l : List EntS} {h1 h2 c a : Int} (hc : CheckS i t l h1 h2 c a) (hg : ∀ e ∈ l, goodR e) {p : Int} (hp : p > i + l.length) : Ev (fun k => raft_Term.f k i t l h1 h2 c a p) (0, 3) := by
  have hl : l.length ≤ 1000 := hc.2.1
  have hir : 0 ≤ i ∧ i ≤ 2147483647 := by have := hc.1; omega
  obtain ⟨q, hq, hq2⟩ := raft_Check_ev i t l h1 h2 c a (by omega) hg (by omega)
  obtain ⟨r, hr, hr2⟩ := raft_Last_ev i t l h1 h2 c a (by omega) hg (by omega)
  have hr3 := hr2 hc
  simp only [raft_Term.f]
  rw [ev_bind hr, ev_bind hq, ev_ite, if_pos (hq2.2 hc), ev_ite, if_neg (by omega), ev_ite, if_pos (by omega), ev_some]
def restS (i t : Int) (l : List EntS) (n u : Int) : List EntS := if n ≤ i + l.length ∧ termR tmS t l (n - i).toNat = u then l.drop (n - i).toNat else []
theorem raft_Reset_ev {i t : Int} {l : List EntS} {h1 h2 c a : Int} (hc : CheckS i t l h1 h2 c a) (hg : ∀ e ∈ l, goodR e) (n u : Int) (hn : 1 ≤ n ∧ n ≤ 2147483647) (hu : 1 ≤ u ∧ u ≤ 2147483647) (hna : a < n) :
    Ev (fun k => raft_Reset.f k i t l h1 h2 c a n u) (n, u, restS i t l n u, (if h1 < u then u else h1), (if h1 < u then 0 else h2), mn (mx c n) (n + (restS i t l n u).length), n, 0) := by
  have hl : l.length ≤ 1000 := hc.2.1
  have hir : 0 ≤ i ∧ i ≤ 2147483647 := by have := hc.1; omega
  obtain ⟨h3, h4, h5⟩ := hc.2.2.2.2.2
  obtain ⟨s, hs, hs2⟩ := raft_Check_ev i t l h1 h2 c a (by omega) hg (by omega)
  have j1 : ∀ b : Bool, (b = true ↔ (n ≤ i + l.length ∧ termR tmS t l (n - i).toNat = u)) → Ev (fun k => raft_Reset.j1 k n u [] b i t l h1 h2 c a) (n, u, restS i t l n u, (if h1 < u then u else h1), (if h1 < u then 0 else h2), mn (mx c n) (n + (restS i t l n u).length), n, 0) := by
    intro b hb
    unfold restS
    rw [ev_succ]
    simp only [raft_Reset.j1, ev_ite]
    have w1 : ∀ m : Nat, m ≤ 1000 → wrap64 (n + (m : Int)) = n + m := fun m hm => w64 (by omega) (by omega)
    by_cases h : n ≤ i + l.length ∧ termR tmS t l (n - i).toNat = u
    · rw [if_pos (hb.2 h), w64 (x := n - i) (by omega) (by omega), if_pos (by omega), if_pos (by omega), ev_bind (raft_owns_ev _ (by rw [List.length_drop]; omega) (fun e he => hg e (List.mem_of_mem_drop he))), ev_ite, w1 _ (by rw [List.length_drop]; omega), if_pos h]
      split
      · rw [ev_some]
      · rw [ev_some]
    · rw [if_neg (fun q => h (hb.1 q)), w1 _ (by simp), if_neg h]
      split
      · rw [ev_some]
      · rw [ev_some]
  simp only [raft_Reset.f]
  rw [ev_bind hs, ev_ite, if_pos (hs2.2 hc), ev_bind_c (raft_counts_ev _), ev_ite, if_pos (by simpa using hn), ev_bind_c (raft_counts_ev _), ev_succ]
  simp only [raft_Reset.j0, ev_ite]
  rw [if_neg (by simpa using hu), if_neg (by omega)]
  by_cases hf : n ≤ i + l.length
  · rw [ev_bind (raft_Term_ev hc hg (p := n) (o := (n - i).toNat) (by omega) (by omega)), ev_ite, if_pos (by trivial)]
    exact j1 _ (by simp [hf])
  · rw [ev_bind (raft_Term_far hc hg (by omega)), ev_ite, if_neg (by simp)]
    exact j1 _ (by simp [hf])
theorem raft_Reset_no {i t : Int} {l : List EntS} {h1 h2 c a : Int} (hc : CheckS i t l h1 h2 c a) (hg : ∀ e ∈ l, goodR e) (n u : Int) (h : ¬ ((1 ≤ n ∧ n ≤ 2147483647) ∧ (1 ≤ u ∧ u ≤ 2147483647) ∧ a < n)) : ∃ x : Int, x ≠ 0 ∧ Ev (fun k => raft_Reset.f k i t l h1 h2 c a n u) (0, 0, [], 0, 0, 0, 0, x) := by
  have hl : l.length ≤ 1000 := hc.2.1
  have hir : 0 ≤ i ∧ i ≤ 2147483647 := by have := hc.1; omega
  obtain ⟨s, hs, hs2⟩ := raft_Check_ev i t l h1 h2 c a (by omega) hg (by omega)
  have j0t : Ev (fun k => raft_Reset.j0 k n u true i t l h1 h2 c a) (0, 0, [], 0, 0, 0, 0, 1) := by
    rw [ev_succ]
    simp only [raft_Reset.j0, ev_ite]
    rw [if_pos (by trivial), ev_some]
  by_cases b1 : 1 ≤ n ∧ n ≤ 2147483647
  · by_cases b2 : 1 ≤ u ∧ u ≤ 2147483647
    · refine ⟨4, by omega, ?_⟩
      simp only [raft_Reset.f]
      rw [ev_bind hs, ev_ite, if_pos (hs2.2 hc), ev_bind_c (raft_counts_ev _), ev_ite, if_pos (by simpa using b1), ev_bind_c (raft_counts_ev _), ev_succ]
      simp only [raft_Reset.j0, ev_ite]
      rw [if_neg (by simpa using b2), if_pos (by omega), ev_some]
    · refine ⟨1, by omega, ?_⟩
      simp only [raft_Reset.f]
      rw [ev_bind hs, ev_ite, if_pos (hs2.2 hc), ev_bind_c (raft_counts_ev _), ev_ite, if_pos (by simpa using b1), ev_bind_c (raft_counts_ev _), decide_eq_false b2]
      exact j0t
  · refine ⟨1, by omega, ?_⟩
    simp only [raft_Reset.f]
    rw [ev_bind hs, ev_ite, if_pos (hs2.2 hc), ev_bind_c (raft_counts_ev _), ev_ite, if_neg (by simpa using b1)]
    exact j0t
def KeptS (i : Int) (l : List EntS) (c i' : Int) (l' : List EntS) : Prop := i ≤ i' ∧ ∀ p : Nat, i' + p + 1 ≤ c → p < l'.length ∧ ∃ q : Nat, (q : Int) = i' - i + p ∧ l'[p]? = l[q]?
def DoneS (d i : Int) (l : List EntS) (c : Int) (m : List EntS) (o : OutS) : Prop := CheckS o.1 o.2.1 o.2.2.1 o.2.2.2.1 o.2.2.2.2.1 o.2.2.2.2.2.1 o.2.2.2.2.2.2.1 ∧ (∀ e ∈ o.2.2.1, e ∈ l ∨ e ∈ m) ∧ (d ≠ 4 → KeptS i l c o.1 o.2.2.1)
theorem KeptS.refl {i c : Int} {l : List EntS} (h : c ≤ i + l.length) : KeptS i l c i l := ⟨by omega, fun p hp => ⟨by omega, p, by omega, rfl⟩⟩
theorem garnerlaw23_act_ev {i t : Int} {l : List EntS} {h1 h2 c a : Int} (hc : CheckS i t l h1 h2 c a) (hg : ∀ e ∈ l, goodR e) (d : Int) (m : List EntS) (hml : m.length ≤ 1000000) (hgm : ∀ e ∈ m, goodR e) (x y z n u : Int) :
    ∃ o : OutS, Ev (fun k => garnerlaw23_act.f k i t l h1 h2 c a d m x y z n u) o ∧ (o.2.2.2.2.2.2.2 = 0 → DoneS d i l c m o) := by
  have hl : l.length ≤ 1000 := hc.2.1
  have hir : 0 ≤ i ∧ i ≤ 2147483647 := by have := hc.1; omega
  have g8 := hc.2.2.2.2.2.2.2
  have g7 := hc.2.2.2.2.2.2.1
  have g6 := hc.2.2.2.2.2.1
  have hm := mayH_iff.1 hc.2.2.2.1
  simp only [garnerlaw23_act.f, ev_ite]
  by_cases d0 : d = 0
  · obtain ⟨o, p1, p2, p3⟩ := raft_Put_ev i t l h1 h2 c a m (by omega) hg hml hgm (by omega)
    refine ⟨o, ?_, fun h => ?_⟩
    · rw [if_pos d0, ev_bind p1, ev_some]
    · obtain ⟨w, hw⟩ := p3 h
      rw [p2 w hw]
      refine ⟨put_check hw, fun e he => putL_mem he, fun _ => ⟨by omega, fun p hp => ?_⟩⟩
      obtain ⟨k1, k2⟩ := put_kept hw (k := p) hp
      exact ⟨k1, p, by omega, k2⟩
  by_cases d1 : d = 1
  · refine ⟨?_, ?_, ?_⟩
    rotate_left
    · rw [if_neg d0, if_pos d1, ev_bind (raft_Vote_ev hc hg x y z), ev_some]
    · split
      · rename_i hs
        intro _
        have hst := hs
        unfold stepH at hst
        split at hst
        · omega
        · rename_i q1
          split at hst
          · omega
          · rename_i q2
            split at hst
            · omega
            · have hmy : mayH x y z = true := by
                cases hb : mayH x y z with
                | true => rfl
                | false => exact absurd (.inr hb) q1
              have kk : CheckS i t l x y z a := ⟨hc.1, hc.2.1, hc.2.2.1, hmy, hc.2.2.2.2.1, by omega, by omega, by omega⟩
              exact ⟨kk, fun e he => .inl he, fun _ => KeptS.refl g8⟩
      · rename_i hs
        intro h
        exact absurd h hs
  by_cases d2 : d = 2
  · refine ⟨?_, ?_, ?_⟩
    rotate_left
    · rw [if_neg d0, if_neg d1, if_pos d2, ev_bind (raft_Apply_ev hc hg n), ev_some]
    · split
      · intro h; simp at h
      · split
        · intro h; simp at h
        · intro _
          have kk : CheckS i t l h1 h2 c n := ⟨hc.1, hc.2.1, hc.2.2.1, hc.2.2.2.1, hc.2.2.2.2.1, by omega, by omega, by omega⟩
          exact ⟨kk, fun e he => .inl he, fun _ => KeptS.refl g8⟩
  by_cases d3 : d = 3
  · by_cases hn : n ≤ i ∨ n > a
    · obtain ⟨w, hw, hw2⟩ := raft_Compact_no hc hg n hn
      refine ⟨(0, 0, [], 0, 0, 0, 0, w), ?_, fun h => absurd h hw⟩
      rw [if_neg d0, if_neg d1, if_neg d2, if_pos d3, ev_bind hw2, ev_some]
    · obtain ⟨q, hq⟩ : ∃ q : Nat, (q : Int) = n - i := ⟨(n - i).toNat, by omega⟩
      refine ⟨(n, tmS (l[q - 1]'(by omega)), l.drop q, h1, h2, c, a, 0), ?_, fun _ => ⟨?_, fun e he => .inl (List.mem_of_mem_drop he), fun _ => ⟨by simp only; omega, fun p hp => ?_⟩⟩⟩
      · rw [if_neg d0, if_neg d1, if_neg d2, if_pos d3, ev_bind (raft_Compact_ev hc hg n (by omega) (by omega) q hq (by omega) (by omega)), ev_some]
      · have := cut_check hc (q := q) (by omega) (by omega) (t' := tmS (l[q - 1]'(by omega))) (h1' := h1) (h2' := h2) (c' := c) (a' := a) rfl hc.2.2.2.1 (by omega) (by omega) (by omega)
        have e : i + (q : Int) = n := by omega
        rw [e] at this
        exact this
      · simp only at hp ⊢
        refine ⟨by rw [List.length_drop]; omega, q + p, by omega, ?_⟩
        rw [List.getElem?_drop]
  by_cases d4 : d = 4
  · by_cases hn : (1 ≤ n ∧ n ≤ 2147483647) ∧ (1 ≤ u ∧ u ≤ 2147483647) ∧ a < n
    · refine ⟨(n, u, restS i t l n u, (if h1 < u then u else h1), (if h1 < u then 0 else h2), mn (mx c n) (n + (restS i t l n u).length), n, 0), ?_, fun _ => ⟨?_, ?_, fun h => absurd d4 h⟩⟩
      · rw [if_neg d0, if_neg d1, if_neg d2, if_neg d3, if_pos d4, ev_bind (raft_Reset_ev hc hg n u hn.1 hn.2.1 hn.2.2), ev_some]
      · simp only
        have hlen : (restS i t l n u).length ≤ 1000 := by
          unfold restS
          split
          · rw [List.length_drop]; omega
          · simp
        have hbig : i < n → n + (restS i t l n u).length ≤ 2147483647 := by
          intro _
          unfold restS
          split
          · rename_i hr
            rw [List.length_drop]
            by_cases hz : n = i + l.length
            · omega
            · have := check_ix hc (l.length - 1) (by omega)
              have h3 := (hc.2.2.1.1 (l.length - 1) (by omega)).2.1
              omega
          · simp only [List.length_nil]; omega
        have hb2 := hbig (by omega)
        have hmn : n ≤ mn (mx c n) (n + (restS i t l n u).length) ∧ mn (mx c n) (n + (restS i t l n u).length) ≤ n + (restS i t l n u).length := by
          unfold mn mx
          constructor
          · repeat' split
            all_goals omega
          · repeat' split
            all_goals omega
        have hmay : mayH (if h1 < u then u else h1) (if h1 < u then 0 else h2) (mn (mx c n) (n + (restS i t l n u).length)) = true := by
          rw [mayH_iff]
          generalize mn (mx c n) (n + (restS i t l n u).length) = C at hmn ⊢
          split
          · omega
          · omega
        generalize mn (mx c n) (n + (restS i t l n u).length) = C at hmn hmay ⊢
        unfold restS at hmn ⊢
        by_cases hr : n ≤ i + l.length ∧ termR tmS t l (n - i).toNat = u
        · rw [if_pos hr] at hmn ⊢
          obtain ⟨q, hq⟩ : ∃ q : Nat, (q : Int) = n - i := ⟨(n - i).toNat, by omega⟩
          have e1 : (n - i).toNat = q := by omega
          have e : i + (q : Int) = n := by omega
          rw [e1] at hr hmn ⊢
          rw [List.length_drop] at hmn
          rw [termR_pos t l (by omega) (by omega)] at hr
          have := cut_check hc (q := q) (by omega) (by omega) (t' := u) (c' := C) (a' := n) hr.2.symm hmay (by omega) (by omega) (by omega)
          rw [e] at this
          exact this
        · rw [if_neg hr] at hmn ⊢
          exact ⟨.inr ⟨hn.1.1, hn.1.2, hn.2.1.1, hn.2.1.2⟩, by simp, ⟨fun j h => absurd h (by simp), fun j h => absurd h (by simp)⟩, hmay, fun h => absurd h (by simp), by omega, by omega, by omega⟩
      · simp only
        intro e he
        unfold restS at he
        split at he
        · exact .inl (List.mem_of_mem_drop he)
        · simp at he
    · obtain ⟨w, hw, hw2⟩ := raft_Reset_no hc hg n u hn
      refine ⟨(0, 0, [], 0, 0, 0, 0, w), ?_, fun h => absurd h hw⟩
      rw [if_neg d0, if_neg d1, if_neg d2, if_neg d3, if_pos d4, ev_bind hw2, ev_some]
  · refine ⟨(i, t, l, h1, h2, c, a, 1), ?_, fun h => absurd h (by simp)⟩
    rw [if_neg d0, if_neg d1, if_neg d2, if_neg d3, if_neg d4, ev_some]
theorem raft_Get_ev {i t : Int} {l : List EntS} {h1 h2 c a : Int} (hc : CheckS i t l h1 h2 c a) (hg : ∀ e ∈ l, goodR e) {p : Int} {q : Nat} (hp : p = i + q + 1) (hq : q < l.length) : Ev (fun k => raft_Get.f k i t l h1 h2 c a p) (l[q].f0, l[q].f1, l[q].f2, l[q].f3, l[q].f4.f0, l[q].f4.f1, l[q].f4.f2.f0, l[q].f4.f2.f1, l[q].f4.f2.f2, l[q].f4.f2.f3, 0) := by
  have hl : l.length ≤ 1000 := hc.2.1
  have hir : 0 ≤ i ∧ i ≤ 2147483647 := by have := hc.1; omega
  obtain ⟨s, hs, hs2⟩ := raft_Check_ev i t l h1 h2 c a (by omega) hg (by omega)
  obtain ⟨r, hr, hr2⟩ := raft_Last_ev i t l h1 h2 c a (by omega) hg (by omega)
  have hr3 := hr2 hc
  have w1 : wrap64 (wrap64 (p - i) - 1) = (q : Int) := by rw [w64 (x := p - i) (by omega) (by omega), w64 (by omega) (by omega)]; omega
  have hgq := hg _ (List.getElem_mem hq)
  simp only [raft_Get.f]
  rw [ev_bind hr, ev_bind hs, ev_ite, if_pos (hs2.2 hc), ev_ite, if_neg (by omega), ev_ite, if_neg (by omega)]
  simp only [w1, rdE_get hq, ev_ite]
  rw [if_pos (by omega), if_pos (by omega), ev_bind_c (raft_own_ev _ _ _ _ _ _ _ _ _ hgq.2), ev_some]
theorem garnerref02_same_l0_ev (x y : List Int) (hxy : x.length = y.length) (hl : x.length ≤ maxLen) : ∀ (d i : Nat), x.length - i = d → i ≤ x.length → Ev (fun k => garnerref02_same.l0 k x y (i : Int)) (decide (x.drop i = y.drop i)) := by
  have hlm := maxLen_le hl
  intro d
  induction d with
  | zero =>
    intro i hd hi
    rw [ev_succ]
    simp only [garnerref02_same.l0, ev_ite]
    rw [if_neg (by omega), ev_some, List.drop_eq_nil_of_le (by omega), List.drop_eq_nil_of_le (by omega)]
    simp
  | succ d ih =>
    intro i hd hi
    rw [ev_succ]
    simp only [garnerref02_same.l0, ev_ite]
    rw [if_pos (by omega), if_pos (by omega), if_pos (by omega), w64 (by omega) (by omega), drop_eq (xs := x) (by omega), drop_eq (xs := y) (by omega)]
    by_cases h : rd x (i : Int) = rd y (i : Int)
    · rw [if_pos h, h]
      refine ev_eq (ih (i + 1) (by omega) (by omega)) ?_
      simp
    · rw [if_neg h, ev_some]
      simp [h]
theorem garnerref02_same_ev {x y : List Int} (hl : x.length ≤ maxLen) : Ev (fun k => garnerref02_same.f k x y) (decide (x = y)) := by
  simp only [garnerref02_same.f, ev_ite]
  by_cases h : x.length = y.length
  · rw [if_pos (by omega)]
    exact garnerref02_same_l0_ev x y h hl (x.length - 0) 0 rfl (by omega)
  · rw [if_neg (by omega), ev_some]
    symm
    simp only [decide_eq_false_iff_not]
    rintro rfl
    exact h rfl
theorem garnerref02_Bytes_ev {x y : List Int} (hl : x.length ≤ maxLen) : Ev (fun k => garnerref02_Bytes.f k x y) (decide (x = y)) := by
  simp only [garnerref02_Bytes.f]
  rw [ev_bind (garnerref02_same_ev hl), ev_some]
theorem garnerref06_Same_self (l : List S46) (hl : l.length ≤ 140737488351232) (hg : ∀ e ∈ l, e.f4.f1.length ≤ maxLen) : Ev (fun k => garnerref06_Same.f k l l) true := by
  have main : ∀ (d j : Nat), l.length - j = d → j ≤ l.length → Ev (fun k => garnerref06_Same.l0 k l l (j : Int)) true := by
    intro d
    induction d with
    | zero =>
      intro j hd hj
      rw [ev_succ]
      simp only [garnerref06_Same.l0, ev_ite]
      rw [if_neg (by omega), ev_some]
    | succ d ih =>
      intro j hd hj
      have hjl : j < l.length := by omega
      have e : rd_T46 l (j : Int) = l[j] := by simp [rd_T46, hjl]
      have hgj := hg _ (List.getElem_mem hjl)
      have hw : wrap64 ((j : Int) + 1) = ((j + 1 : Nat) : Int) := w64 (by omega) (by omega)
      rw [ev_succ]
      simp only [garnerref06_Same.l0, ev_ite, hw, e]
      generalize l[j] = x at hgj ⊢
      have hs : Ev (fun k => garnerref05_Same.f k x.f4.f0 x.f4.f1 x.f4.f2.f0 x.f4.f2.f1 x.f4.f2.f2 x.f4.f2.f3 x.f4.f0 x.f4.f1 x.f4.f2.f0 x.f4.f2.f1 x.f4.f2.f2 x.f4.f2.f3) true := by
        simp only [garnerref05_Same.f, ev_ite]
        rw [if_pos (by simp), if_pos (by simp), ev_bind (garnerref02_Bytes_ev hgj), ev_some]
        simp
      rw [if_pos (by omega), if_pos (by omega), if_pos (by omega), if_pos (by trivial), if_pos (by trivial), if_pos (by trivial), if_pos (by trivial), ev_bind hs, ev_ite, if_pos (by trivial)]
      exact ih (j + 1) (by omega) (by omega)
  simp only [garnerref06_Same.f, ev_ite]
  rw [if_pos (by trivial)]
  exact main (l.length - 0) 0 rfl (by omega)
theorem garnerref23_counts_ev (n : Int) : garnerref23_counts.f n = some (decide (1 ≤ n ∧ n ≤ 2147483647)) := by
  unfold garnerref23_counts.f
  split
  · congr 1
    rw [decide_eq_decide]
    omega
  · congr 1
    symm
    rw [decide_eq_false_iff_not]
    omega
theorem garnerref23_Rows_ev {l : List EntS} (hl : l.length ≤ 1000000000000) (h : RowsS l) : Ev (fun k => garnerref23_Rows.f k l) true := by
  have main : ∀ (d j : Nat), l.length - j = d → j ≤ l.length → Ev (fun k => garnerref23_Rows.l0 k l (j : Int)) true := by
    intro d
    induction d with
    | zero =>
      intro j hd hj
      rw [ev_succ]
      simp only [garnerref23_Rows.l0, ev_ite]
      rw [if_neg (by omega), ev_some]
    | succ d ih =>
      intro j hd hj
      have hjl : j < l.length := by omega
      have hw : wrap64 ((j : Int) + 1) = ((j + 1 : Nat) : Int) := w64 (by omega) (by omega)
      have h1 := h.1 j hjl
      simp only [ixS, tmS] at h1
      have hn := ih (j + 1) (by omega) (by omega)
      rw [ev_succ]
      simp only [garnerref23_Rows.l0, ev_ite, hw, rdE_get hjl]
      rw [if_pos (by omega), if_pos (by omega), ev_bind_c (garnerref23_counts_ev _), ev_ite, if_pos (by simp; omega), ev_bind_c (garnerref23_counts_ev _), ev_ite, if_pos (by simp; omega), ev_ite]
      by_cases h0 : j = 0
      · rw [if_neg (by omega)]
        exact hn
      · have h2 := h.2 (j - 1) (by omega)
        have e : j - 1 + 1 = j := by omega
        simp only [e, ixS, tmS] at h2
        have w1 : wrap64 ((j : Int) - 1) = ((j - 1 : Nat) : Int) := by rw [w64 (by omega) (by omega)]; omega
        simp only [w1, ev_ite, rdE_get (show j - 1 < l.length by omega)]
        rw [if_pos (by omega), if_pos (by omega), if_pos (by omega), w64 (by omega) (by omega), if_pos (by omega), if_neg (by omega)]
        exact hn
  exact main (l.length - 0) 0 rfl (by omega)
theorem garnerref22_May_ev (t v c : Int) : garnerref22_May.f t v c = some (mayH t v c) := by
  unfold garnerref22_May.f mayH
  repeat' split
  all_goals (congr 1; first | (symm; rw [decide_eq_false_iff_not]; omega) | (symm; rw [decide_eq_true_eq]; omega) | (rw [Bool.eq_iff_iff]; simp only [decide_eq_true_eq, beq_iff_eq]; omega))
theorem garnerref23_May_yes {i t : Int} {l : List EntS} {h1 h2 c a : Int} (hc : CheckS i t l h1 h2 c a) : Ev (fun k => garnerref23_May.f k i t l h1 h2 c a) true := by
  obtain ⟨g1, g2, g3, g4, g5, g6, g7, g8⟩ := hc
  have hir : 0 ≤ i ∧ i ≤ 2147483647 ∧ 0 ≤ t ∧ t ≤ 2147483647 := by omega
  have hb : ¬ (((i == 0) != (t == 0)) = true) := by
    have : (i == 0) = (t == 0) := by
      rw [Bool.eq_iff_iff]
      simp only [beq_iff_eq]
      omega
    rw [this]
    simp
  simp only [garnerref23_May.f, ev_ite]
  rw [if_neg (by omega), if_neg (by omega), if_neg (by omega), if_neg (by omega), if_neg hb, if_neg (by omega), ev_bind (garnerref23_Rows_ev (by omega) g3), ev_ite, if_pos (by trivial), ev_bind_c (garnerref22_May_ev _ _ _), g4, ev_succ]
  simp only [garnerref23_May.j0, ev_ite]
  rw [if_neg (by simp)]
  have w1 : wrap64 (i + (l.length : Int)) = i + l.length := w64 (by omega) (by omega)
  have fin : Ev (fun k => some (decide (c ≤ wrap64 (i + (l.length : Int))))) true := by
    rw [w1, ev_some]
    simpa using g8
  by_cases h0 : 0 < l.length
  · obtain ⟨k1, k2⟩ := g5 h0
    simp only [ixS, tmS] at k1 k2
    have e0 : rd_T46 l 0 = l[0] := rdE_get h0
    have k3 := (g3.1 0 h0).1
    have k4 := (g3.1 0 h0).2.1
    simp only [ixS] at k3 k4
    simp only [e0]
    rw [if_pos (by omega), if_pos (by omega), w64 (x := l[0].f0 - 1) (by omega) (by omega), if_pos (by omega), if_neg (by omega), if_pos (by omega), if_pos (by omega)]
    exact fin
  · rw [if_neg (by omega), if_pos (by omega), if_pos (by omega)]
    exact fin
theorem RaftMay : StRaftMay.Pure := by
  intro x hx _ hgx
  have good : ∀ e : EntS, StRaftMay.g46 e → goodR e ∧ e.f4.f1.length ≤ maxLen := fun e he => by
    obtain ⟨h1, h2, h3, h4, h5⟩ := he
    obtain ⟨_, ⟨h6, h7, h8⟩, h9⟩ := h5
    exact ⟨⟨wf_i64 h1, by omega⟩, h6⟩
  refine Ev.rounds (g := fun k => garnerlaw23_RaftMay.f k x) ?_
  have fin : Ev (fun k => (garnerlaw23_awake.f k).bind fun t => some t) true := by rw [ev_bind garnerlaw23_awake_ev, ev_some]
  simp only [garnerlaw23_RaftMay.f, ev_ite]
  by_cases c0 : x.length > 40
  · rw [if_pos (by omega)]
    exact fin
  rw [if_neg (by omega)]
  have main : ∀ (D j : Nat), x.length - j = D → j ≤ x.length → ∀ (i t : Int) (l : List EntS) (h1 h2 c a : Int), CheckS i t l h1 h2 c a → (∀ e ∈ l, goodR e ∧ e.f4.f1.length ≤ maxLen) → Ev (fun k => garnerlaw23_RaftMay.l0 k x (j : Int) i t l h1 h2 c a) true := by
    intro D
    induction D with
    | zero =>
      intro j hd hj i t l h1 h2 c a hc hg
      rw [ev_succ]
      simp only [garnerlaw23_RaftMay.l0, ev_ite]
      rw [if_neg (by omega)]
      exact fin
    | succ D ih =>
      intro j hd hj i t l h1 h2 c a hc hg
      have hjl : j < x.length := by omega
      have hw : wrap64 ((j : Int) + 1) = ((j + 1 : Nat) : Int) := w64 (by omega) (by omega)
      have e0 : rd_T37 x (j : Int) = x[j] := by simp [rd_T37, hjl]
      obtain ⟨_, ⟨m1, m2, m3⟩, _, _, _⟩ := hgx _ (List.getElem_mem hjl)
      rw [ev_succ]
      simp only [garnerlaw23_RaftMay.l0, ev_ite, e0, hw]
      rw [if_pos (by omega), if_pos (by omega), ev_bind (garnerlaw06_Light_ev x[j].f1 (by omega)), ev_ite]
      by_cases c2 : lightN (prsN x[j].f1) = true
      · have hm40 : x[j].f1.length ≤ 40 := by
          unfold lightN at c2
          rw [Bool.and_eq_true, decide_eq_true_eq, prsN_len] at c2
          exact c2.1
        rw [if_pos c2]
        obtain ⟨o, p1, p2⟩ := garnerlaw23_act_ev hc (fun e he => (hg e he).1) x[j].f0 x[j].f1 (by omega) (fun e he => (good e (m3 e he)).1) x[j].f2.f0 x[j].f2.f1 x[j].f2.f2 x[j].f3 x[j].f4
        rw [ev_bind p1, ev_ite]
        by_cases c3 : o.2.2.2.2.2.2.2 = 0
        · rw [if_pos c3]
          obtain ⟨q1, q2, q3⟩ := p2 c3
          clear p1 p2 c3
          obtain ⟨i', t', l', h1', h2', c', a', er⟩ := o
          simp only at q1 q2 q3 ⊢
          have hg' : ∀ e ∈ l', goodR e ∧ e.f4.f1.length ≤ maxLen := fun e he => by
            rcases q2 e he with h | h
            · exact hg e h
            · exact good e (m3 e h)
          have hl : l.length ≤ 1000 := hc.2.1
          have hl' : l'.length ≤ 1000 := q1.2.1
          have hir : 0 ≤ i ∧ i ≤ 2147483647 := by have := hc.1; omega
          have hir' : 0 ≤ i' ∧ i' ≤ 2147483647 := by have := q1.1; omega
          have hcl := hc.2.2.2.2.2.2.2
          have nxt := ih (j + 1) (by omega) (by omega) i' t' l' h1' h2' c' a' q1 hg'
          have j2f : ∀ p : Int, Ev (fun k => garnerlaw23_RaftMay.j2 k x (j : Int) p false i t l h1 h2 c a i' t' l' h1' h2' c' a') true := by
            intro p
            rw [ev_succ]
            simp only [garnerlaw23_RaftMay.j2, ev_ite]
            rw [if_neg (by simp), ev_bind (garnerref23_May_yes q1), ev_ite, if_pos (by trivial), hw]
            exact nxt
          rw [w64 (x := i' + 1) (by omega) (by omega)]
          by_cases d4 : x[j].f0 = 4
          · rw [ev_succ]
            simp only [garnerlaw23_RaftMay.l1, ev_ite, e0]
            have hb : (x[j].f0 != 4) = false := by simp [d4]
            rw [hb]
            split
            · rw [if_pos (by omega), if_pos (by omega)]
              exact j2f _
            · exact j2f _
          · have hk := q3 d4
            have hb : (x[j].f0 != 4) = true := by simp [d4]
            have loop : ∀ (F p : Nat), (c + 1 - (i' + 1 + p)).toNat = F → Ev (fun k => garnerlaw23_RaftMay.l1 k x (j : Int) (i' + 1 + (p : Int)) i t l h1 h2 c a i' t' l' h1' h2' c' a') true := by
              intro F
              induction F with
              | zero =>
                intro p hF
                rw [ev_succ]
                simp only [garnerlaw23_RaftMay.l1, ev_ite]
                rw [if_neg (by omega)]
                exact j2f _
              | succ F ihF =>
                intro p hF
                obtain ⟨k1, q, k2, k3⟩ := hk.2 p (by omega)
                have k0 := hk.1
                have hql : q < l.length := by omega
                rw [List.getElem?_eq_getElem k1, List.getElem?_eq_getElem hql] at k3
                have k4 := Option.some.inj k3
                have hge := hg _ (List.getElem_mem hql)
                have hn := ihF (p + 1) (by omega)
                have ep : i' + 1 + ((p + 1 : Nat) : Int) = i' + 1 + p + 1 := by omega
                rw [ep] at hn
                rw [ev_succ]
                simp only [garnerlaw23_RaftMay.l1, ev_ite, e0, hb]
                rw [if_pos (by omega), if_pos (by omega), if_pos (by omega), ev_succ]
                simp only [garnerlaw23_RaftMay.j2, ev_ite]
                rw [if_pos (by trivial), ev_bind (raft_Get_ev hc (fun e he => (hg e he).1) (p := i' + 1 + p) (q := q) (by omega) hql), ev_bind (raft_Get_ev q1 (fun e he => (hg' e he).1) (p := i' + 1 + p) (q := p) (by omega) k1)]
                simp only [k4, ev_ite]
                rw [if_pos (by trivial), if_pos (by trivial), ev_bind (garnerref06_Same_self [l[q]] (by simp) (fun e he => by rw [List.mem_singleton] at he; rw [he]; exact hge.2)), ev_ite, if_pos (by trivial), w64 (by omega) (by omega)]
                exact hn
            have := loop _ 0 rfl
            rw [show i' + 1 + ((0 : Nat) : Int) = i' + 1 from by omega] at this
            exact this
        · rw [if_neg c3]
          exact ih (j + 1) (by omega) (by omega) i t l h1 h2 c a hc hg
      · rw [if_neg c2]
        exact fin
  exact main (x.length - 0) 0 rfl (by omega) 0 0 [] 0 0 0 0 ⟨.inl ⟨rfl, rfl⟩, by simp, ⟨fun j h => absurd h (by simp), fun j h => absurd h (by simp)⟩, by decide, fun h => absurd h (by simp), by omega, by omega, by simp⟩ (fun e he => absurd he (by simp))
end Go.Proofs.Ytinldhpdfomcjaa.Pure
