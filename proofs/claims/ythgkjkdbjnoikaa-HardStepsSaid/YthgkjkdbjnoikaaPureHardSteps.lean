/- The pure statement of the law HardSteps: what the printed functions answer, each by its plain law, and that the law's answer is true. -/
import Derived.Test.YthgkjkdbjnoikaaPHardStepsx0
import Derived.Test.YthgkjkdbjnoikaaPHardStepsx1
import Derived.Test.YthgkjkdbjnoikaaPHardStepsx2
import Derived.Test.YthgkjkdbjnoikaaPHardStepsx3
import Derived.Test.YthgkjkdbjnoikaaPHardStepsx4
import Derived.Test.YthgkjkdbjnoikaaPHardStepsx5
import Derived.Test.YthgkjkdbjnoikaaStHardSteps
import Derived.Test.YthgkjkdbjnoikaaSz
import Derived.Test.YthgkjkdbjnoikaaV02
import Derived.Test.YthgkjkdbjnoikaaV22
namespace Go.Proofs.Ythgkjkdbjnoikaa.Pure
open Go.RowKit Go.Proofs.Ythgkjkdbjnoikaa.PHardSteps Go.Proofs.Ythgkjkdbjnoikaa.U Go.Proofs.YthgkjkdbjnoikaaW.PrintWords Go.Proofs.YthgkjkdbjnoikaaW.PrintLast Go.Proofs.YthgkjkdbjnoikaaW.PrintMore
set_option linter.unusedVariables false
set_option linter.unusedSimpArgs false
set_option maxRecDepth 4000

theorem hard_counts_ev (n : Int) : hard_counts.f n = some (decide (0 ≤ n ∧ n ≤ 2147483647)) := by
  unfold hard_counts.f
  by_cases h : n ≥ 0
  · rw [if_pos h]
    simp [h]
  · rw [if_neg h]
    congr 1
    symm
    rw [decide_eq_false_iff_not]
    omega

theorem hard_Check_ev (t v c : Int) : hard_Check.f t v c = some (if mayH t v c = true then 0 else 1) := by
  simp only [hard_Check.f, hard_counts_ev, Option.bind_some, decide_eq_true_eq, mayH_iff]
  repeat' split
  all_goals first | rfl | omega

theorem hard_Step_ev (t v c t' v' c' last : Int) : Ev (fun k => hard_Step.f k t v c t' v' c' last) (stepH t v c t' v' c' last) := by
  have h2 : ∀ b : Bool, b = decide (t' = t ∧ v ≠ 0 ∧ v' ≠ v) → Ev (fun k => hard_Step.j2 k last b t' v' c') (if t' = t ∧ v ≠ 0 ∧ v' ≠ v then 4 else if last < c' then 3 else 0) := by
    intro b hb
    rw [ev_succ]
    simp only [hard_Step.j2, ev_ite, ev_some, hb, decide_eq_true_eq]
    repeat' split
    all_goals first | rfl | omega
  have h1 : ∀ b : Bool, b = decide (t' < t ∨ c' < c) → Ev (fun k => hard_Step.j1 k last b t v c t' v' c') (if t' < t ∨ c' < c ∨ (t' = t ∧ v ≠ 0 ∧ v' ≠ v) then 4 else if last < c' then 3 else 0) := by
    intro b hb
    rw [ev_succ]
    simp only [hard_Step.j1, ev_ite, ev_some, hb, decide_eq_true_eq]
    by_cases hc : t' < t ∨ c' < c
    · rw [if_pos hc, if_pos (by omega)]
    · rw [if_neg hc]
      by_cases ht : t' = t
      · rw [if_pos ht]
        by_cases hv : v = 0
        · rw [if_pos hv]
          refine ev_eq (h2 false (by simp [hv])) ?_
          repeat' split
          all_goals first | rfl | omega
        · rw [if_neg hv]
          refine ev_eq (h2 _ (by rw [Bool.eq_iff_iff]; simp [hv, ht])) ?_
          repeat' split
          all_goals first | rfl | omega
      · rw [if_neg ht]
        refine ev_eq (h2 false (by simp [ht])) ?_
        repeat' split
        all_goals first | rfl | omega
  have h0 : ∀ b : Bool, b = (mayH t v c == false || mayH t' v' c' == false) → Ev (fun k => hard_Step.j0 k last b t v c t' v' c') (stepH t v c t' v' c' last) := by
    intro b hb
    rw [ev_succ]
    simp only [hard_Step.j0, ev_ite, ev_some]
    unfold stepH
    by_cases hm : mayH t v c = false ∨ mayH t' v' c' = false
    · rw [if_pos (by rw [hb]; simpa using hm), if_pos hm]
    · rw [if_neg (by rw [hb]; simpa using hm), if_neg hm]
      by_cases ht : t' < t
      · rw [if_pos ht]
        exact h1 true (by simp [ht])
      · rw [if_neg ht]
        exact h1 _ (by simp [ht])
  simp only [hard_Step.f, hard_Check_ev, Option.bind_some]
  by_cases hm : mayH t v c = true
  · simp only [hm, if_true]
    refine h0 _ ?_
    rw [hm]
    cases mayH t' v' c' <;> rfl
  · have hf : mayH t v c = false := by simpa using hm
    simp only [hf]
    exact h0 true (by rw [hf]; rfl)

theorem garnerref22_May_ev (t v c : Int) : garnerref22_May.f t v c = some (mayH t v c) := by
  unfold garnerref22_May.f mayH
  repeat' split
  all_goals (congr 1; first | (symm; rw [decide_eq_false_iff_not]; omega) | (symm; rw [decide_eq_true_eq]; omega) | (rw [Bool.eq_iff_iff]; simp only [decide_eq_true_eq, beq_iff_eq]; omega))

theorem garnerref22_Follows_ev (t v c t' v' c' : Int) : garnerref22_Follows.f t v c t' v' c' = some (decide (¬ (t' < t ∨ c' < c ∨ (t' = t ∧ v ≠ 0 ∧ v' ≠ v)))) := by
  unfold garnerref22_Follows.f
  repeat' split
  all_goals (congr 1; first | (symm; rw [decide_eq_false_iff_not]; omega) | (symm; rw [decide_eq_true_eq]; omega) | (rw [Bool.eq_iff_iff]; simp only [decide_eq_true_eq, beq_iff_eq]; omega))

theorem garnerref22_Step_ev (t v c t' v' c' last : Int) : Ev (fun k => garnerref22_Step.f k t v c t' v' c' last) (stepH t v c t' v' c' last) := by
  have h0 : ∀ b : Bool, b = (mayH t v c == false || mayH t' v' c' == false) → Ev (fun k => garnerref22_Step.j0 k last b t v c t' v' c') (stepH t v c t' v' c' last) := by
    intro b hb
    rw [ev_succ]
    simp only [garnerref22_Step.j0, garnerref22_Follows_ev, Option.bind_some, ev_ite, ev_some]
    unfold stepH
    by_cases hm : mayH t v c = false ∨ mayH t' v' c' = false
    · rw [if_pos (by rw [hb]; simpa using hm), if_pos hm]
    · rw [if_neg (by rw [hb]; simpa using hm), if_neg hm]
      simp only [decide_eq_true_eq]
      repeat' split
      all_goals first | rfl | omega
  simp only [garnerref22_Step.f, garnerref22_May_ev, Option.bind_some]
  by_cases hm : mayH t v c = true
  · simp only [hm, if_true]
    refine h0 _ ?_
    rw [hm]
    cases mayH t' v' c' <;> rfl
  · have hf : mayH t v c = false := by simpa using hm
    simp only [hf]
    exact h0 true (by rw [hf]; rfl)

theorem hard_Join_ev (t v c t' v' c' : Int) : hard_Join.f t v c t' v' c' = some (joinH t v c t' v' c') := by
  unfold hard_Join.f joinH mx
  repeat' split
  all_goals simp only [Option.some.injEq, Prod.mk.injEq]
  all_goals (repeat' apply And.intro)
  all_goals first | rfl | trivial | omega

theorem garnerref22_Join_ev (t v c t' v' c' : Int) : Ev (fun k => garnerref22_Join.f k t v c t' v' c') (joinH t v c t' v' c') := by
  have h1 : ∀ b x y z, Ev (fun k => garnerref22_Join.j1 k b t v c t' v' c' x y z) (x, if b = true then v' else y, if c < c' then c' else z) := by
    intro b x y z
    rw [ev_succ]
    simp only [garnerref22_Join.j1, ev_ite, ev_some]
    cases b <;> (simp only [Bool.false_eq_true, if_false, if_true]; split <;> rfl)
  have h0 : ∀ x y z, Ev (fun k => garnerref22_Join.j0 k t v c t' v' c' x y z) (x, if t' = t ∧ v = 0 then v' else y, if c < c' then c' else z) := by
    intro x y z
    rw [ev_succ]
    simp only [garnerref22_Join.j0, ev_ite]
    by_cases h : t' = t
    · rw [if_pos h]
      refine ev_eq (h1 _ _ _ _) ?_
      simp [h]
    · rw [if_neg h]
      refine ev_eq (h1 _ _ _ _) ?_
      simp [h]
  simp only [garnerref22_Join.f, ev_ite, joinH]
  by_cases h : t' > t
  · rw [if_pos h]
    refine ev_eq (h0 _ _ _) ?_
    repeat' split
    all_goals first | rfl | omega
  · rw [if_neg h]
    refine ev_eq (h0 _ _ _) ?_
    repeat' split
    all_goals first | rfl | omega

theorem garnerlaw22_awake_ev : Ev (fun k => garnerlaw22_awake.f k) true := Ev.of (fun k => garnerlaw22_awake.mono k) (k := 40) (by decide +kernel)

theorem HardSteps : StHardSteps.Pure := by
  intro t v c t' v' c' last _ _ _ _ _ _ _
  refine Ev.rounds (g := fun k => garnerlaw22_HardSteps.f k t v c t' v' c' last) ?_
  simp only [garnerlaw22_HardSteps.f]
  rw [ev_bind (hard_Step_ev t v c t' v' c' last), ev_bind (garnerref22_Step_ev t v c t' v' c' last), ev_ite, if_pos (by trivial), ev_bind_c (hard_Join_ev _ _ _ _ _ _), ev_bind (garnerref22_Join_ev t v c t' v' c'), ev_ite, if_pos (by simp), ev_bind garnerlaw22_awake_ev, ev_some]

end Go.Proofs.Ythgkjkdbjnoikaa.Pure
