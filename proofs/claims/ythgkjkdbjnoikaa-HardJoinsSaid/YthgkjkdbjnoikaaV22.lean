/- The plain law of layer 22: what may be kept of a vote, what may follow what, both together; no program in sight. -/
import Derived.Test.YthgkjkdbjnoikaaV02
namespace Go.Proofs.Ythgkjkdbjnoikaa.U
open Go.RowKit Go.Proofs.YthgkjkdbjnoikaaW.PrintWords

/-- May it be? -/
def mayH (t v c : Int) : Bool := decide (0 ≤ t ∧ 0 ≤ v ∧ 0 ≤ c ∧ t ≤ 2147483647 ∧ v ≤ 2147483647 ∧ c ≤ 2147483647 ∧ (0 < t ∨ v = 0))
theorem mayH_iff {t v c : Int} : mayH t v c = true ↔ 0 ≤ t ∧ 0 ≤ v ∧ 0 ≤ c ∧ t ≤ 2147483647 ∧ v ≤ 2147483647 ∧ c ≤ 2147483647 ∧ (0 < t ∨ v = 0) := by
  unfold mayH
  exact decide_eq_true_iff
theorem mayH_not {t v c : Int} : mayH t v c = false ↔ ¬ (0 ≤ t ∧ 0 ≤ v ∧ 0 ≤ c ∧ t ≤ 2147483647 ∧ v ≤ 2147483647 ∧ c ≤ 2147483647 ∧ (0 < t ∨ v = 0)) := by
  unfold mayH
  exact decide_eq_false_iff_not
/-- Why may one not follow another one? -/
def stepH (t v c t' v' c' last : Int) : Int :=
  if mayH t v c = false ∨ mayH t' v' c' = false then 1
  else if t' < t ∨ c' < c ∨ (t' = t ∧ v ≠ 0 ∧ v' ≠ v) then 4
  else if last < c' then 3 else 0
/-- What is got of bytes. -/
def hardR (b : List Int) : Int × Int × Int × Int :=
  if (decs 3 b).2.2 = true ∧ (decs 3 b).2.1 = b.length ∧ mayH (rd (decs 3 b).1 0) (rd (decs 3 b).1 1) (rd (decs 3 b).1 2) = true then (rd (decs 3 b).1 0, rd (decs 3 b).1 1, rd (decs 3 b).1 2, 0)
  else (0, 0, 0, 2)
/-- Both together. -/
def joinH (t v c t' v' c' : Int) : Int × Int × Int :=
  (if t < t' then t' else t, if t < t' ∨ (t' = t ∧ v = 0) then v' else v, if c < c' then c' else c)
end Go.Proofs.Ythgkjkdbjnoikaa.U
