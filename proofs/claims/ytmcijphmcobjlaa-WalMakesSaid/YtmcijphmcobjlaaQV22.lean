/- The plain law of layer 22: what may be kept of a vote, what may follow what, both together; no program in sight. -/
import Derived.Test.YtmcijphmcobjlaaQV02
namespace Go.Proofs.Ytmcijphmcobjlaa.U
open Go.RowKit Go.Proofs.YtmcijphmcobjlaaW.PrintWords
def mayH (t v c : Int) : Bool := decide (0 ≤ t ∧ 0 ≤ v ∧ 0 ≤ c ∧ t ≤ 2147483647 ∧ v ≤ 2147483647 ∧ c ≤ 2147483647 ∧ (0 < t ∨ v = 0))
theorem mayH_iff {t v c : Int} : mayH t v c = true ↔ 0 ≤ t ∧ 0 ≤ v ∧ 0 ≤ c ∧ t ≤ 2147483647 ∧ v ≤ 2147483647 ∧ c ≤ 2147483647 ∧ (0 < t ∨ v = 0) := by
 unfold mayH
 exact decide_eq_true_iff
def stepH (t v c t' v' c' last : Int) : Int :=
 if mayH t v c = false ∨ mayH t' v' c' = false then 1
 else if t' < t ∨ c' < c ∨ (t' = t ∧ v ≠ 0 ∧ v' ≠ v) then 4
 else if last < c' then 3 else 0
end Go.Proofs.Ytmcijphmcobjlaa.U
