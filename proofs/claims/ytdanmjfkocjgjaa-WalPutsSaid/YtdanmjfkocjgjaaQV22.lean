/- The plain law of layer 22: what may be kept of a vote, what may follow what, both together; no program in sight. -/
import Derived.Test.YtdanmjfkocjgjaaQV02
namespace Go.Proofs.Ytdanmjfkocjgjaa.U
open Go.RowKit Go.Proofs.YtdanmjfkocjgjaaW.PrintWords
def mayH (t v c : Int) : Bool := decide (0 ≤ t ∧ 0 ≤ v ∧ 0 ≤ c ∧ t ≤ 2147483647 ∧ v ≤ 2147483647 ∧ c ≤ 2147483647 ∧ (0 < t ∨ v = 0))
theorem mayH_iff {t v c : Int} : mayH t v c = true ↔ 0 ≤ t ∧ 0 ≤ v ∧ 0 ≤ c ∧ t ≤ 2147483647 ∧ v ≤ 2147483647 ∧ c ≤ 2147483647 ∧ (0 < t ∨ v = 0) := by
 unfold mayH
 exact decide_eq_true_iff
def hardR (b : List Int) : Int × Int × Int × Int :=
 if (decs 3 b).2.2 = true ∧ (decs 3 b).2.1 = b.length ∧ mayH (rd (decs 3 b).1 0) (rd (decs 3 b).1 1) (rd (decs 3 b).1 2) = true then (rd (decs 3 b).1 0, rd (decs 3 b).1 1, rd (decs 3 b).1 2, 0)
 else (0, 0, 0, 2)
end Go.Proofs.Ytdanmjfkocjgjaa.U
