/- The plain law of layer 4: which points there may be, their bytes, and which point bytes begin with; no program in sight. -/
import Derived.Test.YtpefjfibhjnijaaQV02
namespace Go.Proofs.Ytpefjfibhjnijaa.U
open Go.RowKit Go.Proofs.YtpefjfibhjnijaaW.PrintWords Go.Proofs.YtpefjfibhjnijaaW.PrintMore
def mayP (seg at_ len : Int) : Bool := decide (1 ≤ seg ∧ seg ≤ 2147483647 ∧ 0 ≤ at_ ∧ at_ ≤ 2147483647 ∧ 0 ≤ len ∧ len ≤ 4096)
theorem mayP_iff {seg at_ len : Int} : mayP seg at_ len = true ↔ 1 ≤ seg ∧ seg ≤ 2147483647 ∧ 0 ≤ at_ ∧ at_ ≤ 2147483647 ∧ 0 ≤ len ∧ len ≤ 4096 := by
 unfold mayP
 exact decide_eq_true_iff
end Go.Proofs.Ytpefjfibhjnijaa.U
