/- The plain law of layer 4: which points there may be, their bytes, and which point bytes begin with; no program in sight. -/
import Derived.Test.YtohocfimdpneoaaQV02
namespace Go.Proofs.Ytohocfimdpneoaa.U
open Go.RowKit Go.Proofs.YtohocfimdpneoaaW.PrintWords Go.Proofs.YtohocfimdpneoaaW.PrintMore
def mayP (seg at_ len : Int) : Bool := decide (1 ≤ seg ∧ seg ≤ 2147483647 ∧ 0 ≤ at_ ∧ at_ ≤ 2147483647 ∧ 0 ≤ len ∧ len ≤ 4096)
theorem mayP_iff {seg at_ len : Int} : mayP seg at_ len = true ↔ 1 ≤ seg ∧ seg ≤ 2147483647 ∧ 0 ≤ at_ ∧ at_ ≤ 2147483647 ∧ 0 ≤ len ∧ len ≤ 4096 := by
  unfold mayP
  exact decide_eq_true_iff
def sum4 (s : Int) : List Int := [s % 256, s / 256 % 256, s / 65536 % 256, s / 16777216 % 256]
def putP (seg at_ len sum : Int) : List Int := puts [seg, at_, len] ++ sum4 sum
end Go.Proofs.Ytohocfimdpneoaa.U
