/- The plain law of layer 21: a move's hops, its bytes, and the move whose bytes they are; no program in sight. -/
import Derived.Test.YtklpoeaoojgljaaQF03
import Derived.Test.YtklpoeaoojgljaaQV04
namespace Go.Proofs.Ytklpoeaoojgljaa.U
open Go.RowKit Go.Proofs.YtklpoeaoojgljaaW.PrintWords Go.Proofs.YtklpoeaoojgljaaW.PrintMore
abbrev Hp := Int × Int × Int × Int × Int
def mayHs (seg : Int) : Int → List Hp → Bool
 | _, [] => true
 | last, h :: l => decide (last < h.1 ∧ h.1 ≤ 2147483647 ∧ seg < h.2.1) && (mayP h.2.1 h.2.2.1 h.2.2.2.1 && mayHs seg h.1 l)
def mayV (seg : Int) (l : List Hp) : Bool := decide (1 ≤ seg ∧ seg ≤ 2147483647 ∧ l.length ≤ 16384) && mayHs seg (-1) l
theorem mayV_iff {s : Int} {l : List Hp} : mayV s l = true ↔ (1 ≤ s ∧ s ≤ 2147483647 ∧ l.length ≤ 16384) ∧ mayHs s (-1) l = true := by
 unfold mayV
 rw [Bool.and_eq_true, decide_eq_true_eq]
theorem mayHs_cons {s last : Int} {h : Hp} {l : List Hp} : mayHs s last (h :: l) = true ↔ (last < h.1 ∧ h.1 ≤ 2147483647 ∧ s < h.2.1) ∧ mayP h.2.1 h.2.2.1 h.2.2.2.1 = true ∧ mayHs s h.1 l = true := by
 rw [mayHs, Bool.and_eq_true, Bool.and_eq_true, decide_eq_true_eq]
end Go.Proofs.Ytklpoeaoojgljaa.U
