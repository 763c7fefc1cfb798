/- The law FrameCuts: each of its parameters' types opened, and the one pure statement that is left of it. -/
import Derived.Test.YtpabjefogbkhpaaPFrameCutsx0
import Derived.Test.YtpabjefogbkhpaaPFrameCutsx1
import Derived.Test.YtpabjefogbkhpaaPFrameCutsx2
import Derived.Test.YtpabjefogbkhpaaPFrameCutsx3
import Derived.Test.YtpabjefogbkhpaaPFrameCutsx4
import Derived.Test.YtpabjefogbkhpaaPFrameCutsx5
import Derived.Test.YtpabjefogbkhpaaPFrameCutsx6
import Derived.Test.YtpabjefogbkhpaaPFrameCutsx7
import Derived.Test.YtpabjefogbkhpaaOpens
namespace Go.Proofs.Ytpabjefogbkhpaa.StFrameCuts
open Go.RowKit Go.Proofs.Ytpabjefogbkhpaa.PFrameCuts Go.Proofs.Ytpabjefogbkhpaa.U Go.Proofs.YtpabjefogbkhpaaW.PrintWords Go.Proofs.YtpabjefogbkhpaaW.PrintLast Go.Proofs.YtpabjefogbkhpaaW.PrintMore
set_option maxRecDepth 100000
theorem op3 : Opens Try.prog 3 (Kd.int .i64) (fun n => (Lit.int .i64 n).wf = true) := opens_int Try.underlying3
theorem op5 : Opens Try.prog 5 (Kd.int .u8) (fun n => (Lit.int .u8 n).wf = true) := opens_int Try.underlying5
theorem op25 : Opens Try.prog 25 (Kd.slice 5 (Kd.int .u8)) (fun xs => xs.length ≤ maxLen ∧ xs.length * 1 ≤ 140737488351232 ∧ ∀ y ∈ xs, (Lit.int .u8 y).wf = true) := opens_slice Try.underlying25 op5 (by kernel_rfl) (by kernel_rfl)
def g53 (x : S53) : Prop := ((Lit.int .i64 x.f0).wf = true) ∧ (x.f1.length ≤ maxLen ∧ x.f1.length * 1 ≤ 140737488351232 ∧ ∀ y ∈ x.f1, (Lit.int .u8 y).wf = true)
theorem op53 : Opens Try.prog 53 k53 g53 := opens_imp (opens_iso (fun x : S53 => (x.f0, x.f1)) (fun p => ⟨p.1, p.2⟩) (fun _ => rfl) (opens_struct Try.underlying53 (by kernel_rfl) (opensF_cons op3 rfl (by kernel_rfl) (opensF_last op25 rfl (by kernel_rfl))))) (fun _ h => h)
/-- The one pure statement. -/
def Pure : Prop := ∀ (l0 : List S53) (a1 : Int), l0.length ≤ maxLen → l0.length * 32 ≤ 140737488351232 → (∀ y ∈ l0, g53 y) → (Lit.int .u16 a1).wf = true → ∃ k, garnerlaw03_FrameCuts.f k l0 a1 = some true
end Go.Proofs.Ytpabjefogbkhpaa.StFrameCuts
