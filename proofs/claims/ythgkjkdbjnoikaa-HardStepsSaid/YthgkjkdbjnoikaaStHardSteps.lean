/- The law HardSteps: each of its parameters' types opened, and the one pure statement that is left of it. -/
import Derived.Test.YthgkjkdbjnoikaaPHardStepsx0
import Derived.Test.YthgkjkdbjnoikaaPHardStepsx1
import Derived.Test.YthgkjkdbjnoikaaPHardStepsx2
import Derived.Test.YthgkjkdbjnoikaaPHardStepsx3
import Derived.Test.YthgkjkdbjnoikaaPHardStepsx4
import Derived.Test.YthgkjkdbjnoikaaPHardStepsx5
import Derived.Test.YthgkjkdbjnoikaaOpens
namespace Go.Proofs.Ythgkjkdbjnoikaa.StHardSteps
open Go.RowKit Go.Proofs.Ythgkjkdbjnoikaa.PHardSteps Go.Proofs.Ythgkjkdbjnoikaa.U Go.Proofs.YthgkjkdbjnoikaaW.PrintWords Go.Proofs.YthgkjkdbjnoikaaW.PrintLast Go.Proofs.YthgkjkdbjnoikaaW.PrintMore
set_option maxRecDepth 100000
theorem op3 : Opens Try.prog 3 (Kd.int .i64) (fun n => (Lit.int .i64 n).wf = true) := opens_int Try.underlying3
theorem op40f : Opens Try.prog 40 (Kd.pair (Kd.int .i64) (Kd.pair (Kd.int .i64) (Kd.int .i64))) (fun x => ((Lit.int .i64 x.1).wf = true) ∧ ((Lit.int .i64 x.2.1).wf = true) ∧ ((Lit.int .i64 x.2.2).wf = true)) := opens_imp (opens_struct Try.underlying40 (by kernel_rfl) (opensF_cons op3 rfl (by kernel_rfl) (opensF_cons op3 rfl (by kernel_rfl) (opensF_last op3 rfl (by kernel_rfl))))) (fun _ h => h)
/-- The one pure statement. -/
def Pure : Prop := ∀ (a0_0 : Int) (a0_1 : Int) (a0_2 : Int) (a1_0 : Int) (a1_1 : Int) (a1_2 : Int) (a2 : Int), (Lit.int .i64 a0_0).wf = true → (Lit.int .i64 a0_1).wf = true → (Lit.int .i64 a0_2).wf = true → (Lit.int .i64 a1_0).wf = true → (Lit.int .i64 a1_1).wf = true → (Lit.int .i64 a1_2).wf = true → (Lit.int .i64 a2).wf = true → ∃ k, garnerlaw22_HardSteps.f k a0_0 a0_1 a0_2 a1_0 a1_1 a1_2 a2 = some true
end Go.Proofs.Ythgkjkdbjnoikaa.StHardSteps
