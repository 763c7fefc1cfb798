/- The law PointReads: each of its parameters' types opened, and the one pure statement that is left of it. -/
import Derived.Test.YtpabjefogbkhpaaPPointReadsx0
import Derived.Test.YtpabjefogbkhpaaPPointReadsx1
import Derived.Test.YtpabjefogbkhpaaPPointReadsx2
import Derived.Test.YtpabjefogbkhpaaPPointReadsx3
import Derived.Test.YtpabjefogbkhpaaPPointReadsx4
import Derived.Test.YtpabjefogbkhpaaPPointReadsx5
import Derived.Test.YtpabjefogbkhpaaOpens
namespace Go.Proofs.Ytpabjefogbkhpaa.StPointReads
open Go.RowKit Go.Proofs.Ytpabjefogbkhpaa.PPointReads Go.Proofs.Ytpabjefogbkhpaa.U Go.Proofs.YtpabjefogbkhpaaW.PrintWords Go.Proofs.YtpabjefogbkhpaaW.PrintLast Go.Proofs.YtpabjefogbkhpaaW.PrintMore
set_option maxRecDepth 100000
theorem op3 : Opens Try.prog 3 (Kd.int .i64) (fun n => (Lit.int .i64 n).wf = true) := opens_int Try.underlying3
theorem op22 : Opens Try.prog 22 (Kd.int .u32) (fun n => (Lit.int .u32 n).wf = true) := opens_int Try.underlying22
theorem op24f : Opens Try.prog 24 (Kd.pair (Kd.int .i64) (Kd.pair (Kd.int .i64) (Kd.pair (Kd.int .i64) (Kd.int .u32)))) (fun x => ((Lit.int .i64 x.1).wf = true) ∧ ((Lit.int .i64 x.2.1).wf = true) ∧ ((Lit.int .i64 x.2.2.1).wf = true) ∧ ((Lit.int .u32 x.2.2.2).wf = true)) := opens_imp (opens_struct Try.underlying24 (by kernel_rfl) (opensF_cons op3 rfl (by kernel_rfl) (opensF_cons op3 rfl (by kernel_rfl) (opensF_cons op3 rfl (by kernel_rfl) (opensF_last op22 rfl (by kernel_rfl)))))) (fun _ h => h)
theorem op5 : Opens Try.prog 5 (Kd.int .u8) (fun n => (Lit.int .u8 n).wf = true) := opens_int Try.underlying5
/-- The one pure statement. -/
def Pure : Prop := ∀ (a0_0 : Int) (a0_1 : Int) (a0_2 : Int) (a0_3 : Int) (l1 : List Int), (Lit.int .i64 a0_0).wf = true → (Lit.int .i64 a0_1).wf = true → (Lit.int .i64 a0_2).wf = true → (Lit.int .u32 a0_3).wf = true → l1.length ≤ maxLen → l1.length * 1 ≤ 140737488351232 → (∀ y ∈ l1, (Lit.int .u8 y).wf = true) → ∃ k, garnerlaw04_PointReads.f k a0_0 a0_1 a0_2 a0_3 l1 = some true
end Go.Proofs.Ytpabjefogbkhpaa.StPointReads
