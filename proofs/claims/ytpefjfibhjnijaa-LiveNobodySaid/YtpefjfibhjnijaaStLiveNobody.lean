/- The law LiveNobody: each of its parameters' types opened, and the one pure statement that is left of it. -/
import Derived.Test.YtpefjfibhjnijaaPLiveNobodyx0
import Derived.Test.YtpefjfibhjnijaaPLiveNobodyx4
import Derived.Test.YtpefjfibhjnijaaPLiveNobodyx5
import Derived.Test.YtpefjfibhjnijaaPLiveNobodyx7
import Derived.Test.YtpefjfibhjnijaaPLiveNobodyx9
import Derived.Test.YtpefjfibhjnijaaPLiveNobodyx18
import Derived.Test.YtpefjfibhjnijaaQOpens
namespace Go.Proofs.Ytpefjfibhjnijaa.StLiveNobody
open Go.RowKit Go.Proofs.Ytpefjfibhjnijaa.PLiveNobody Go.Proofs.Ytpefjfibhjnijaa.U Go.Proofs.YtpefjfibhjnijaaW.PrintWords Go.Proofs.YtpefjfibhjnijaaW.PrintLast Go.Proofs.YtpefjfibhjnijaaW.PrintMore
set_option maxRecDepth 100000
theorem op3 : Opens Try.prog 3 (Kd.int .i64) (fun n => (Lit.int .i64 n).wf = true) := opens_int Try.underlying3
theorem op22 : Opens Try.prog 22 (Kd.int .u32) (fun n => (Lit.int .u32 n).wf = true) := opens_int Try.underlying22
theorem op24f : Opens Try.prog 24 (Kd.pair (Kd.int .i64) (Kd.pair (Kd.int .i64) (Kd.pair (Kd.int .i64) (Kd.int .u32)))) (fun x => ((Lit.int .i64 x.1).wf = true) ∧ ((Lit.int .i64 x.2.1).wf = true) ∧ ((Lit.int .i64 x.2.2.1).wf = true) ∧ ((Lit.int .u32 x.2.2.2).wf = true)) := opens_imp (opens_struct Try.underlying24 (by kernel_rfl) (opensF_cons op3 rfl (by kernel_rfl) (opensF_cons op3 rfl (by kernel_rfl) (opensF_cons op3 rfl (by kernel_rfl) (opensF_last op22 rfl (by kernel_rfl)))))) (fun _ h => h)
/-- The one pure statement. -/
def Pure : Prop := ∀ (a0_0 : Int) (a0_1 : Int) (a0_2 : Int) (a0_3 : Int), (Lit.int .i64 a0_0).wf = true → (Lit.int .i64 a0_1).wf = true → (Lit.int .i64 a0_2).wf = true → (Lit.int .u32 a0_3).wf = true → ∃ k, garnerlaw28_LiveNobody.f k a0_0 a0_1 a0_2 a0_3 = some true
end Go.Proofs.Ytpefjfibhjnijaa.StLiveNobody
