/- The law PointPuts: each of its parameters' types opened, and the one pure statement that is left of it. -/
import Derived.Test.YthgkjkdbjnoikaaPPointPutsx0
import Derived.Test.YthgkjkdbjnoikaaPPointPutsx1
import Derived.Test.YthgkjkdbjnoikaaPPointPutsx2
import Derived.Test.YthgkjkdbjnoikaaOpens
namespace Go.Proofs.Ythgkjkdbjnoikaa.StPointPuts
open Go.RowKit Go.Proofs.Ythgkjkdbjnoikaa.PPointPuts Go.Proofs.Ythgkjkdbjnoikaa.U Go.Proofs.YthgkjkdbjnoikaaW.PrintWords Go.Proofs.YthgkjkdbjnoikaaW.PrintLast Go.Proofs.YthgkjkdbjnoikaaW.PrintMore
set_option maxRecDepth 100000
theorem op3 : Opens Try.prog 3 (Kd.int .i64) (fun n => (Lit.int .i64 n).wf = true) := opens_int Try.underlying3
theorem op29 : Opens Try.prog 29 (Kd.int .u32) (fun n => (Lit.int .u32 n).wf = true) := opens_int Try.underlying29
theorem op31f : Opens Try.prog 31 (Kd.pair (Kd.int .i64) (Kd.pair (Kd.int .i64) (Kd.pair (Kd.int .i64) (Kd.int .u32)))) (fun x => ((Lit.int .i64 x.1).wf = true) ∧ ((Lit.int .i64 x.2.1).wf = true) ∧ ((Lit.int .i64 x.2.2.1).wf = true) ∧ ((Lit.int .u32 x.2.2.2).wf = true)) := opens_imp (opens_struct Try.underlying31 (by kernel_rfl) (opensF_cons op3 rfl (by kernel_rfl) (opensF_cons op3 rfl (by kernel_rfl) (opensF_cons op3 rfl (by kernel_rfl) (opensF_last op29 rfl (by kernel_rfl)))))) (fun _ h => h)
/-- The one pure statement. -/
def Pure : Prop := ∀ (a0_0 : Int) (a0_1 : Int) (a0_2 : Int) (a0_3 : Int), (Lit.int .i64 a0_0).wf = true → (Lit.int .i64 a0_1).wf = true → (Lit.int .i64 a0_2).wf = true → (Lit.int .u32 a0_3).wf = true → ∃ k, garnerlaw04_PointPuts.f k a0_0 a0_1 a0_2 a0_3 = some true
end Go.Proofs.Ythgkjkdbjnoikaa.StPointPuts
