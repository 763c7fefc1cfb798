/- The law NameOf: each of its parameters' types opened, and the one pure statement that is left of it. -/
import Derived.Test.YthgkjkdbjnoikaaPNameOfx0
import Derived.Test.YthgkjkdbjnoikaaPNameOfx1
import Derived.Test.YthgkjkdbjnoikaaPNameOfx2
import Derived.Test.YthgkjkdbjnoikaaPNameOfx3
import Derived.Test.YthgkjkdbjnoikaaPNameOfx4
import Derived.Test.YthgkjkdbjnoikaaOpens
namespace Go.Proofs.Ythgkjkdbjnoikaa.StNameOf
open Go.RowKit Go.Proofs.Ythgkjkdbjnoikaa.PNameOf Go.Proofs.Ythgkjkdbjnoikaa.U Go.Proofs.YthgkjkdbjnoikaaW.PrintWords Go.Proofs.YthgkjkdbjnoikaaW.PrintLast Go.Proofs.YthgkjkdbjnoikaaW.PrintMore
set_option maxRecDepth 100000
theorem op3 : Opens Try.prog 3 (Kd.int .i64) (fun n => (Lit.int .i64 n).wf = true) := opens_int Try.underlying3
theorem op26f : Opens Try.prog 26 (Kd.pair (Kd.int .i64) (Kd.int .i64)) (fun x => ((Lit.int .i64 x.1).wf = true) ∧ ((Lit.int .i64 x.2).wf = true)) := opens_imp (opens_struct Try.underlying26 (by kernel_rfl) (opensF_cons op3 rfl (by kernel_rfl) (opensF_last op3 rfl (by kernel_rfl)))) (fun _ h => h)
/-- The one pure statement. -/
def Pure : Prop := ∀ (a0_0 : Int) (a0_1 : Int), (Lit.int .i64 a0_0).wf = true → (Lit.int .i64 a0_1).wf = true → ∃ k, garnerlaw07_NameOf.f k a0_0 a0_1 = some true
end Go.Proofs.Ythgkjkdbjnoikaa.StNameOf
