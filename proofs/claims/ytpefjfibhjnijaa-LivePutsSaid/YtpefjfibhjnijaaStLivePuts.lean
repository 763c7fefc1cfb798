/- The law LivePuts: each of its parameters' types opened, and the one pure statement that is left of it. -/
import Derived.Test.YtpefjfibhjnijaaPLivePutsx0
import Derived.Test.YtpefjfibhjnijaaPLivePutsx4
import Derived.Test.YtpefjfibhjnijaaPLivePutsx5
import Derived.Test.YtpefjfibhjnijaaPLivePutsx7
import Derived.Test.YtpefjfibhjnijaaPLivePutsx9
import Derived.Test.YtpefjfibhjnijaaPLivePutsx16
import Derived.Test.YtpefjfibhjnijaaPLivePutsx17
import Derived.Test.YtpefjfibhjnijaaPLivePutsx18
import Derived.Test.YtpefjfibhjnijaaPLivePutsx19
import Derived.Test.YtpefjfibhjnijaaPLivePutsx20
import Derived.Test.YtpefjfibhjnijaaPLivePutsx21
import Derived.Test.YtpefjfibhjnijaaQOpens
namespace Go.Proofs.Ytpefjfibhjnijaa.StLivePuts
open Go.RowKit Go.Proofs.Ytpefjfibhjnijaa.PLivePuts Go.Proofs.Ytpefjfibhjnijaa.U Go.Proofs.YtpefjfibhjnijaaW.PrintWords Go.Proofs.YtpefjfibhjnijaaW.PrintLast Go.Proofs.YtpefjfibhjnijaaW.PrintMore
set_option maxRecDepth 100000
theorem op3 : Opens Try.prog 3 (Kd.int .i64) (fun n => (Lit.int .i64 n).wf = true) := opens_int Try.underlying3
theorem op22 : Opens Try.prog 22 (Kd.int .u32) (fun n => (Lit.int .u32 n).wf = true) := opens_int Try.underlying22
def g24 (x : S24) : Prop := ((Lit.int .i64 x.f0).wf = true) ∧ ((Lit.int .i64 x.f1).wf = true) ∧ ((Lit.int .i64 x.f2).wf = true) ∧ ((Lit.int .u32 x.f3).wf = true)
theorem op24 : Opens Try.prog 24 k24 g24 := opens_imp (opens_iso (fun x : S24 => (x.f0, x.f1, x.f2, x.f3)) (fun p => ⟨p.1, p.2.1, p.2.2.1, p.2.2.2⟩) (fun _ => rfl) (opens_struct Try.underlying24 (by kernel_rfl) (opensF_cons op3 rfl (by kernel_rfl) (opensF_cons op3 rfl (by kernel_rfl) (opensF_cons op3 rfl (by kernel_rfl) (opensF_last op22 rfl (by kernel_rfl))))))) (fun _ h => h)
theorem op44f : Opens Try.prog 44 (Kd.pair (Kd.int .i64) (Kd.int .i64)) (fun x => ((Lit.int .i64 x.1).wf = true) ∧ ((Lit.int .i64 x.2).wf = true)) := opens_imp (opens_array [fldA 3 0, fldA 3 1] Try.underlying44 (by kernel_rfl) (by kernel_rfl) (opensF_cons op3 rfl (by kernel_rfl) (opensF_last op3 rfl (by kernel_rfl)))) (fun _ h => h)
/-- The one pure statement. -/
def Pure : Prop := ∀ (l0 : List S24) (l1 : List S24) (a2_0 : Int) (a2_1 : Int), l0.length ≤ maxLen → l0.length * 32 ≤ 140737488351232 → (∀ y ∈ l0, g24 y) → l1.length ≤ maxLen → l1.length * 32 ≤ 140737488351232 → (∀ y ∈ l1, g24 y) → (Lit.int .i64 a2_0).wf = true → (Lit.int .i64 a2_1).wf = true → ∃ k, garnerlaw28_LivePuts.f k l0 l1 a2_0 a2_1 = some true
end Go.Proofs.Ytpefjfibhjnijaa.StLivePuts
