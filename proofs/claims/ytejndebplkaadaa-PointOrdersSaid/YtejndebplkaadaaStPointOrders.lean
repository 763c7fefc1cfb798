/- The law PointOrders: each of its parameters' types opened, and the one pure statement that is left of it. -/
import Derived.Test.YtejndebplkaadaaPPointOrdersx0
import Derived.Test.YtejndebplkaadaaPPointOrdersx2
import Derived.Test.YtejndebplkaadaaPPointOrdersx3
import Derived.Test.YtejndebplkaadaaPPointOrdersx4
import Derived.Test.YtejndebplkaadaaPPointOrdersx6
import Derived.Test.YtejndebplkaadaaQOpens
namespace Go.Proofs.Ytejndebplkaadaa.StPointOrders
open Go.RowKit Go.Proofs.Ytejndebplkaadaa.PPointOrders Go.Proofs.Ytejndebplkaadaa.U Go.Proofs.YtejndebplkaadaaW.PrintWords Go.Proofs.YtejndebplkaadaaW.PrintLast Go.Proofs.YtejndebplkaadaaW.PrintMore
set_option maxRecDepth 100000
theorem op3 : Opens Try.prog 3 (Kd.int .i64) (fun n => (Lit.int .i64 n).wf = true) := opens_int Try.underlying3
theorem op23 : Opens Try.prog 23 (Kd.int .u32) (fun n => (Lit.int .u32 n).wf = true) := opens_int Try.underlying23
def g25 (x : S25) : Prop := ((Lit.int .i64 x.f0).wf = true) ∧ ((Lit.int .i64 x.f1).wf = true) ∧ ((Lit.int .i64 x.f2).wf = true) ∧ ((Lit.int .u32 x.f3).wf = true)
theorem op25 : Opens Try.prog 25 k25 g25 := opens_imp (opens_iso (fun x : S25 => (x.f0, x.f1, x.f2, x.f3)) (fun p => ⟨p.1, p.2.1, p.2.2.1, p.2.2.2⟩) (fun _ => rfl) (opens_struct Try.underlying25 (by kernel_rfl) (opensF_cons op3 rfl (by kernel_rfl) (opensF_cons op3 rfl (by kernel_rfl) (opensF_cons op3 rfl (by kernel_rfl) (opensF_last op23 rfl (by kernel_rfl))))))) (fun _ h => h)
theorem op25f : Opens Try.prog 25 (Kd.pair (Kd.int .i64) (Kd.pair (Kd.int .i64) (Kd.pair (Kd.int .i64) (Kd.int .u32)))) (fun x => ((Lit.int .i64 x.1).wf = true) ∧ ((Lit.int .i64 x.2.1).wf = true) ∧ ((Lit.int .i64 x.2.2.1).wf = true) ∧ ((Lit.int .u32 x.2.2.2).wf = true)) := opens_imp (opens_struct Try.underlying25 (by kernel_rfl) (opensF_cons op3 rfl (by kernel_rfl) (opensF_cons op3 rfl (by kernel_rfl) (opensF_cons op3 rfl (by kernel_rfl) (opensF_last op23 rfl (by kernel_rfl)))))) (fun _ h => h)
/-- The one pure statement. -/
def Pure : Prop := ∀ (l0 : List S25) (a1_0 : Int) (a1_1 : Int) (a1_2 : Int) (a1_3 : Int) (a2_0 : Int) (a2_1 : Int) (a2_2 : Int) (a2_3 : Int), l0.length ≤ maxLen → l0.length * 32 ≤ 140737488351232 → (∀ y ∈ l0, g25 y) → (Lit.int .i64 a1_0).wf = true → (Lit.int .i64 a1_1).wf = true → (Lit.int .i64 a1_2).wf = true → (Lit.int .u32 a1_3).wf = true → (Lit.int .i64 a2_0).wf = true → (Lit.int .i64 a2_1).wf = true → (Lit.int .i64 a2_2).wf = true → (Lit.int .u32 a2_3).wf = true → ∃ k, garnerlaw04_PointOrders.f k l0 a1_0 a1_1 a1_2 a1_3 a2_0 a2_1 a2_2 a2_3 = some true
end Go.Proofs.Ytejndebplkaadaa.StPointOrders
