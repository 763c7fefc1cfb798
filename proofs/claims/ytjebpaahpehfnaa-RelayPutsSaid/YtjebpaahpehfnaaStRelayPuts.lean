/- The law RelayPuts: each of its parameters' types opened, and the one pure statement that is left of it. -/
import Derived.Test.YtjebpaahpehfnaaPRelayPutsx0
import Derived.Test.YtjebpaahpehfnaaPRelayPutsx1
import Derived.Test.YtjebpaahpehfnaaPRelayPutsx2
import Derived.Test.YtjebpaahpehfnaaPRelayPutsx3
import Derived.Test.YtjebpaahpehfnaaPRelayPutsx4
import Derived.Test.YtjebpaahpehfnaaPRelayPutsx5
import Derived.Test.YtjebpaahpehfnaaPRelayPutsx6
import Derived.Test.YtjebpaahpehfnaaPRelayPutsx7
import Derived.Test.YtjebpaahpehfnaaPRelayPutsx8
import Derived.Test.YtjebpaahpehfnaaPRelayPutsx9
import Derived.Test.YtjebpaahpehfnaaPRelayPutsx10
import Derived.Test.YtjebpaahpehfnaaPRelayPutsx11
import Derived.Test.YtjebpaahpehfnaaPRelayPutsx12
import Derived.Test.YtjebpaahpehfnaaQOpens
namespace Go.Proofs.Ytjebpaahpehfnaa.StRelayPuts
open Go.RowKit Go.Proofs.Ytjebpaahpehfnaa.PRelayPuts Go.Proofs.Ytjebpaahpehfnaa.U Go.Proofs.YtjebpaahpehfnaaW.PrintWords Go.Proofs.YtjebpaahpehfnaaW.PrintLast Go.Proofs.YtjebpaahpehfnaaW.PrintMore
set_option maxRecDepth 100000
theorem op3 : Opens Try.prog 3 (Kd.int .i64) (fun n => (Lit.int .i64 n).wf = true) := opens_int Try.underlying3
theorem op42 : Opens Try.prog 42 (Kd.int .u32) (fun n => (Lit.int .u32 n).wf = true) := opens_int Try.underlying42
def g44 (x : S44) : Prop := ((Lit.int .i64 x.f0).wf = true) ∧ ((Lit.int .i64 x.f1).wf = true) ∧ ((Lit.int .i64 x.f2).wf = true) ∧ ((Lit.int .u32 x.f3).wf = true)
theorem op44 : Opens Try.prog 44 k44 g44 := opens_imp (opens_iso (fun x : S44 => (x.f0, x.f1, x.f2, x.f3)) (fun p => ⟨p.1, p.2.1, p.2.2.1, p.2.2.2⟩) (fun _ => rfl) (opens_struct Try.underlying44 (by kernel_rfl) (opensF_cons op3 rfl (by kernel_rfl) (opensF_cons op3 rfl (by kernel_rfl) (opensF_cons op3 rfl (by kernel_rfl) (opensF_last op42 rfl (by kernel_rfl))))))) (fun _ h => h)
def g46 (x : S46) : Prop := ((Lit.int .i64 x.f0).wf = true) ∧ (g44 x.f1)
theorem op46 : Opens Try.prog 46 k46 g46 := opens_imp (opens_iso (fun x : S46 => (x.f0, x.f1)) (fun p => ⟨p.1, p.2⟩) (fun _ => rfl) (opens_struct Try.underlying46 (by kernel_rfl) (opensF_cons op3 rfl (by kernel_rfl) (opensF_last op44 rfl (by kernel_rfl))))) (fun _ h => h)
theorem op24 : Opens Try.prog 24 (Kd.slice 46 k46) (fun xs => xs.length ≤ maxLen ∧ xs.length * 40 ≤ 140737488351232 ∧ ∀ y ∈ xs, g46 y) := opens_slice Try.underlying24 op46 (by kernel_rfl) (by kernel_rfl)
theorem op29f : Opens Try.prog 29 (Kd.pair (Kd.int .i64) (Kd.slice 46 k46)) (fun x => ((Lit.int .i64 x.1).wf = true) ∧ (x.2.length ≤ maxLen ∧ x.2.length * 40 ≤ 140737488351232 ∧ ∀ y ∈ x.2, g46 y)) := opens_imp (opens_struct Try.underlying29 (by kernel_rfl) (opensF_cons op3 rfl (by kernel_rfl) (opensF_last op24 rfl (by kernel_rfl)))) (fun _ h => h)
/-- The one pure statement. -/
def Pure : Prop := ∀ (a0_0 : Int) (l0_1 : List S46), (Lit.int .i64 a0_0).wf = true → l0_1.length ≤ maxLen → l0_1.length * 40 ≤ 140737488351232 → (∀ y ∈ l0_1, g46 y) → ∃ k, garnerlaw21_RelayPuts.f k a0_0 l0_1 = some true
end Go.Proofs.Ytjebpaahpehfnaa.StRelayPuts
