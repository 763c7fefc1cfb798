/- The law TallySubs: each of its parameters' types opened, and the one pure statement that is left of it. -/
import Derived.Test.YtkapmlijeilieaaPTallySubsx0
import Derived.Test.YtkapmlijeilieaaPTallySubsx1
import Derived.Test.YtkapmlijeilieaaPTallySubsx2
import Derived.Test.YtkapmlijeilieaaPTallySubsx3
import Derived.Test.YtkapmlijeilieaaPTallySubsx4
import Derived.Test.YtkapmlijeilieaaPTallySubsx5
import Derived.Test.YtkapmlijeilieaaPTallySubsx6
import Derived.Test.YtkapmlijeilieaaQOpens
namespace Go.Proofs.Ytkapmlijeilieaa.StTallySubs
open Go.RowKit Go.Proofs.Ytkapmlijeilieaa.PTallySubs Go.Proofs.Ytkapmlijeilieaa.U Go.Proofs.YtkapmlijeilieaaW.PrintWords Go.Proofs.YtkapmlijeilieaaW.PrintLast Go.Proofs.YtkapmlijeilieaaW.PrintMore
set_option maxRecDepth 100000
theorem op3 : Opens Try.prog 3 (Kd.int .i64) (fun n => (Lit.int .i64 n).wf = true) := opens_int Try.underlying3
def g46 (x : S46) : Prop := ((Lit.int .i64 x.f0).wf = true) ∧ ((Lit.int .i64 x.f1).wf = true)
theorem op46 : Opens Try.prog 46 k46 g46 := opens_imp (opens_iso (fun x : S46 => (x.f0, x.f1)) (fun p => ⟨p.1, p.2⟩) (fun _ => rfl) (opens_struct Try.underlying46 (by kernel_rfl) (opensF_cons op3 rfl (by kernel_rfl) (opensF_last op3 rfl (by kernel_rfl))))) (fun _ h => h)
theorem op41 : Opens Try.prog 41 (Kd.int .u32) (fun n => (Lit.int .u32 n).wf = true) := opens_int Try.underlying41
def g43 (x : S43) : Prop := ((Lit.int .i64 x.f0).wf = true) ∧ ((Lit.int .i64 x.f1).wf = true) ∧ ((Lit.int .i64 x.f2).wf = true) ∧ ((Lit.int .u32 x.f3).wf = true)
theorem op43 : Opens Try.prog 43 k43 g43 := opens_imp (opens_iso (fun x : S43 => (x.f0, x.f1, x.f2, x.f3)) (fun p => ⟨p.1, p.2.1, p.2.2.1, p.2.2.2⟩) (fun _ => rfl) (opens_struct Try.underlying43 (by kernel_rfl) (opensF_cons op3 rfl (by kernel_rfl) (opensF_cons op3 rfl (by kernel_rfl) (opensF_cons op3 rfl (by kernel_rfl) (opensF_last op41 rfl (by kernel_rfl))))))) (fun _ h => h)
/-- The one pure statement. -/
def Pure : Prop := ∀ (l0 : List S46) (l1 : List S43), l0.length ≤ maxLen → l0.length * 16 ≤ 140737488351232 → (∀ y ∈ l0, g46 y) → l1.length ≤ maxLen → l1.length * 32 ≤ 140737488351232 → (∀ y ∈ l1, g43 y) → ∃ k, garnerlaw09_TallySubs.f k l0 l1 = some true
end Go.Proofs.Ytkapmlijeilieaa.StTallySubs
