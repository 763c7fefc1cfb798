/- The law ExportPuts: each of its parameters' types opened, and the one pure statement that is left of it. -/
import Derived.Test.YtapamplgajkjlaaPExportPutsx0
import Derived.Test.YtapamplgajkjlaaPExportPutsx1
import Derived.Test.YtapamplgajkjlaaPExportPutsx2
import Derived.Test.YtapamplgajkjlaaPExportPutsx3
import Derived.Test.YtapamplgajkjlaaPExportPutsx4
import Derived.Test.YtapamplgajkjlaaPExportPutsx5
import Derived.Test.YtapamplgajkjlaaPExportPutsx6
import Derived.Test.YtapamplgajkjlaaPExportPutsx7
import Derived.Test.YtapamplgajkjlaaPExportPutsx8
import Derived.Test.YtapamplgajkjlaaPExportPutsx9
import Derived.Test.YtapamplgajkjlaaPExportPutsx10
import Derived.Test.YtapamplgajkjlaaPExportPutsx11
import Derived.Test.YtapamplgajkjlaaPExportPutsx12
import Derived.Test.YtapamplgajkjlaaPExportPutsx13
import Derived.Test.YtapamplgajkjlaaQOpens
namespace Go.Proofs.Ytapamplgajkjlaa.StExportPuts
open Go.RowKit Go.Proofs.Ytapamplgajkjlaa.PExportPuts Go.Proofs.Ytapamplgajkjlaa.U Go.Proofs.YtapamplgajkjlaaW.PrintWords Go.Proofs.YtapamplgajkjlaaW.PrintLast Go.Proofs.YtapamplgajkjlaaW.PrintMore
set_option maxRecDepth 100000
theorem op3 : Opens Try.prog 3 (Kd.int .i64) (fun n => (Lit.int .i64 n).wf = true) := opens_int Try.underlying3
theorem op9 : Opens Try.prog 9 Kd.string (fun s => s.size ≤ 140737488351232) := opens_string Try.underlying9
theorem op5 : Opens Try.prog 5 (Kd.int .u8) (fun n => (Lit.int .u8 n).wf = true) := opens_int Try.underlying5
theorem op22 : Opens Try.prog 22 (Kd.slice 5 (Kd.int .u8)) (fun xs => xs.length ≤ maxLen ∧ xs.length * 1 ≤ 140737488351232 ∧ ∀ y ∈ xs, (Lit.int .u8 y).wf = true) := opens_slice Try.underlying22 op5 (by kernel_rfl) (by kernel_rfl)
def g135 (x : S135) : Prop := (x.f0.size ≤ 140737488351232) ∧ (x.f1.length ≤ maxLen ∧ x.f1.length * 1 ≤ 140737488351232 ∧ ∀ y ∈ x.f1, (Lit.int .u8 y).wf = true)
theorem op135 : Opens Try.prog 135 k135 g135 := opens_imp (opens_iso (fun x : S135 => (x.f0, x.f1)) (fun p => ⟨p.1, p.2⟩) (fun _ => rfl) (opens_struct Try.underlying135 (by kernel_rfl) (opensF_cons op9 rfl (by kernel_rfl) (opensF_last op22 rfl (by kernel_rfl))))) (fun _ h => h)
theorem op24 : Opens Try.prog 24 (Kd.slice 135 k135) (fun xs => xs.length ≤ maxLen ∧ xs.length * 40 ≤ 140737488351232 ∧ ∀ y ∈ xs, g135 y) := opens_slice Try.underlying24 op135 (by kernel_rfl) (by kernel_rfl)
theorem op29f : Opens Try.prog 29 (Kd.pair (Kd.int .i64) (Kd.pair (Kd.int .i64) (Kd.slice 135 k135))) (fun x => ((Lit.int .i64 x.1).wf = true) ∧ ((Lit.int .i64 x.2.1).wf = true) ∧ (x.2.2.length ≤ maxLen ∧ x.2.2.length * 40 ≤ 140737488351232 ∧ ∀ y ∈ x.2.2, g135 y)) := opens_imp (opens_struct Try.underlying29 (by kernel_rfl) (opensF_cons op3 rfl (by kernel_rfl) (opensF_cons op3 rfl (by kernel_rfl) (opensF_last op24 rfl (by kernel_rfl))))) (fun _ h => h)
/-- The one pure statement. -/
def Pure : Prop := ∀ (a0_0 : Int) (a0_1 : Int) (l0_2 : List S135) (l1 : List S135), (Lit.int .i64 a0_0).wf = true → (Lit.int .i64 a0_1).wf = true → l0_2.length ≤ maxLen → l0_2.length * 40 ≤ 140737488351232 → (∀ y ∈ l0_2, g135 y) → l1.length ≤ maxLen → l1.length * 40 ≤ 140737488351232 → (∀ y ∈ l1, g135 y) → ∃ k, garnerlaw27_ExportPuts.f k a0_0 a0_1 l0_2 l1 = some true
end Go.Proofs.Ytapamplgajkjlaa.StExportPuts
