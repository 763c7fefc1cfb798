/- The law EntryPuts: each of its parameters' types opened, and the one pure statement that is left of it. -/
import Derived.Test.YtohocfimdpneoaaPEntryPutsx0
import Derived.Test.YtohocfimdpneoaaPEntryPutsx1
import Derived.Test.YtohocfimdpneoaaPEntryPutsx2
import Derived.Test.YtohocfimdpneoaaPEntryPutsx3
import Derived.Test.YtohocfimdpneoaaPEntryPutsx4
import Derived.Test.YtohocfimdpneoaaPEntryPutsx5
import Derived.Test.YtohocfimdpneoaaPEntryPutsx6
import Derived.Test.YtohocfimdpneoaaPEntryPutsx7
import Derived.Test.YtohocfimdpneoaaPEntryPutsx8
import Derived.Test.YtohocfimdpneoaaPEntryPutsx9
import Derived.Test.YtohocfimdpneoaaPEntryPutsx10
import Derived.Test.YtohocfimdpneoaaPEntryPutsx11
import Derived.Test.YtohocfimdpneoaaQOpens
namespace Go.Proofs.Ytohocfimdpneoaa.StEntryPuts
open Go.RowKit Go.Proofs.Ytohocfimdpneoaa.PEntryPuts Go.Proofs.Ytohocfimdpneoaa.U Go.Proofs.YtohocfimdpneoaaW.PrintWords Go.Proofs.YtohocfimdpneoaaW.PrintLast Go.Proofs.YtohocfimdpneoaaW.PrintMore
set_option maxRecDepth 100000
theorem op3 : Opens Try.prog 3 (Kd.int .i64) (fun n => (Lit.int .i64 n).wf = true) := opens_int Try.underlying3
theorem op9 : Opens Try.prog 9 Kd.string (fun s => s.size ≤ 140737488351232) := opens_string Try.underlying9
theorem op4 : Opens Try.prog 4 Kd.bool (fun _ => True) := opens_bool Try.underlying4
theorem op5 : Opens Try.prog 5 (Kd.int .u8) (fun n => (Lit.int .u8 n).wf = true) := opens_int Try.underlying5
theorem op25 : Opens Try.prog 25 (Kd.slice 5 (Kd.int .u8)) (fun xs => xs.length ≤ maxLen ∧ xs.length * 1 ≤ 140737488351232 ∧ ∀ y ∈ xs, (Lit.int .u8 y).wf = true) := opens_slice Try.underlying25 op5 (by kernel_rfl) (by kernel_rfl)
theorem op22 : Opens Try.prog 22 (Kd.int .u32) (fun n => (Lit.int .u32 n).wf = true) := opens_int Try.underlying22
def g24 (x : S24) : Prop := ((Lit.int .i64 x.f0).wf = true) ∧ ((Lit.int .i64 x.f1).wf = true) ∧ ((Lit.int .i64 x.f2).wf = true) ∧ ((Lit.int .u32 x.f3).wf = true)
theorem op24 : Opens Try.prog 24 k24 g24 := opens_imp (opens_iso (fun x : S24 => (x.f0, x.f1, x.f2, x.f3)) (fun p => ⟨p.1, p.2.1, p.2.2.1, p.2.2.2⟩) (fun _ => rfl) (opens_struct Try.underlying24 (by kernel_rfl) (opensF_cons op3 rfl (by kernel_rfl) (opensF_cons op3 rfl (by kernel_rfl) (opensF_cons op3 rfl (by kernel_rfl) (opensF_last op22 rfl (by kernel_rfl))))))) (fun _ h => h)
def g76 (x : S76) : Prop := (True) ∧ (x.f1.length ≤ maxLen ∧ x.f1.length * 1 ≤ 140737488351232 ∧ ∀ y ∈ x.f1, (Lit.int .u8 y).wf = true) ∧ (g24 x.f2)
theorem op76 : Opens Try.prog 76 k76 g76 := opens_imp (opens_iso (fun x : S76 => (x.f0, x.f1, x.f2)) (fun p => ⟨p.1, p.2.1, p.2.2⟩) (fun _ => rfl) (opens_struct Try.underlying76 (by kernel_rfl) (opensF_cons op4 rfl (by kernel_rfl) (opensF_cons op25 rfl (by kernel_rfl) (opensF_last op24 rfl (by kernel_rfl)))))) (fun _ h => h)
def g78 (x : S78) : Prop := ((Lit.int .i64 x.f0).wf = true) ∧ ((Lit.int .i64 x.f1).wf = true) ∧ ((Lit.int .i64 x.f2).wf = true) ∧ (x.f3.size ≤ 140737488351232) ∧ (g76 x.f4)
theorem op78 : Opens Try.prog 78 k78 g78 := opens_imp (opens_iso (fun x : S78 => (x.f0, x.f1, x.f2, x.f3, x.f4)) (fun p => ⟨p.1, p.2.1, p.2.2.1, p.2.2.2.1, p.2.2.2.2⟩) (fun _ => rfl) (opens_struct Try.underlying78 (by kernel_rfl) (opensF_cons op3 rfl (by kernel_rfl) (opensF_cons op3 rfl (by kernel_rfl) (opensF_cons op3 rfl (by kernel_rfl) (opensF_cons op9 rfl (by kernel_rfl) (opensF_last op76 rfl (by kernel_rfl)))))))) (fun _ h => h)
/-- The one pure statement. -/
def Pure : Prop := ∀ (l0 : List S78), l0.length ≤ maxLen → l0.length * 104 ≤ 140737488351232 → (∀ y ∈ l0, g78 y) → ∃ k, garnerlaw06_EntryPuts.f k l0 = some true
end Go.Proofs.Ytohocfimdpneoaa.StEntryPuts
