/- The law EntryReads: each of its parameters' types opened, and the one pure statement that is left of it. -/
import Derived.Test.YtpplclcgkcjmpaaPEntryReadsx0
import Derived.Test.YtpplclcgkcjmpaaPEntryReadsx1
import Derived.Test.YtpplclcgkcjmpaaPEntryReadsx2
import Derived.Test.YtpplclcgkcjmpaaPEntryReadsx3
import Derived.Test.YtpplclcgkcjmpaaPEntryReadsx4
import Derived.Test.YtpplclcgkcjmpaaPEntryReadsx5
import Derived.Test.YtpplclcgkcjmpaaPEntryReadsx6
import Derived.Test.YtpplclcgkcjmpaaPEntryReadsx7
import Derived.Test.YtpplclcgkcjmpaaPEntryReadsx8
import Derived.Test.YtpplclcgkcjmpaaPEntryReadsx9
import Derived.Test.YtpplclcgkcjmpaaPEntryReadsx10
import Derived.Test.YtpplclcgkcjmpaaPEntryReadsx11
import Derived.Test.YtpplclcgkcjmpaaPEntryReadsx12
import Derived.Test.YtpplclcgkcjmpaaQOpens
namespace Go.Proofs.Ytpplclcgkcjmpaa.StEntryReads
open Go.RowKit Go.Proofs.Ytpplclcgkcjmpaa.PEntryReads Go.Proofs.Ytpplclcgkcjmpaa.U Go.Proofs.YtpplclcgkcjmpaaW.PrintWords Go.Proofs.YtpplclcgkcjmpaaW.PrintLast Go.Proofs.YtpplclcgkcjmpaaW.PrintMore
set_option maxRecDepth 100000
theorem op3 : Opens Try.prog 3 (Kd.int .i64) (fun n => (Lit.int .i64 n).wf = true) := opens_int Try.underlying3
theorem op9 : Opens Try.prog 9 Kd.string (fun s => s.size ≤ 140737488351232) := opens_string Try.underlying9
theorem op4 : Opens Try.prog 4 Kd.bool (fun _ => True) := opens_bool Try.underlying4
theorem op5 : Opens Try.prog 5 (Kd.int .u8) (fun n => (Lit.int .u8 n).wf = true) := opens_int Try.underlying5
theorem op22 : Opens Try.prog 22 (Kd.slice 5 (Kd.int .u8)) (fun xs => xs.length ≤ maxLen ∧ xs.length * 1 ≤ 140737488351232 ∧ ∀ y ∈ xs, (Lit.int .u8 y).wf = true) := opens_slice Try.underlying22 op5 (by kernel_rfl) (by kernel_rfl)
theorem op36 : Opens Try.prog 36 (Kd.int .u32) (fun n => (Lit.int .u32 n).wf = true) := opens_int Try.underlying36
def g38 (x : S38) : Prop := ((Lit.int .i64 x.f0).wf = true) ∧ ((Lit.int .i64 x.f1).wf = true) ∧ ((Lit.int .i64 x.f2).wf = true) ∧ ((Lit.int .u32 x.f3).wf = true)
theorem op38 : Opens Try.prog 38 k38 g38 := opens_imp (opens_iso (fun x : S38 => (x.f0, x.f1, x.f2, x.f3)) (fun p => ⟨p.1, p.2.1, p.2.2.1, p.2.2.2⟩) (fun _ => rfl) (opens_struct Try.underlying38 (by kernel_rfl) (opensF_cons op3 rfl (by kernel_rfl) (opensF_cons op3 rfl (by kernel_rfl) (opensF_cons op3 rfl (by kernel_rfl) (opensF_last op36 rfl (by kernel_rfl))))))) (fun _ h => h)
def g40 (x : S40) : Prop := (True) ∧ (x.f1.length ≤ maxLen ∧ x.f1.length * 1 ≤ 140737488351232 ∧ ∀ y ∈ x.f1, (Lit.int .u8 y).wf = true) ∧ (g38 x.f2)
theorem op40 : Opens Try.prog 40 k40 g40 := opens_imp (opens_iso (fun x : S40 => (x.f0, x.f1, x.f2)) (fun p => ⟨p.1, p.2.1, p.2.2⟩) (fun _ => rfl) (opens_struct Try.underlying40 (by kernel_rfl) (opensF_cons op4 rfl (by kernel_rfl) (opensF_cons op22 rfl (by kernel_rfl) (opensF_last op38 rfl (by kernel_rfl)))))) (fun _ h => h)
def g42 (x : S42) : Prop := ((Lit.int .i64 x.f0).wf = true) ∧ ((Lit.int .i64 x.f1).wf = true) ∧ ((Lit.int .i64 x.f2).wf = true) ∧ (x.f3.size ≤ 140737488351232) ∧ (g40 x.f4)
theorem op42 : Opens Try.prog 42 k42 g42 := opens_imp (opens_iso (fun x : S42 => (x.f0, x.f1, x.f2, x.f3, x.f4)) (fun p => ⟨p.1, p.2.1, p.2.2.1, p.2.2.2.1, p.2.2.2.2⟩) (fun _ => rfl) (opens_struct Try.underlying42 (by kernel_rfl) (opensF_cons op3 rfl (by kernel_rfl) (opensF_cons op3 rfl (by kernel_rfl) (opensF_cons op3 rfl (by kernel_rfl) (opensF_cons op9 rfl (by kernel_rfl) (opensF_last op40 rfl (by kernel_rfl)))))))) (fun _ h => h)
/-- The one pure statement. -/
def Pure : Prop := ∀ (l0 : List S42) (l1 : List Int) (a2 : Int), l0.length ≤ maxLen → l0.length * 104 ≤ 140737488351232 → (∀ y ∈ l0, g42 y) → l1.length ≤ maxLen → l1.length * 1 ≤ 140737488351232 → (∀ y ∈ l1, (Lit.int .u8 y).wf = true) → (Lit.int .u16 a2).wf = true → ∃ k, garnerlaw06_EntryReads.f k l0 l1 a2 = some true
end Go.Proofs.Ytpplclcgkcjmpaa.StEntryReads
