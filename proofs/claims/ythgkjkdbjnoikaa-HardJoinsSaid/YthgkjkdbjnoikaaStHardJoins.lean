/- The law HardJoins: each of its parameters' types opened, and the one pure statement that is left of it. -/
import Derived.Test.YthgkjkdbjnoikaaPHardJoinsx0
import Derived.Test.YthgkjkdbjnoikaaPHardJoinsx1
import Derived.Test.YthgkjkdbjnoikaaPHardJoinsx2
import Derived.Test.YthgkjkdbjnoikaaPHardJoinsx3
import Derived.Test.YthgkjkdbjnoikaaPHardJoinsx4
import Derived.Test.YthgkjkdbjnoikaaOpens
namespace Go.Proofs.Ythgkjkdbjnoikaa.StHardJoins
open Go.RowKit Go.Proofs.Ythgkjkdbjnoikaa.PHardJoins Go.Proofs.Ythgkjkdbjnoikaa.U Go.Proofs.YthgkjkdbjnoikaaW.PrintWords Go.Proofs.YthgkjkdbjnoikaaW.PrintLast Go.Proofs.YthgkjkdbjnoikaaW.PrintMore
set_option maxRecDepth 100000
theorem op3 : Opens Try.prog 3 (Kd.int .i64) (fun n => (Lit.int .i64 n).wf = true) := opens_int Try.underlying3
def g40 (x : S40) : Prop := ((Lit.int .i64 x.f0).wf = true) ∧ ((Lit.int .i64 x.f1).wf = true) ∧ ((Lit.int .i64 x.f2).wf = true)
theorem op40 : Opens Try.prog 40 k40 g40 := opens_imp (opens_iso (fun x : S40 => (x.f0, x.f1, x.f2)) (fun p => ⟨p.1, p.2.1, p.2.2⟩) (fun _ => rfl) (opens_struct Try.underlying40 (by kernel_rfl) (opensF_cons op3 rfl (by kernel_rfl) (opensF_cons op3 rfl (by kernel_rfl) (opensF_last op3 rfl (by kernel_rfl)))))) (fun _ h => h)
theorem op5 : Opens Try.prog 5 (Kd.int .u8) (fun n => (Lit.int .u8 n).wf = true) := opens_int Try.underlying5
/-- The one pure statement. -/
def Pure : Prop := ∀ (l0 : List S40) (l1 : List Int), l0.length ≤ maxLen → (∀ y ∈ l0, g40 y) → l1.length ≤ maxLen → (∀ y ∈ l1, (Lit.int .u8 y).wf = true) → ∃ k, garnerlaw22_HardJoins.f k l0 l1 = some true
end Go.Proofs.Ythgkjkdbjnoikaa.StHardJoins
