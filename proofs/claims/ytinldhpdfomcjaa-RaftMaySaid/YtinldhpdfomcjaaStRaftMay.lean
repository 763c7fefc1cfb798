/- The law RaftMay: each of its parameters' types opened, and the one pure statement that is left of it. -/
import Derived.Test.YtinldhpdfomcjaaPRaftMayx0
import Derived.Test.YtinldhpdfomcjaaPRaftMayx1
import Derived.Test.YtinldhpdfomcjaaPRaftMayx2
import Derived.Test.YtinldhpdfomcjaaPRaftMayx3
import Derived.Test.YtinldhpdfomcjaaPRaftMayx4
import Derived.Test.YtinldhpdfomcjaaPRaftMayx5
import Derived.Test.YtinldhpdfomcjaaPRaftMayx6
import Derived.Test.YtinldhpdfomcjaaPRaftMayx7
import Derived.Test.YtinldhpdfomcjaaPRaftMayx8
import Derived.Test.YtinldhpdfomcjaaPRaftMayx9
import Derived.Test.YtinldhpdfomcjaaPRaftMayx10
import Derived.Test.YtinldhpdfomcjaaPRaftMayx11
import Derived.Test.YtinldhpdfomcjaaPRaftMayx12
import Derived.Test.YtinldhpdfomcjaaPRaftMayx13
import Derived.Test.YtinldhpdfomcjaaPRaftMayx14
import Derived.Test.YtinldhpdfomcjaaPRaftMayx15
import Derived.Test.YtinldhpdfomcjaaPRaftMayx16
import Derived.Test.YtinldhpdfomcjaaPRaftMayx17
import Derived.Test.YtinldhpdfomcjaaQOpens
namespace Go.Proofs.Ytinldhpdfomcjaa.StRaftMay
open Go.RowKit Go.Proofs.Ytinldhpdfomcjaa.PRaftMay Go.Proofs.Ytinldhpdfomcjaa.U Go.Proofs.YtinldhpdfomcjaaW.PrintWords Go.Proofs.YtinldhpdfomcjaaW.PrintLast Go.Proofs.YtinldhpdfomcjaaW.PrintMore
set_option maxRecDepth 100000
theorem op3 : Opens Try.prog 3 (Kd.int .i64) (fun n => (Lit.int .i64 n).wf = true) := opens_int Try.underlying3
theorem op9 : Opens Try.prog 9 Kd.string (fun s => s.size ≤ 140737488351232) := opens_string Try.underlying9
theorem op4 : Opens Try.prog 4 Kd.bool (fun _ => True) := opens_bool Try.underlying4
theorem op5 : Opens Try.prog 5 (Kd.int .u8) (fun n => (Lit.int .u8 n).wf = true) := opens_int Try.underlying5
theorem op39 : Opens Try.prog 39 (Kd.slice 5 (Kd.int .u8)) (fun xs => xs.length ≤ maxLen ∧ xs.length * 1 ≤ 140737488351232 ∧ ∀ y ∈ xs, (Lit.int .u8 y).wf = true) := opens_slice Try.underlying39 op5 (by kernel_rfl) (by kernel_rfl)
theorem op40 : Opens Try.prog 40 (Kd.int .u32) (fun n => (Lit.int .u32 n).wf = true) := opens_int Try.underlying40
def g42 (x : S42) : Prop := ((Lit.int .i64 x.f0).wf = true) ∧ ((Lit.int .i64 x.f1).wf = true) ∧ ((Lit.int .i64 x.f2).wf = true) ∧ ((Lit.int .u32 x.f3).wf = true)
theorem op42 : Opens Try.prog 42 k42 g42 := opens_imp (opens_iso (fun x : S42 => (x.f0, x.f1, x.f2, x.f3)) (fun p => ⟨p.1, p.2.1, p.2.2.1, p.2.2.2⟩) (fun _ => rfl) (opens_struct Try.underlying42 (by kernel_rfl) (opensF_cons op3 rfl (by kernel_rfl) (opensF_cons op3 rfl (by kernel_rfl) (opensF_cons op3 rfl (by kernel_rfl) (opensF_last op40 rfl (by kernel_rfl))))))) (fun _ h => h)
def g44 (x : S44) : Prop := (True) ∧ (x.f1.length ≤ maxLen ∧ x.f1.length * 1 ≤ 140737488351232 ∧ ∀ y ∈ x.f1, (Lit.int .u8 y).wf = true) ∧ (g42 x.f2)
theorem op44 : Opens Try.prog 44 k44 g44 := opens_imp (opens_iso (fun x : S44 => (x.f0, x.f1, x.f2)) (fun p => ⟨p.1, p.2.1, p.2.2⟩) (fun _ => rfl) (opens_struct Try.underlying44 (by kernel_rfl) (opensF_cons op4 rfl (by kernel_rfl) (opensF_cons op39 rfl (by kernel_rfl) (opensF_last op42 rfl (by kernel_rfl)))))) (fun _ h => h)
def g46 (x : S46) : Prop := ((Lit.int .i64 x.f0).wf = true) ∧ ((Lit.int .i64 x.f1).wf = true) ∧ ((Lit.int .i64 x.f2).wf = true) ∧ (x.f3.size ≤ 140737488351232) ∧ (g44 x.f4)
theorem op46 : Opens Try.prog 46 k46 g46 := opens_imp (opens_iso (fun x : S46 => (x.f0, x.f1, x.f2, x.f3, x.f4)) (fun p => ⟨p.1, p.2.1, p.2.2.1, p.2.2.2.1, p.2.2.2.2⟩) (fun _ => rfl) (opens_struct Try.underlying46 (by kernel_rfl) (opensF_cons op3 rfl (by kernel_rfl) (opensF_cons op3 rfl (by kernel_rfl) (opensF_cons op3 rfl (by kernel_rfl) (opensF_cons op9 rfl (by kernel_rfl) (opensF_last op44 rfl (by kernel_rfl)))))))) (fun _ h => h)
theorem op22 : Opens Try.prog 22 (Kd.slice 46 k46) (fun xs => xs.length ≤ maxLen ∧ xs.length * 104 ≤ 140737488351232 ∧ ∀ y ∈ xs, g46 y) := opens_slice Try.underlying22 op46 (by kernel_rfl) (by kernel_rfl)
def g24 (x : S24) : Prop := ((Lit.int .i64 x.f0).wf = true) ∧ ((Lit.int .i64 x.f1).wf = true) ∧ ((Lit.int .i64 x.f2).wf = true)
theorem op24 : Opens Try.prog 24 k24 g24 := opens_imp (opens_iso (fun x : S24 => (x.f0, x.f1, x.f2)) (fun p => ⟨p.1, p.2.1, p.2.2⟩) (fun _ => rfl) (opens_struct Try.underlying24 (by kernel_rfl) (opensF_cons op3 rfl (by kernel_rfl) (opensF_cons op3 rfl (by kernel_rfl) (opensF_last op3 rfl (by kernel_rfl)))))) (fun _ h => h)
def g37 (x : S37) : Prop := ((Lit.int .i64 x.f0).wf = true) ∧ (x.f1.length ≤ maxLen ∧ x.f1.length * 104 ≤ 140737488351232 ∧ ∀ y ∈ x.f1, g46 y) ∧ (g24 x.f2) ∧ ((Lit.int .i64 x.f3).wf = true) ∧ ((Lit.int .i64 x.f4).wf = true)
theorem op37 : Opens Try.prog 37 k37 g37 := opens_imp (opens_iso (fun x : S37 => (x.f0, x.f1, x.f2, x.f3, x.f4)) (fun p => ⟨p.1, p.2.1, p.2.2.1, p.2.2.2.1, p.2.2.2.2⟩) (fun _ => rfl) (opens_struct Try.underlying37 (by kernel_rfl) (opensF_cons op3 rfl (by kernel_rfl) (opensF_cons op22 rfl (by kernel_rfl) (opensF_cons op24 rfl (by kernel_rfl) (opensF_cons op3 rfl (by kernel_rfl) (opensF_last op3 rfl (by kernel_rfl)))))))) (fun _ h => h)
/-- The one pure statement. -/
def Pure : Prop := ∀ (l0 : List S37), l0.length ≤ maxLen → l0.length * 72 ≤ 140737488351232 → (∀ y ∈ l0, g37 y) → ∃ k, garnerlaw23_RaftMay.f k l0 = some true
end Go.Proofs.Ytinldhpdfomcjaa.StRaftMay
