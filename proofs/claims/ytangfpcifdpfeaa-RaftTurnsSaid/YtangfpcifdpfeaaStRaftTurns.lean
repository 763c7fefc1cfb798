/- The law RaftTurns: each of its parameters' types opened, and the one pure statement that is left of it. -/
import Derived.Test.YtangfpcifdpfeaaPRaftTurnsx0
import Derived.Test.YtangfpcifdpfeaaPRaftTurnsx1
import Derived.Test.YtangfpcifdpfeaaPRaftTurnsx2
import Derived.Test.YtangfpcifdpfeaaPRaftTurnsx3
import Derived.Test.YtangfpcifdpfeaaPRaftTurnsx4
import Derived.Test.YtangfpcifdpfeaaPRaftTurnsx5
import Derived.Test.YtangfpcifdpfeaaPRaftTurnsx6
import Derived.Test.YtangfpcifdpfeaaPRaftTurnsx7
import Derived.Test.YtangfpcifdpfeaaPRaftTurnsx8
import Derived.Test.YtangfpcifdpfeaaPRaftTurnsx9
import Derived.Test.YtangfpcifdpfeaaPRaftTurnsx10
import Derived.Test.YtangfpcifdpfeaaPRaftTurnsx11
import Derived.Test.YtangfpcifdpfeaaPRaftTurnsx12
import Derived.Test.YtangfpcifdpfeaaPRaftTurnsx13
import Derived.Test.YtangfpcifdpfeaaPRaftTurnsx14
import Derived.Test.YtangfpcifdpfeaaPRaftTurnsx15
import Derived.Test.YtangfpcifdpfeaaPRaftTurnsx16
import Derived.Test.YtangfpcifdpfeaaPRaftTurnsx17
import Derived.Test.YtangfpcifdpfeaaQOpens
namespace Go.Proofs.Ytangfpcifdpfeaa.StRaftTurns
open Go.RowKit Go.Proofs.Ytangfpcifdpfeaa.PRaftTurns Go.Proofs.Ytangfpcifdpfeaa.U Go.Proofs.YtangfpcifdpfeaaW.PrintWords Go.Proofs.YtangfpcifdpfeaaW.PrintLast Go.Proofs.YtangfpcifdpfeaaW.PrintMore
set_option maxRecDepth 100000
theorem op3 : Opens Try.prog 3 (Kd.int .i64) (fun n => (Lit.int .i64 n).wf = true) := opens_int Try.underlying3
theorem op9 : Opens Try.prog 9 Kd.string (fun s => s.size ≤ 140737488351232) := opens_string Try.underlying9
theorem op4 : Opens Try.prog 4 Kd.bool (fun _ => True) := opens_bool Try.underlying4
theorem op5 : Opens Try.prog 5 (Kd.int .u8) (fun n => (Lit.int .u8 n).wf = true) := opens_int Try.underlying5
theorem op48 : Opens Try.prog 48 (Kd.slice 5 (Kd.int .u8)) (fun xs => xs.length ≤ maxLen ∧ xs.length * 1 ≤ 140737488351232 ∧ ∀ y ∈ xs, (Lit.int .u8 y).wf = true) := opens_slice Try.underlying48 op5 (by kernel_rfl) (by kernel_rfl)
theorem op49 : Opens Try.prog 49 (Kd.int .u32) (fun n => (Lit.int .u32 n).wf = true) := opens_int Try.underlying49
def g51 (x : S51) : Prop := ((Lit.int .i64 x.f0).wf = true) ∧ ((Lit.int .i64 x.f1).wf = true) ∧ ((Lit.int .i64 x.f2).wf = true) ∧ ((Lit.int .u32 x.f3).wf = true)
theorem op51 : Opens Try.prog 51 k51 g51 := opens_imp (opens_iso (fun x : S51 => (x.f0, x.f1, x.f2, x.f3)) (fun p => ⟨p.1, p.2.1, p.2.2.1, p.2.2.2⟩) (fun _ => rfl) (opens_struct Try.underlying51 (by kernel_rfl) (opensF_cons op3 rfl (by kernel_rfl) (opensF_cons op3 rfl (by kernel_rfl) (opensF_cons op3 rfl (by kernel_rfl) (opensF_last op49 rfl (by kernel_rfl))))))) (fun _ h => h)
def g53 (x : S53) : Prop := (True) ∧ (x.f1.length ≤ maxLen ∧ x.f1.length * 1 ≤ 140737488351232 ∧ ∀ y ∈ x.f1, (Lit.int .u8 y).wf = true) ∧ (g51 x.f2)
theorem op53 : Opens Try.prog 53 k53 g53 := opens_imp (opens_iso (fun x : S53 => (x.f0, x.f1, x.f2)) (fun p => ⟨p.1, p.2.1, p.2.2⟩) (fun _ => rfl) (opens_struct Try.underlying53 (by kernel_rfl) (opensF_cons op4 rfl (by kernel_rfl) (opensF_cons op48 rfl (by kernel_rfl) (opensF_last op51 rfl (by kernel_rfl)))))) (fun _ h => h)
def g55 (x : S55) : Prop := ((Lit.int .i64 x.f0).wf = true) ∧ ((Lit.int .i64 x.f1).wf = true) ∧ ((Lit.int .i64 x.f2).wf = true) ∧ (x.f3.size ≤ 140737488351232) ∧ (g53 x.f4)
theorem op55 : Opens Try.prog 55 k55 g55 := opens_imp (opens_iso (fun x : S55 => (x.f0, x.f1, x.f2, x.f3, x.f4)) (fun p => ⟨p.1, p.2.1, p.2.2.1, p.2.2.2.1, p.2.2.2.2⟩) (fun _ => rfl) (opens_struct Try.underlying55 (by kernel_rfl) (opensF_cons op3 rfl (by kernel_rfl) (opensF_cons op3 rfl (by kernel_rfl) (opensF_cons op3 rfl (by kernel_rfl) (opensF_cons op9 rfl (by kernel_rfl) (opensF_last op53 rfl (by kernel_rfl)))))))) (fun _ h => h)
theorem op22 : Opens Try.prog 22 (Kd.slice 55 k55) (fun xs => xs.length ≤ maxLen ∧ xs.length * 104 ≤ 140737488351232 ∧ ∀ y ∈ xs, g55 y) := opens_slice Try.underlying22 op55 (by kernel_rfl) (by kernel_rfl)
theorem op24f : Opens Try.prog 24 (Kd.pair (Kd.int .i64) (Kd.pair (Kd.int .i64) (Kd.int .i64))) (fun x => ((Lit.int .i64 x.1).wf = true) ∧ ((Lit.int .i64 x.2.1).wf = true) ∧ ((Lit.int .i64 x.2.2).wf = true)) := opens_imp (opens_struct Try.underlying24 (by kernel_rfl) (opensF_cons op3 rfl (by kernel_rfl) (opensF_cons op3 rfl (by kernel_rfl) (opensF_last op3 rfl (by kernel_rfl))))) (fun _ h => h)
theorem op26f : Opens Try.prog 26 (Kd.pair (Kd.int .i64) (Kd.pair (Kd.int .i64) (Kd.pair (Kd.slice 55 k55) (Kd.pair (Kd.pair (Kd.int .i64) (Kd.pair (Kd.int .i64) (Kd.int .i64))) (Kd.int .i64))))) (fun x => ((Lit.int .i64 x.1).wf = true) ∧ ((Lit.int .i64 x.2.1).wf = true) ∧ (x.2.2.1.length ≤ maxLen ∧ x.2.2.1.length * 104 ≤ 140737488351232 ∧ ∀ y ∈ x.2.2.1, g55 y) ∧ (((Lit.int .i64 x.2.2.2.1.1).wf = true) ∧ ((Lit.int .i64 x.2.2.2.1.2.1).wf = true) ∧ ((Lit.int .i64 x.2.2.2.1.2.2).wf = true)) ∧ ((Lit.int .i64 x.2.2.2.2).wf = true)) := opens_imp (opens_struct Try.underlying26 (by kernel_rfl) (opensF_cons op3 rfl (by kernel_rfl) (opensF_cons op3 rfl (by kernel_rfl) (opensF_cons op22 rfl (by kernel_rfl) (opensF_cons op24f rfl (by kernel_rfl) (opensF_last op3 rfl (by kernel_rfl))))))) (fun _ h => h)
theorem op27f : Opens Try.prog 27 (Kd.pair (Kd.int .i64) (Kd.pair (Kd.int .i64) (Kd.pair (Kd.int .i64) (Kd.int .i64)))) (fun x => ((Lit.int .i64 x.1).wf = true) ∧ ((Lit.int .i64 x.2.1).wf = true) ∧ ((Lit.int .i64 x.2.2.1).wf = true) ∧ ((Lit.int .i64 x.2.2.2).wf = true)) := opens_imp (opens_array [fldA 3 0, fldA 3 1, fldA 3 2, fldA 3 3] Try.underlying27 (by kernel_rfl) (by kernel_rfl) (opensF_cons op3 rfl (by kernel_rfl) (opensF_cons op3 rfl (by kernel_rfl) (opensF_cons op3 rfl (by kernel_rfl) (opensF_last op3 rfl (by kernel_rfl)))))) (fun _ h => h)
/-- The one pure statement. -/
def Pure : Prop := ∀ (a0_0 : Int) (a0_1 : Int) (l0_2 : List S55) (a0_3 : Int) (a0_4 : Int) (a0_5 : Int) (a0_6 : Int) (a1_0 : Int) (a1_1 : Int) (a1_2 : Int) (a2_0 : Int) (a2_1 : Int) (a2_2 : Int) (a2_3 : Int), (Lit.int .i64 a0_0).wf = true → (Lit.int .i64 a0_1).wf = true → l0_2.length ≤ maxLen → l0_2.length * 104 ≤ 140737488351232 → (∀ y ∈ l0_2, g55 y) → (Lit.int .i64 a0_3).wf = true → (Lit.int .i64 a0_4).wf = true → (Lit.int .i64 a0_5).wf = true → (Lit.int .i64 a0_6).wf = true → (Lit.int .i64 a1_0).wf = true → (Lit.int .i64 a1_1).wf = true → (Lit.int .i64 a1_2).wf = true → (Lit.int .i64 a2_0).wf = true → (Lit.int .i64 a2_1).wf = true → (Lit.int .i64 a2_2).wf = true → (Lit.int .i64 a2_3).wf = true → ∃ k, garnerlaw23_RaftTurns.f k a0_0 a0_1 l0_2 a0_3 a0_4 a0_5 a0_6 a1_0 a1_1 a1_2 a2_0 a2_1 a2_2 a2_3 = some true
end Go.Proofs.Ytangfpcifdpfeaa.StRaftTurns
