/- The law RelayFinds: each of its parameters' types opened, and the one pure statement that is left of it. -/
import Derived.Test.YtklpoeaoojgljaaPRelayFindsx0
import Derived.Test.YtklpoeaoojgljaaPRelayFindsx3
import Derived.Test.YtklpoeaoojgljaaPRelayFindsx8
import Derived.Test.YtklpoeaoojgljaaPRelayFindsx12
import Derived.Test.YtklpoeaoojgljaaQOpens
namespace Go.Proofs.Ytklpoeaoojgljaa.StRelayFinds
open Go.RowKit Go.Proofs.Ytklpoeaoojgljaa.PRelayFinds Go.Proofs.Ytklpoeaoojgljaa.U Go.Proofs.YtklpoeaoojgljaaW.PrintWords Go.Proofs.YtklpoeaoojgljaaW.PrintLast Go.Proofs.YtklpoeaoojgljaaW.PrintMore
set_option maxRecDepth 100000
theorem op4 : Opens Try.prog 4 Kd.bool (fun _ => True) := opens_bool Try.underlying4
theorem op3 : Opens Try.prog 3 (Kd.int .i64) (fun n => (Lit.int .i64 n).wf = true) := opens_int Try.underlying3
theorem op23 : Opens Try.prog 23 (Kd.int .u32) (fun n => (Lit.int .u32 n).wf = true) := opens_int Try.underlying23
def g25 (x : S25) : Prop := ((Lit.int .i64 x.f0).wf = true) ∧ ((Lit.int .i64 x.f1).wf = true) ∧ ((Lit.int .i64 x.f2).wf = true) ∧ ((Lit.int .u32 x.f3).wf = true)
theorem op25 : Opens Try.prog 25 k25 g25 := opens_imp (opens_iso (fun x : S25 => (x.f0, x.f1, x.f2, x.f3)) (fun p => ⟨p.1, p.2.1, p.2.2.1, p.2.2.2⟩) (fun _ => rfl) (opens_struct Try.underlying25 (by kernel_rfl) (opensF_cons op3 rfl (by kernel_rfl) (opensF_cons op3 rfl (by kernel_rfl) (opensF_cons op3 rfl (by kernel_rfl) (opensF_last op23 rfl (by kernel_rfl))))))) (fun _ h => h)
def g37 (x : S37) : Prop := ((Lit.int .i64 x.f0).wf = true) ∧ (g25 x.f1)
theorem op37 : Opens Try.prog 37 k37 g37 := opens_imp (opens_iso (fun x : S37 => (x.f0, x.f1)) (fun p => ⟨p.1, p.2⟩) (fun _ => rfl) (opens_struct Try.underlying37 (by kernel_rfl) (opensF_cons op3 rfl (by kernel_rfl) (opensF_last op25 rfl (by kernel_rfl))))) (fun _ h => h)
theorem op33 : Opens Try.prog 33 (Kd.slice 37 k37) (fun xs => xs.length ≤ maxLen ∧ xs.length * 40 ≤ 140737488351232 ∧ ∀ y ∈ xs, g37 y) := opens_slice Try.underlying33 op37 (by kernel_rfl) (by kernel_rfl)
def g35 (x : S35) : Prop := ((Lit.int .i64 x.f0).wf = true) ∧ (x.f1.length ≤ maxLen ∧ x.f1.length * 40 ≤ 140737488351232 ∧ ∀ y ∈ x.f1, g37 y)
theorem op35 : Opens Try.prog 35 k35 g35 := opens_imp (opens_iso (fun x : S35 => (x.f0, x.f1)) (fun p => ⟨p.1, p.2⟩) (fun _ => rfl) (opens_struct Try.underlying35 (by kernel_rfl) (opensF_cons op3 rfl (by kernel_rfl) (opensF_last op33 rfl (by kernel_rfl))))) (fun _ h => h)
def g50 (x : S50) : Prop := (True) ∧ (g35 x.f1)
theorem op50 : Opens Try.prog 50 k50 g50 := opens_imp (opens_iso (fun x : S50 => (x.f0, x.f1)) (fun p => ⟨p.1, p.2⟩) (fun _ => rfl) (opens_struct Try.underlying50 (by kernel_rfl) (opensF_cons op4 rfl (by kernel_rfl) (opensF_last op35 rfl (by kernel_rfl))))) (fun _ h => h)
theorem op25f : Opens Try.prog 25 (Kd.pair (Kd.int .i64) (Kd.pair (Kd.int .i64) (Kd.pair (Kd.int .i64) (Kd.int .u32)))) (fun x => ((Lit.int .i64 x.1).wf = true) ∧ ((Lit.int .i64 x.2.1).wf = true) ∧ ((Lit.int .i64 x.2.2.1).wf = true) ∧ ((Lit.int .u32 x.2.2.2).wf = true)) := opens_imp (opens_struct Try.underlying25 (by kernel_rfl) (opensF_cons op3 rfl (by kernel_rfl) (opensF_cons op3 rfl (by kernel_rfl) (opensF_cons op3 rfl (by kernel_rfl) (opensF_last op23 rfl (by kernel_rfl)))))) (fun _ h => h)
/-- The one pure statement. -/
def Pure : Prop := ∀ (l0 : List S50) (a1_0 : Int) (a1_1 : Int) (a1_2 : Int) (a1_3 : Int), l0.length ≤ maxLen → l0.length * 40 ≤ 140737488351232 → (∀ y ∈ l0, g50 y) → (Lit.int .i64 a1_0).wf = true → (Lit.int .i64 a1_1).wf = true → (Lit.int .i64 a1_2).wf = true → (Lit.int .u32 a1_3).wf = true → ∃ k, garnerlaw21_RelayFinds.f k l0 a1_0 a1_1 a1_2 a1_3 = some true
end Go.Proofs.Ytklpoeaoojgljaa.StRelayFinds
