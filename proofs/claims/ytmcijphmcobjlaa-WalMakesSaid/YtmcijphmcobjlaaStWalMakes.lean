/- The law WalMakes: each of its parameters' types opened, and the one pure statement that is left of it. -/
import Derived.Test.YtmcijphmcobjlaaPWalMakesx0
import Derived.Test.YtmcijphmcobjlaaPWalMakesx5
import Derived.Test.YtmcijphmcobjlaaPWalMakesx8
import Derived.Test.YtmcijphmcobjlaaPWalMakesx9
import Derived.Test.YtmcijphmcobjlaaPWalMakesx11
import Derived.Test.YtmcijphmcobjlaaPWalMakesx16
import Derived.Test.YtmcijphmcobjlaaPWalMakesx18
import Derived.Test.YtmcijphmcobjlaaPWalMakesx19
import Derived.Test.YtmcijphmcobjlaaPWalMakesx21
import Derived.Test.YtmcijphmcobjlaaPWalMakesx22
import Derived.Test.YtmcijphmcobjlaaQOpens
namespace Go.Proofs.Ytmcijphmcobjlaa.StWalMakes
open Go.RowKit Go.Proofs.Ytmcijphmcobjlaa.PWalMakes Go.Proofs.Ytmcijphmcobjlaa.U Go.Proofs.YtmcijphmcobjlaaW.PrintWords Go.Proofs.YtmcijphmcobjlaaW.PrintLast Go.Proofs.YtmcijphmcobjlaaW.PrintMore
set_option maxRecDepth 100000
theorem op3 : Opens Try.prog 3 (Kd.int .i64) (fun n => (Lit.int .i64 n).wf = true) := opens_int Try.underlying3
theorem op9 : Opens Try.prog 9 Kd.string (fun s => s.size ≤ 140737488351232) := opens_string Try.underlying9
theorem op4 : Opens Try.prog 4 Kd.bool (fun _ => True) := opens_bool Try.underlying4
theorem op5 : Opens Try.prog 5 (Kd.int .u8) (fun n => (Lit.int .u8 n).wf = true) := opens_int Try.underlying5
theorem op47 : Opens Try.prog 47 (Kd.slice 5 (Kd.int .u8)) (fun xs => xs.length ≤ maxLen ∧ xs.length * 1 ≤ 140737488351232 ∧ ∀ y ∈ xs, (Lit.int .u8 y).wf = true) := opens_slice Try.underlying47 op5 (by kernel_rfl) (by kernel_rfl)
theorem op48 : Opens Try.prog 48 (Kd.int .u32) (fun n => (Lit.int .u32 n).wf = true) := opens_int Try.underlying48
def g50 (x : S50) : Prop := ((Lit.int .i64 x.f0).wf = true) ∧ ((Lit.int .i64 x.f1).wf = true) ∧ ((Lit.int .i64 x.f2).wf = true) ∧ ((Lit.int .u32 x.f3).wf = true)
theorem op50 : Opens Try.prog 50 k50 g50 := opens_imp (opens_iso (fun x : S50 => (x.f0, x.f1, x.f2, x.f3)) (fun p => ⟨p.1, p.2.1, p.2.2.1, p.2.2.2⟩) (fun _ => rfl) (opens_struct Try.underlying50 (by kernel_rfl) (opensF_cons op3 rfl (by kernel_rfl) (opensF_cons op3 rfl (by kernel_rfl) (opensF_cons op3 rfl (by kernel_rfl) (opensF_last op48 rfl (by kernel_rfl))))))) (fun _ h => h)
def g52 (x : S52) : Prop := (True) ∧ (x.f1.length ≤ maxLen ∧ x.f1.length * 1 ≤ 140737488351232 ∧ ∀ y ∈ x.f1, (Lit.int .u8 y).wf = true) ∧ (g50 x.f2)
theorem op52 : Opens Try.prog 52 k52 g52 := opens_imp (opens_iso (fun x : S52 => (x.f0, x.f1, x.f2)) (fun p => ⟨p.1, p.2.1, p.2.2⟩) (fun _ => rfl) (opens_struct Try.underlying52 (by kernel_rfl) (opensF_cons op4 rfl (by kernel_rfl) (opensF_cons op47 rfl (by kernel_rfl) (opensF_last op50 rfl (by kernel_rfl)))))) (fun _ h => h)
def g54 (x : S54) : Prop := ((Lit.int .i64 x.f0).wf = true) ∧ ((Lit.int .i64 x.f1).wf = true) ∧ ((Lit.int .i64 x.f2).wf = true) ∧ (x.f3.size ≤ 140737488351232) ∧ (g52 x.f4)
theorem op54 : Opens Try.prog 54 k54 g54 := opens_imp (opens_iso (fun x : S54 => (x.f0, x.f1, x.f2, x.f3, x.f4)) (fun p => ⟨p.1, p.2.1, p.2.2.1, p.2.2.2.1, p.2.2.2.2⟩) (fun _ => rfl) (opens_struct Try.underlying54 (by kernel_rfl) (opensF_cons op3 rfl (by kernel_rfl) (opensF_cons op3 rfl (by kernel_rfl) (opensF_cons op3 rfl (by kernel_rfl) (opensF_cons op9 rfl (by kernel_rfl) (opensF_last op52 rfl (by kernel_rfl)))))))) (fun _ h => h)
theorem op22 : Opens Try.prog 22 (Kd.slice 54 k54) (fun xs => xs.length ≤ maxLen ∧ xs.length * 104 ≤ 140737488351232 ∧ ∀ y ∈ xs, g54 y) := opens_slice Try.underlying22 op54 (by kernel_rfl) (by kernel_rfl)
theorem op24f : Opens Try.prog 24 (Kd.pair (Kd.int .i64) (Kd.pair (Kd.int .i64) (Kd.int .i64))) (fun x => ((Lit.int .i64 x.1).wf = true) ∧ ((Lit.int .i64 x.2.1).wf = true) ∧ ((Lit.int .i64 x.2.2).wf = true)) := opens_imp (opens_struct Try.underlying24 (by kernel_rfl) (opensF_cons op3 rfl (by kernel_rfl) (opensF_cons op3 rfl (by kernel_rfl) (opensF_last op3 rfl (by kernel_rfl))))) (fun _ h => h)
theorem op26f : Opens Try.prog 26 (Kd.pair (Kd.int .i64) (Kd.pair (Kd.int .i64) (Kd.pair (Kd.slice 54 k54) (Kd.pair (Kd.pair (Kd.int .i64) (Kd.pair (Kd.int .i64) (Kd.int .i64))) (Kd.int .i64))))) (fun x => ((Lit.int .i64 x.1).wf = true) ∧ ((Lit.int .i64 x.2.1).wf = true) ∧ (x.2.2.1.length ≤ maxLen ∧ x.2.2.1.length * 104 ≤ 140737488351232 ∧ ∀ y ∈ x.2.2.1, g54 y) ∧ (((Lit.int .i64 x.2.2.2.1.1).wf = true) ∧ ((Lit.int .i64 x.2.2.2.1.2.1).wf = true) ∧ ((Lit.int .i64 x.2.2.2.1.2.2).wf = true)) ∧ ((Lit.int .i64 x.2.2.2.2).wf = true)) := opens_imp (opens_struct Try.underlying26 (by kernel_rfl) (opensF_cons op3 rfl (by kernel_rfl) (opensF_cons op3 rfl (by kernel_rfl) (opensF_cons op22 rfl (by kernel_rfl) (opensF_cons op24f rfl (by kernel_rfl) (opensF_last op3 rfl (by kernel_rfl))))))) (fun _ h => h)
def g24 (x : S24) : Prop := ((Lit.int .i64 x.f0).wf = true) ∧ ((Lit.int .i64 x.f1).wf = true) ∧ ((Lit.int .i64 x.f2).wf = true)
theorem op24 : Opens Try.prog 24 k24 g24 := opens_imp (opens_iso (fun x : S24 => (x.f0, x.f1, x.f2)) (fun p => ⟨p.1, p.2.1, p.2.2⟩) (fun _ => rfl) (opens_struct Try.underlying24 (by kernel_rfl) (opensF_cons op3 rfl (by kernel_rfl) (opensF_cons op3 rfl (by kernel_rfl) (opensF_last op3 rfl (by kernel_rfl)))))) (fun _ h => h)
def g34 (x : S34) : Prop := ((Lit.int .i64 x.f0).wf = true) ∧ (x.f1.length ≤ maxLen ∧ x.f1.length * 104 ≤ 140737488351232 ∧ ∀ y ∈ x.f1, g54 y) ∧ (g24 x.f2) ∧ ((Lit.int .i64 x.f3).wf = true)
theorem op34 : Opens Try.prog 34 k34 g34 := opens_imp (opens_iso (fun x : S34 => (x.f0, x.f1, x.f2, x.f3)) (fun p => ⟨p.1, p.2.1, p.2.2.1, p.2.2.2⟩) (fun _ => rfl) (opens_struct Try.underlying34 (by kernel_rfl) (opensF_cons op3 rfl (by kernel_rfl) (opensF_cons op22 rfl (by kernel_rfl) (opensF_cons op24 rfl (by kernel_rfl) (opensF_last op3 rfl (by kernel_rfl))))))) (fun _ h => h)
/-- The one pure statement. -/
def Pure : Prop := ∀ (a0_0 : Int) (a0_1 : Int) (l0_2 : List S54) (a0_3 : Int) (a0_4 : Int) (a0_5 : Int) (a0_6 : Int) (l1 : List S34), (Lit.int .i64 a0_0).wf = true → (Lit.int .i64 a0_1).wf = true → l0_2.length ≤ maxLen → l0_2.length * 104 ≤ 140737488351232 → (∀ y ∈ l0_2, g54 y) → (Lit.int .i64 a0_3).wf = true → (Lit.int .i64 a0_4).wf = true → (Lit.int .i64 a0_5).wf = true → (Lit.int .i64 a0_6).wf = true → l1.length ≤ maxLen → l1.length * 64 ≤ 140737488351232 → (∀ y ∈ l1, g34 y) → ∃ k, garnerlaw24_WalMakes.f k a0_0 a0_1 l0_2 a0_3 a0_4 a0_5 a0_6 l1 = some true
end Go.Proofs.Ytmcijphmcobjlaa.StWalMakes
