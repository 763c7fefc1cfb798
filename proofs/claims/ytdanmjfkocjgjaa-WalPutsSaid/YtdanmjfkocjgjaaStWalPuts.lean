/- The law WalPuts: each of its parameters' types opened, and the one pure statement that is left of it. -/
import Derived.Test.YtdanmjfkocjgjaaPWalPutsx0
import Derived.Test.YtdanmjfkocjgjaaPWalPutsx5
import Derived.Test.YtdanmjfkocjgjaaPWalPutsx7
import Derived.Test.YtdanmjfkocjgjaaPWalPutsx10
import Derived.Test.YtdanmjfkocjgjaaPWalPutsx13
import Derived.Test.YtdanmjfkocjgjaaPWalPutsx15
import Derived.Test.YtdanmjfkocjgjaaPWalPutsx16
import Derived.Test.YtdanmjfkocjgjaaPWalPutsx18
import Derived.Test.YtdanmjfkocjgjaaPWalPutsx21
import Derived.Test.YtdanmjfkocjgjaaPWalPutsx22
import Derived.Test.YtdanmjfkocjgjaaPWalPutsx23
import Derived.Test.YtdanmjfkocjgjaaQOpens
namespace Go.Proofs.Ytdanmjfkocjgjaa.StWalPuts
open Go.RowKit Go.Proofs.Ytdanmjfkocjgjaa.PWalPuts Go.Proofs.Ytdanmjfkocjgjaa.U Go.Proofs.YtdanmjfkocjgjaaW.PrintWords Go.Proofs.YtdanmjfkocjgjaaW.PrintLast Go.Proofs.YtdanmjfkocjgjaaW.PrintMore
set_option maxRecDepth 100000
theorem op3 : Opens Try.prog 3 (Kd.int .i64) (fun n => (Lit.int .i64 n).wf = true) := opens_int Try.underlying3
theorem op9 : Opens Try.prog 9 Kd.string (fun s => s.size ≤ 140737488351232) := opens_string Try.underlying9
theorem op4 : Opens Try.prog 4 Kd.bool (fun _ => True) := opens_bool Try.underlying4
theorem op5 : Opens Try.prog 5 (Kd.int .u8) (fun n => (Lit.int .u8 n).wf = true) := opens_int Try.underlying5
theorem op22 : Opens Try.prog 22 (Kd.slice 5 (Kd.int .u8)) (fun xs => xs.length ≤ maxLen ∧ xs.length * 1 ≤ 140737488351232 ∧ ∀ y ∈ xs, (Lit.int .u8 y).wf = true) := opens_slice Try.underlying22 op5 (by kernel_rfl) (by kernel_rfl)
theorem op46 : Opens Try.prog 46 (Kd.int .u32) (fun n => (Lit.int .u32 n).wf = true) := opens_int Try.underlying46
def g48 (x : S48) : Prop := ((Lit.int .i64 x.f0).wf = true) ∧ ((Lit.int .i64 x.f1).wf = true) ∧ ((Lit.int .i64 x.f2).wf = true) ∧ ((Lit.int .u32 x.f3).wf = true)
theorem op48 : Opens Try.prog 48 k48 g48 := opens_imp (opens_iso (fun x : S48 => (x.f0, x.f1, x.f2, x.f3)) (fun p => ⟨p.1, p.2.1, p.2.2.1, p.2.2.2⟩) (fun _ => rfl) (opens_struct Try.underlying48 (by kernel_rfl) (opensF_cons op3 rfl (by kernel_rfl) (opensF_cons op3 rfl (by kernel_rfl) (opensF_cons op3 rfl (by kernel_rfl) (opensF_last op46 rfl (by kernel_rfl))))))) (fun _ h => h)
def g50 (x : S50) : Prop := (True) ∧ (x.f1.length ≤ maxLen ∧ x.f1.length * 1 ≤ 140737488351232 ∧ ∀ y ∈ x.f1, (Lit.int .u8 y).wf = true) ∧ (g48 x.f2)
theorem op50 : Opens Try.prog 50 k50 g50 := opens_imp (opens_iso (fun x : S50 => (x.f0, x.f1, x.f2)) (fun p => ⟨p.1, p.2.1, p.2.2⟩) (fun _ => rfl) (opens_struct Try.underlying50 (by kernel_rfl) (opensF_cons op4 rfl (by kernel_rfl) (opensF_cons op22 rfl (by kernel_rfl) (opensF_last op48 rfl (by kernel_rfl)))))) (fun _ h => h)
def g52 (x : S52) : Prop := ((Lit.int .i64 x.f0).wf = true) ∧ ((Lit.int .i64 x.f1).wf = true) ∧ ((Lit.int .i64 x.f2).wf = true) ∧ (x.f3.size ≤ 140737488351232) ∧ (g50 x.f4)
theorem op52 : Opens Try.prog 52 k52 g52 := opens_imp (opens_iso (fun x : S52 => (x.f0, x.f1, x.f2, x.f3, x.f4)) (fun p => ⟨p.1, p.2.1, p.2.2.1, p.2.2.2.1, p.2.2.2.2⟩) (fun _ => rfl) (opens_struct Try.underlying52 (by kernel_rfl) (opensF_cons op3 rfl (by kernel_rfl) (opensF_cons op3 rfl (by kernel_rfl) (opensF_cons op3 rfl (by kernel_rfl) (opensF_cons op9 rfl (by kernel_rfl) (opensF_last op50 rfl (by kernel_rfl)))))))) (fun _ h => h)
theorem op26 : Opens Try.prog 26 (Kd.slice 52 k52) (fun xs => xs.length ≤ maxLen ∧ xs.length * 104 ≤ 140737488351232 ∧ ∀ y ∈ xs, g52 y) := opens_slice Try.underlying26 op52 (by kernel_rfl) (by kernel_rfl)
theorem op28f : Opens Try.prog 28 (Kd.pair (Kd.int .i64) (Kd.pair (Kd.int .i64) (Kd.int .i64))) (fun x => ((Lit.int .i64 x.1).wf = true) ∧ ((Lit.int .i64 x.2.1).wf = true) ∧ ((Lit.int .i64 x.2.2).wf = true)) := opens_imp (opens_struct Try.underlying28 (by kernel_rfl) (opensF_cons op3 rfl (by kernel_rfl) (opensF_cons op3 rfl (by kernel_rfl) (opensF_last op3 rfl (by kernel_rfl))))) (fun _ h => h)
theorem op30f : Opens Try.prog 30 (Kd.pair (Kd.int .i64) (Kd.pair (Kd.slice 52 k52) (Kd.pair (Kd.pair (Kd.int .i64) (Kd.pair (Kd.int .i64) (Kd.int .i64))) (Kd.int .i64)))) (fun x => ((Lit.int .i64 x.1).wf = true) ∧ (x.2.1.length ≤ maxLen ∧ x.2.1.length * 104 ≤ 140737488351232 ∧ ∀ y ∈ x.2.1, g52 y) ∧ (((Lit.int .i64 x.2.2.1.1).wf = true) ∧ ((Lit.int .i64 x.2.2.1.2.1).wf = true) ∧ ((Lit.int .i64 x.2.2.1.2.2).wf = true)) ∧ ((Lit.int .i64 x.2.2.2).wf = true)) := opens_imp (opens_struct Try.underlying30 (by kernel_rfl) (opensF_cons op3 rfl (by kernel_rfl) (opensF_cons op26 rfl (by kernel_rfl) (opensF_cons op28f rfl (by kernel_rfl) (opensF_last op3 rfl (by kernel_rfl)))))) (fun _ h => h)
/-- The one pure statement. -/
def Pure : Prop := ∀ (a0_0 : Int) (l0_1 : List S52) (a0_2 : Int) (a0_3 : Int) (a0_4 : Int) (a0_5 : Int) (a1_0 : Int) (l1_1 : List S52) (a1_2 : Int) (a1_3 : Int) (a1_4 : Int) (a1_5 : Int), (Lit.int .i64 a0_0).wf = true → l0_1.length ≤ maxLen → l0_1.length * 104 ≤ 140737488351232 → (∀ y ∈ l0_1, g52 y) → (Lit.int .i64 a0_2).wf = true → (Lit.int .i64 a0_3).wf = true → (Lit.int .i64 a0_4).wf = true → (Lit.int .i64 a0_5).wf = true → (Lit.int .i64 a1_0).wf = true → l1_1.length ≤ maxLen → l1_1.length * 104 ≤ 140737488351232 → (∀ y ∈ l1_1, g52 y) → (Lit.int .i64 a1_2).wf = true → (Lit.int .i64 a1_3).wf = true → (Lit.int .i64 a1_4).wf = true → (Lit.int .i64 a1_5).wf = true → ∃ k, garnerlaw24_WalPuts.f k a0_0 l0_1 a0_2 a0_3 a0_4 a0_5 a1_0 l1_1 a1_2 a1_3 a1_4 a1_5 = some true
end Go.Proofs.Ytdanmjfkocjgjaa.StWalPuts
