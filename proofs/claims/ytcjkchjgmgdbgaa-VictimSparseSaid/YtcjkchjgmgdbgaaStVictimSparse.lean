/- The law VictimSparse: each of its parameters' types opened, and the one pure statement that is left of it. -/
import Derived.Test.YtcjkchjgmgdbgaaPVictimSparsex0
import Derived.Test.YtcjkchjgmgdbgaaPVictimSparsex1
import Derived.Test.YtcjkchjgmgdbgaaPVictimSparsex2
import Derived.Test.YtcjkchjgmgdbgaaPVictimSparsex3
import Derived.Test.YtcjkchjgmgdbgaaPVictimSparsex4
import Derived.Test.YtcjkchjgmgdbgaaPVictimSparsex5
import Derived.Test.YtcjkchjgmgdbgaaPVictimSparsex6
import Derived.Test.YtcjkchjgmgdbgaaQOpens
namespace Go.Proofs.Ytcjkchjgmgdbgaa.StVictimSparse
open Go.RowKit Go.Proofs.Ytcjkchjgmgdbgaa.PVictimSparse Go.Proofs.Ytcjkchjgmgdbgaa.U Go.Proofs.YtcjkchjgmgdbgaaW.PrintWords Go.Proofs.YtcjkchjgmgdbgaaW.PrintLast Go.Proofs.YtcjkchjgmgdbgaaW.PrintMore
set_option maxRecDepth 100000
theorem op3 : Opens Try.prog 3 (Kd.int .i64) (fun n => (Lit.int .i64 n).wf = true) := opens_int Try.underlying3
theorem op58 : Opens Try.prog 58 (Kd.slice 3 (Kd.int .i64)) (fun xs => xs.length ≤ maxLen ∧ xs.length * 8 ≤ 140737488351232 ∧ ∀ y ∈ xs, (Lit.int .i64 y).wf = true) := opens_slice Try.underlying58 op3 (by kernel_rfl) (by kernel_rfl)
def g132 (x : S132) : Prop := ((Lit.int .i64 x.f0).wf = true) ∧ ((Lit.int .i64 x.f1).wf = true)
theorem op132 : Opens Try.prog 132 k132 g132 := opens_imp (opens_iso (fun x : S132 => (x.f0, x.f1)) (fun p => ⟨p.1, p.2⟩) (fun _ => rfl) (opens_struct Try.underlying132 (by kernel_rfl) (opensF_cons op3 rfl (by kernel_rfl) (opensF_last op3 rfl (by kernel_rfl))))) (fun _ h => h)
theorem op59 : Opens Try.prog 59 (Kd.slice 132 k132) (fun xs => xs.length ≤ maxLen ∧ xs.length * 16 ≤ 140737488351232 ∧ ∀ y ∈ xs, g132 y) := opens_slice Try.underlying59 op132 (by kernel_rfl) (by kernel_rfl)
theorem op61f : Opens Try.prog 61 (Kd.pair (Kd.slice 3 (Kd.int .i64)) (Kd.pair (Kd.slice 3 (Kd.int .i64)) (Kd.pair (Kd.slice 132 k132) (Kd.int .i64)))) (fun x => (x.1.length ≤ maxLen ∧ x.1.length * 8 ≤ 140737488351232 ∧ ∀ y ∈ x.1, (Lit.int .i64 y).wf = true) ∧ (x.2.1.length ≤ maxLen ∧ x.2.1.length * 8 ≤ 140737488351232 ∧ ∀ y ∈ x.2.1, (Lit.int .i64 y).wf = true) ∧ (x.2.2.1.length ≤ maxLen ∧ x.2.2.1.length * 16 ≤ 140737488351232 ∧ ∀ y ∈ x.2.2.1, g132 y) ∧ ((Lit.int .i64 x.2.2.2).wf = true)) := opens_imp (opens_struct Try.underlying61 (by kernel_rfl) (opensF_cons op58 rfl (by kernel_rfl) (opensF_cons op58 rfl (by kernel_rfl) (opensF_cons op59 rfl (by kernel_rfl) (opensF_last op3 rfl (by kernel_rfl)))))) (fun _ h => h)
/-- The one pure statement. -/
def Pure : Prop := ∀ (l0_0 : List Int) (l0_1 : List Int) (l0_2 : List S132) (a0_3 : Int) (a1 : Int), l0_0.length ≤ maxLen → l0_0.length * 8 ≤ 140737488351232 → (∀ y ∈ l0_0, (Lit.int .i64 y).wf = true) → l0_1.length ≤ maxLen → l0_1.length * 8 ≤ 140737488351232 → (∀ y ∈ l0_1, (Lit.int .i64 y).wf = true) → l0_2.length ≤ maxLen → l0_2.length * 16 ≤ 140737488351232 → (∀ y ∈ l0_2, g132 y) → (Lit.int .i64 a0_3).wf = true → (Lit.int .u8 a1).wf = true → ∃ k, garnerlaw29_VictimSparse.f k l0_0 l0_1 l0_2 a0_3 a1 = some true
end Go.Proofs.Ytcjkchjgmgdbgaa.StVictimSparse
