/- The law WalGets: each of its parameters' types opened, and the one pure statement that is left of it. -/
import Derived.Test.YtdanmjfkocjgjaaPWalGetsx0
import Derived.Test.YtdanmjfkocjgjaaPWalGetsx1
import Derived.Test.YtdanmjfkocjgjaaPWalGetsx2
import Derived.Test.YtdanmjfkocjgjaaPWalGetsx3
import Derived.Test.YtdanmjfkocjgjaaPWalGetsx4
import Derived.Test.YtdanmjfkocjgjaaPWalGetsx5
import Derived.Test.YtdanmjfkocjgjaaPWalGetsx6
import Derived.Test.YtdanmjfkocjgjaaPWalGetsx7
import Derived.Test.YtdanmjfkocjgjaaPWalGetsx8
import Derived.Test.YtdanmjfkocjgjaaPWalGetsx9
import Derived.Test.YtdanmjfkocjgjaaPWalGetsx10
import Derived.Test.YtdanmjfkocjgjaaPWalGetsx11
import Derived.Test.YtdanmjfkocjgjaaPWalGetsx12
import Derived.Test.YtdanmjfkocjgjaaPWalGetsx13
import Derived.Test.YtdanmjfkocjgjaaPWalGetsx14
import Derived.Test.YtdanmjfkocjgjaaPWalGetsx15
import Derived.Test.YtdanmjfkocjgjaaPWalGetsx16
import Derived.Test.YtdanmjfkocjgjaaPWalGetsx17
import Derived.Test.YtdanmjfkocjgjaaPWalGetsx18
import Derived.Test.YtdanmjfkocjgjaaPWalGetsx19
import Derived.Test.YtdanmjfkocjgjaaPWalGetsx20
import Derived.Test.YtdanmjfkocjgjaaPWalGetsx21
import Derived.Test.YtdanmjfkocjgjaaPWalGetsx22
import Derived.Test.YtdanmjfkocjgjaaPWalGetsx23
import Derived.Test.YtdanmjfkocjgjaaPWalGetsx24
import Derived.Test.YtdanmjfkocjgjaaQOpens
namespace Go.Proofs.Ytdanmjfkocjgjaa.StWalGets
open Go.RowKit Go.Proofs.Ytdanmjfkocjgjaa.PWalGets Go.Proofs.Ytdanmjfkocjgjaa.U Go.Proofs.YtdanmjfkocjgjaaW.PrintWords Go.Proofs.YtdanmjfkocjgjaaW.PrintLast Go.Proofs.YtdanmjfkocjgjaaW.PrintMore
set_option maxRecDepth 100000
theorem op3 : Opens Try.prog 3 (Kd.int .i64) (fun n => (Lit.int .i64 n).wf = true) := opens_int Try.underlying3
theorem op5 : Opens Try.prog 5 (Kd.int .u8) (fun n => (Lit.int .u8 n).wf = true) := opens_int Try.underlying5
theorem op22 : Opens Try.prog 22 (Kd.slice 5 (Kd.int .u8)) (fun xs => xs.length ≤ maxLen ∧ xs.length * 1 ≤ 140737488351232 ∧ ∀ y ∈ xs, (Lit.int .u8 y).wf = true) := opens_slice Try.underlying22 op5 (by kernel_rfl) (by kernel_rfl)
theorem op24f : Opens Try.prog 24 (Kd.pair (Kd.int .i64) (Kd.slice 5 (Kd.int .u8))) (fun x => ((Lit.int .i64 x.1).wf = true) ∧ (x.2.length ≤ maxLen ∧ x.2.length * 1 ≤ 140737488351232 ∧ ∀ y ∈ x.2, (Lit.int .u8 y).wf = true)) := opens_imp (opens_struct Try.underlying24 (by kernel_rfl) (opensF_cons op3 rfl (by kernel_rfl) (opensF_last op22 rfl (by kernel_rfl)))) (fun _ h => h)
/-- The one pure statement. -/
def Pure : Prop := ∀ (a0_0 : Int) (l0_1 : List Int), (Lit.int .i64 a0_0).wf = true → l0_1.length ≤ maxLen → l0_1.length * 1 ≤ 140737488351232 → (∀ y ∈ l0_1, (Lit.int .u8 y).wf = true) → ∃ k, garnerlaw24_WalGets.f k a0_0 l0_1 = some true
end Go.Proofs.Ytdanmjfkocjgjaa.StWalGets
