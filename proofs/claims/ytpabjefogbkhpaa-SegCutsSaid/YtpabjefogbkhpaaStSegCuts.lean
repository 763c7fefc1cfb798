/- The law SegCuts: each of its parameters' types opened, and the one pure statement that is left of it. -/
import Derived.Test.YtpabjefogbkhpaaPSegCutsx0
import Derived.Test.YtpabjefogbkhpaaPSegCutsx1
import Derived.Test.YtpabjefogbkhpaaPSegCutsx2
import Derived.Test.YtpabjefogbkhpaaPSegCutsx3
import Derived.Test.YtpabjefogbkhpaaPSegCutsx4
import Derived.Test.YtpabjefogbkhpaaPSegCutsx5
import Derived.Test.YtpabjefogbkhpaaPSegCutsx6
import Derived.Test.YtpabjefogbkhpaaPSegCutsx7
import Derived.Test.YtpabjefogbkhpaaPSegCutsx8
import Derived.Test.YtpabjefogbkhpaaOpens
namespace Go.Proofs.Ytpabjefogbkhpaa.StSegCuts
open Go.RowKit Go.Proofs.Ytpabjefogbkhpaa.PSegCuts Go.Proofs.Ytpabjefogbkhpaa.U Go.Proofs.YtpabjefogbkhpaaW.PrintWords Go.Proofs.YtpabjefogbkhpaaW.PrintLast Go.Proofs.YtpabjefogbkhpaaW.PrintMore
set_option maxRecDepth 100000
theorem op5 : Opens Try.prog 5 (Kd.int .u8) (fun n => (Lit.int .u8 n).wf = true) := opens_int Try.underlying5
theorem op25 : Opens Try.prog 25 (Kd.slice 5 (Kd.int .u8)) (fun xs => xs.length ≤ maxLen ∧ xs.length * 1 ≤ 140737488351232 ∧ ∀ y ∈ xs, (Lit.int .u8 y).wf = true) := opens_slice Try.underlying25 op5 (by kernel_rfl) (by kernel_rfl)
/-- The one pure statement. -/
def Pure : Prop := ∀ (l0 : List (List Int)) (a1 : Int), l0.length ≤ maxLen → l0.length * 24 ≤ 140737488351232 → (∀ y ∈ l0, y.length ≤ maxLen ∧ y.length * 1 ≤ 140737488351232 ∧ ∀ z ∈ y, (Lit.int .u8 z).wf = true) → (Lit.int .u16 a1).wf = true → ∃ k, garnerlaw19_SegCuts.f k l0 a1 = some true
end Go.Proofs.Ytpabjefogbkhpaa.StSegCuts
