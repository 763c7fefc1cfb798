/- The law SegReads: each of its parameters' types opened, and the one pure statement that is left of it. -/
import Derived.Test.YtpabjefogbkhpaaPSegReadsx0
import Derived.Test.YtpabjefogbkhpaaPSegReadsx1
import Derived.Test.YtpabjefogbkhpaaPSegReadsx2
import Derived.Test.YtpabjefogbkhpaaPSegReadsx3
import Derived.Test.YtpabjefogbkhpaaPSegReadsx4
import Derived.Test.YtpabjefogbkhpaaPSegReadsx5
import Derived.Test.YtpabjefogbkhpaaPSegReadsx6
import Derived.Test.YtpabjefogbkhpaaPSegReadsx7
import Derived.Test.YtpabjefogbkhpaaPSegReadsx8
import Derived.Test.YtpabjefogbkhpaaPSegReadsx9
import Derived.Test.YtpabjefogbkhpaaPSegReadsx10
import Derived.Test.YtpabjefogbkhpaaPSegReadsx11
import Derived.Test.YtpabjefogbkhpaaPSegReadsx12
import Derived.Test.YtpabjefogbkhpaaOpens
namespace Go.Proofs.Ytpabjefogbkhpaa.StSegReads
open Go.RowKit Go.Proofs.Ytpabjefogbkhpaa.PSegReads Go.Proofs.Ytpabjefogbkhpaa.U Go.Proofs.YtpabjefogbkhpaaW.PrintWords Go.Proofs.YtpabjefogbkhpaaW.PrintLast Go.Proofs.YtpabjefogbkhpaaW.PrintMore
set_option maxRecDepth 100000
theorem op5 : Opens Try.prog 5 (Kd.int .u8) (fun n => (Lit.int .u8 n).wf = true) := opens_int Try.underlying5
theorem op25 : Opens Try.prog 25 (Kd.slice 5 (Kd.int .u8)) (fun xs => xs.length ≤ maxLen ∧ xs.length * 1 ≤ 140737488351232 ∧ ∀ y ∈ xs, (Lit.int .u8 y).wf = true) := opens_slice Try.underlying25 op5 (by kernel_rfl) (by kernel_rfl)
/-- The one pure statement. -/
def Pure : Prop := ∀ (l0 : List (List Int)) (a1 : Int) (l2 : List Int), l0.length ≤ maxLen → l0.length * 24 ≤ 140737488351232 → (∀ y ∈ l0, y.length ≤ maxLen ∧ y.length * 1 ≤ 140737488351232 ∧ ∀ z ∈ y, (Lit.int .u8 z).wf = true) → (Lit.int .u16 a1).wf = true → l2.length ≤ maxLen → l2.length * 1 ≤ 140737488351232 → (∀ y ∈ l2, (Lit.int .u8 y).wf = true) → ∃ k, garnerlaw19_SegReads.f k l0 a1 l2 = some true
end Go.Proofs.Ytpabjefogbkhpaa.StSegReads
