/- The law NameAll: each of its parameters' types opened, and the one pure statement that is left of it. -/
import Derived.Test.YtlcajceefhgalaaPNameAllx0
import Derived.Test.YtlcajceefhgalaaPNameAllx1
import Derived.Test.YtlcajceefhgalaaPNameAllx2
import Derived.Test.YtlcajceefhgalaaPNameAllx3
import Derived.Test.YtlcajceefhgalaaPNameAllx4
import Derived.Test.YtlcajceefhgalaaPNameAllx5
import Derived.Test.YtlcajceefhgalaaQOpens
namespace Go.Proofs.Ytlcajceefhgalaa.StNameAll
open Go.RowKit Go.Proofs.Ytlcajceefhgalaa.PNameAll Go.Proofs.Ytlcajceefhgalaa.U Go.Proofs.YtlcajceefhgalaaW.PrintWords Go.Proofs.YtlcajceefhgalaaW.PrintLast Go.Proofs.YtlcajceefhgalaaW.PrintMore
set_option maxRecDepth 100000
theorem op9 : Opens Try.prog 9 Kd.string (fun s => s.size ≤ 140737488351232) := opens_string Try.underlying9
/-- The one pure statement. -/
def Pure : Prop := ∀ (l0 : List ByteArray) (a1 : Int), l0.length ≤ maxLen → l0.length * 16 ≤ 140737488351232 → (∀ y ∈ l0, y.size ≤ 140737488351232) → (Lit.int .i64 a1).wf = true → ∃ k, garnerlaw07_NameAll.f k l0 a1 = some true
end Go.Proofs.Ytlcajceefhgalaa.StNameAll
