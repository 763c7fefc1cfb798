/- The pure statement of the law LivePuts: what the printed functions answer, each by its plain law, and that the law's answer is true. -/
import Derived.Test.YtpefjfibhjnijaaPLivePutsx0
import Derived.Test.YtpefjfibhjnijaaPLivePutsx4
import Derived.Test.YtpefjfibhjnijaaPLivePutsx5
import Derived.Test.YtpefjfibhjnijaaPLivePutsx7
import Derived.Test.YtpefjfibhjnijaaPLivePutsx9
import Derived.Test.YtpefjfibhjnijaaPLivePutsx16
import Derived.Test.YtpefjfibhjnijaaPLivePutsx17
import Derived.Test.YtpefjfibhjnijaaPLivePutsx18
import Derived.Test.YtpefjfibhjnijaaPLivePutsx19
import Derived.Test.YtpefjfibhjnijaaPLivePutsx20
import Derived.Test.YtpefjfibhjnijaaPLivePutsx21
import Derived.Test.YtpefjfibhjnijaaStLivePuts
import Derived.Test.YtpefjfibhjnijaaQSz
import Derived.Test.YtpefjfibhjnijaaQV02
namespace Go.Proofs.Ytpefjfibhjnijaa.Pure
open Go.RowKit Go.Proofs.Ytpefjfibhjnijaa.PLivePuts Go.Proofs.Ytpefjfibhjnijaa.U Go.Proofs.YtpefjfibhjnijaaW.PrintWords Go.Proofs.YtpefjfibhjnijaaW.PrintLast Go.Proofs.YtpefjfibhjnijaaW.PrintMore
set_option linter.unusedVariables false
set_option linter.unusedSimpArgs false
set_option maxRecDepth 4000
theorem LivePuts : StLivePuts.Pure := by
 intro l0 l1 a b _ _ _ _ _ _ h3 h4
 refine ⟨0, ?_⟩
 unfold garnerlaw28_LivePuts.f
 rw [if_pos (show okK (a, b) from ⟨h3, h4⟩)]
end Go.Proofs.Ytpefjfibhjnijaa.Pure
