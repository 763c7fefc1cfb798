/- The pure statement of the law LiveNobody: what the printed functions answer, each by its plain law, and that the law's answer is true. -/
import Derived.Test.YtpefjfibhjnijaaPLiveNobodyx0
import Derived.Test.YtpefjfibhjnijaaPLiveNobodyx4
import Derived.Test.YtpefjfibhjnijaaPLiveNobodyx5
import Derived.Test.YtpefjfibhjnijaaPLiveNobodyx7
import Derived.Test.YtpefjfibhjnijaaPLiveNobodyx9
import Derived.Test.YtpefjfibhjnijaaPLiveNobodyx18
import Derived.Test.YtpefjfibhjnijaaStLiveNobody
import Derived.Test.YtpefjfibhjnijaaQSz
import Derived.Test.YtpefjfibhjnijaaQV02
namespace Go.Proofs.Ytpefjfibhjnijaa.Pure
open Go.RowKit Go.Proofs.Ytpefjfibhjnijaa.PLiveNobody Go.Proofs.Ytpefjfibhjnijaa.U Go.Proofs.YtpefjfibhjnijaaW.PrintWords Go.Proofs.YtpefjfibhjnijaaW.PrintLast Go.Proofs.YtpefjfibhjnijaaW.PrintMore
set_option linter.unusedVariables false
set_option linter.unusedSimpArgs false
set_option maxRecDepth 4000
theorem LiveNobody : StLiveNobody.Pure := by
 intro a b c d h1 h2 h3 h4
 refine ⟨0, ?_⟩
 unfold garnerlaw28_LiveNobody.f
 rw [if_pos (show okK (a, b) from ⟨h1, h2⟩)]
end Go.Proofs.Ytpefjfibhjnijaa.Pure
