/- The plain law of layer 7: a number's digits, and their order; no program in sight. -/
import Derived.Test.YtangfpcifdpfeaaQEv
import Derived.Tactics
namespace Go.Proofs.Ytangfpcifdpfeaa.U
open Go.RowKit Go.Proofs.YtangfpcifdpfeaaW.PrintWords
def freshB : List Int := [114, 111, 115, 116, 101, 114, 46, 110, 101, 119]
end Go.Proofs.Ytangfpcifdpfeaa.U
