/- The plain law of layers 5 and 6: cells, entries and batches, which there may be, and their bytes; no program in sight. -/
import Derived.Test.YtangfpcifdpfeaaQV04
import Derived.Test.YtangfpcifdpfeaaQV07
namespace Go.Proofs.Ytangfpcifdpfeaa.U
open Go.RowKit Go.Proofs.YtangfpcifdpfeaaW.PrintWords Go.Proofs.YtangfpcifdpfeaaW.PrintMore
structure Ent where
  i : Int
  t : Int
  k : Int
  key : ByteArray
  far : Bool
  b : List Int
  s : Int
  a : Int
  n : Int
  u : Int
def lightN (l : List Ent) : Bool := decide (l.length ≤ 40) && l.all fun e => decide (e.key.size ≤ 200 ∧ e.b.length ≤ 200)
end Go.Proofs.Ytangfpcifdpfeaa.U
