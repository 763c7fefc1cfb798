/-
  No cell of these rows narrows 'for every input' (looked for: loops, veiled, ifaces, maps, wideKeys, modest, calm, conditions, laid).
  DERIVED. THE GIVEN ROWS OF THIS SEAT. 3 by the template 'for every input the law returns true; each argument reads behind the call as it read before'; 0 by the template 'total and deterministic' (their statements: YtmcijphmcobjlaaTotals.lean).
  GIVEN WITH THE SEED: the statements are not yours to turn. If you find one false, say at which input.
  Laid BY PROGRAM, IN A SANDBOX (cutbox-rows.mjs): the forced cells as the released guide's own fill.sh prints them over the translation 0643bec5166eb3f6… (all of the seat's roots in one cut). By AI agents, Wed Nov 11 2026. No macro, syntax, notation, axiom, sorry.
-/
import Derived.Test.YtmcijphmcobjlaaChecked
import GoSem.Claim
import GoSem.ClaimJoined
import GoSem.ClaimMapViews
import Derived.JoinedTies
import Derived.KernelRfl
namespace Go.Proofs.Ytmcijphmcobjlaa
/- THE CELL 'sum', in the pinned program and in every row, IS THE sha256 OF THE DUMP (.gsa) THAT YtmcijphmcobjlaaProg.lean LOADS. Nothing in Lean hashes anything: it is a label: what it is worth is what the hold of that sum in a sandbox is worth. -/
noncomputable def Try.pinned : Pinned := { name := "ytmcijphmcobjlaa", sum := "0643bec5166eb3f688e7ca09dfc18d3d26682cb40773a8bf1d851cd2dd306502", checked := Try.checked }
namespace Rows
def none {H : Type} : Left H := { results := [], args := [] }

/-- 'garnerlaw24.WalMakes': WHATEVER THE INPUT: true; the input reads as it did. -/
def walMakesSpec : ChangeSpec := { name := "walMakes", fn := fun _ => fun
  | [d1, d2] => { results := [.lit (.bool true)], args := [d1, d2] }
  | _ => none }
def walMakesRow : OpenClaim := { program := "ytmcijphmcobjlaa", sum := "0643bec5166eb3f688e7ca09dfc18d3d26682cb40773a8bf1d851cd2dd306502", func := "garner/garnerlaw24.WalMakes", spec := "walMakes", unfollowed := true, recurses := true, apart := false }
def WalMakesSaid : Prop := walMakesRow.holds Try.pinned (OpenSpec.ofChange walMakesSpec)

/-- ITS FALSE NEIGHBOUR: 'it returns false'. Refute it at one input. -/
def walMakesWrong : ChangeSpec := { name := "walMakes", fn := fun _ => fun
  | [d1, d2] => { results := [.lit (.bool false)], args := [d1, d2] }
  | _ => none }
def WalMakesWrongFalsely : Prop := walMakesRow.holds Try.pinned (OpenSpec.ofChange walMakesWrong)

/-- 'garnerlaw24.WalRecs': WHATEVER THE INPUT: true; the input reads as it did. -/
def walRecsSpec : ChangeSpec := { name := "walRecs", fn := fun _ => fun
  | [d1, d2, d3] => { results := [.lit (.bool true)], args := [d1, d2, d3] }
  | _ => none }
def walRecsRow : OpenClaim := { program := "ytmcijphmcobjlaa", sum := "0643bec5166eb3f688e7ca09dfc18d3d26682cb40773a8bf1d851cd2dd306502", func := "garner/garnerlaw24.WalRecs", spec := "walRecs", unfollowed := true, recurses := true, apart := false }
def WalRecsSaid : Prop := walRecsRow.holds Try.pinned (OpenSpec.ofChange walRecsSpec)

/-- ITS FALSE NEIGHBOUR: 'it returns false'. Refute it at one input. -/
def walRecsWrong : ChangeSpec := { name := "walRecs", fn := fun _ => fun
  | [d1, d2, d3] => { results := [.lit (.bool false)], args := [d1, d2, d3] }
  | _ => none }
def WalRecsWrongFalsely : Prop := walRecsRow.holds Try.pinned (OpenSpec.ofChange walRecsWrong)

/-- 'garnerlaw24.WalAgain': WHATEVER THE INPUT: true; the input reads as it did. -/
def walAgainSpec : ChangeSpec := { name := "walAgain", fn := fun _ => fun
  | [d1, d2] => { results := [.lit (.bool true)], args := [d1, d2] }
  | _ => none }
def walAgainRow : OpenClaim := { program := "ytmcijphmcobjlaa", sum := "0643bec5166eb3f688e7ca09dfc18d3d26682cb40773a8bf1d851cd2dd306502", func := "garner/garnerlaw24.WalAgain", spec := "walAgain", unfollowed := true, recurses := true, apart := false }
def WalAgainSaid : Prop := walAgainRow.holds Try.pinned (OpenSpec.ofChange walAgainSpec)

/-- ITS FALSE NEIGHBOUR: 'it returns false'. Refute it at one input. -/
def walAgainWrong : ChangeSpec := { name := "walAgain", fn := fun _ => fun
  | [d1, d2] => { results := [.lit (.bool false)], args := [d1, d2] }
  | _ => none }
def WalAgainWrongFalsely : Prop := walAgainRow.holds Try.pinned (OpenSpec.ofChange walAgainWrong)

/- THE SECOND FORM. 'bulk': how many values and letters a reading holds, each counted each time it is reached (what is shared counts as often as it is met; a slice's spare places count too). A statement '..UptoSaid' is the law's where the arguments, and the package variables that the reading takes, are together of bulk at most 1048576: NARROWER than '..Said'. Prove '..Said' where nothing that the law and all that it calls make is longer than what came in: it says more and counts as full. Else prove '..UptoSaid'. A law counts once. -/
mutual
def uptoBulk {H : Type} : DataW H → Nat
  | .lit (.string bytes) => bytes.length + 1
  | .lit _ => 1
  | .nil => 1
  | .ptr d => uptoBulk d + 1
  | .slice elems spare => uptoBulkAll elems + uptoBulkAll spare + 1
  | .agg parts => uptoBulkAll parts + 1
  | .iface _ d => uptoBulk d + 1
  | .map entries => uptoBulkEntries entries + 1
  | .held _ => 1
def uptoBulkAll {H : Type} : List (DataW H) → Nat
  | [] => 0
  | d :: r => uptoBulk d + uptoBulkAll r
def uptoBulkEntries {H : Type} : List (Lit × DataW H) → Nat
  | [] => 0
  | x :: r => uptoBulkEntry x + uptoBulkEntries r
def uptoBulkEntry {H : Type} : Lit × DataW H → Nat
  | (.string bytes, d) => bytes.length + uptoBulk d + 1
  | (_, d) => uptoBulk d + 1
 end
def uptoSmall : (H : Type) → List (DataW H) → Bool := fun _ ds => decide (uptoBulkAll ds ≤ 1048576)
def OpenSpec.upto (s : _root_.Go.ChangeSpec) : _root_.Go.OpenSpec := { _root_.Go.OpenSpec.ofChange s with cond := some uptoSmall }

/-- 'garnerlaw24.WalMakes', WHERE WHAT IT READS IS OF BULK AT MOST 1048576: true; the input reads as it did. -/
def walMakesUptoRow : OpenClaim := { program := "ytmcijphmcobjlaa", sum := "0643bec5166eb3f688e7ca09dfc18d3d26682cb40773a8bf1d851cd2dd306502", func := "garner/garnerlaw24.WalMakes", spec := "walMakes", unfollowed := true, recurses := true, apart := false, narrowed := true }
def WalMakesUptoSaid : Prop := walMakesUptoRow.holds Try.pinned (OpenSpec.upto walMakesSpec)

/-- 'garnerlaw24.WalRecs', WHERE WHAT IT READS IS OF BULK AT MOST 1048576: true; the input reads as it did. -/
def walRecsUptoRow : OpenClaim := { program := "ytmcijphmcobjlaa", sum := "0643bec5166eb3f688e7ca09dfc18d3d26682cb40773a8bf1d851cd2dd306502", func := "garner/garnerlaw24.WalRecs", spec := "walRecs", unfollowed := true, recurses := true, apart := false, narrowed := true }
def WalRecsUptoSaid : Prop := walRecsUptoRow.holds Try.pinned (OpenSpec.upto walRecsSpec)

/-- 'garnerlaw24.WalAgain', WHERE WHAT IT READS IS OF BULK AT MOST 1048576: true; the input reads as it did. -/
def walAgainUptoRow : OpenClaim := { program := "ytmcijphmcobjlaa", sum := "0643bec5166eb3f688e7ca09dfc18d3d26682cb40773a8bf1d851cd2dd306502", func := "garner/garnerlaw24.WalAgain", spec := "walAgain", unfollowed := true, recurses := true, apart := false, narrowed := true }
def WalAgainUptoSaid : Prop := walAgainUptoRow.holds Try.pinned (OpenSpec.upto walAgainSpec)

end Rows
end Go.Proofs.Ytmcijphmcobjlaa
