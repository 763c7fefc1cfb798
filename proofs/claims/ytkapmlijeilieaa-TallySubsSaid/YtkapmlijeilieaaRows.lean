/-
  No cell of these rows narrows 'for every input' (looked for: loops, veiled, ifaces, maps, wideKeys, modest, calm, conditions, laid).
  DERIVED. THE GIVEN ROWS OF THIS SEAT. 4 by the template 'for every input the law returns true; each argument reads behind the call as it read before'; 0 by the template 'total and deterministic' (their statements: YtkapmlijeilieaaTotals.lean).
  GIVEN WITH THE SEED: the statements are not yours to turn. If you find one false, say at which input.
  Laid BY PROGRAM, IN A SANDBOX (cutbox-rows.mjs): the forced cells as the released guide's own fill.sh prints them over the translation 66fa28ce4c32b276… (all of the seat's roots in one cut). By AI agents, Wed Nov 11 2026. No macro, syntax, notation, axiom, sorry.
-/
import Derived.Test.YtkapmlijeilieaaChecked
import GoSem.Claim
import GoSem.ClaimJoined
import GoSem.ClaimMapViews
import Derived.JoinedTies
import Derived.KernelRfl
namespace Go.Proofs.Ytkapmlijeilieaa
/- THE CELL 'sum', in the pinned program and in every row, IS THE sha256 OF THE DUMP (.gsa) THAT YtkapmlijeilieaaProg.lean LOADS. Nothing in Lean hashes anything: it is a label: what it is worth is what the hold of that sum in a sandbox is worth. -/
noncomputable def Try.pinned : Pinned := { name := "ytkapmlijeilieaa", sum := "66fa28ce4c32b2765a86a005759569862aea5f8597160f49ee951492cd64aa2a", checked := Try.checked }
namespace Rows
def none {H : Type} : Left H := { results := [], args := [] }

/-- 'garnerlaw09.TallyAdds': WHATEVER THE INPUT: true; the input reads as it did. -/
def tallyAddsSpec : ChangeSpec := { name := "tallyAdds", fn := fun _ => fun
  | [d1, d2, d3] => { results := [.lit (.bool true)], args := [d1, d2, d3] }
  | _ => none }
def tallyAddsRow : OpenClaim := { program := "ytkapmlijeilieaa", sum := "66fa28ce4c32b2765a86a005759569862aea5f8597160f49ee951492cd64aa2a", func := "garner/garnerlaw09.TallyAdds", spec := "tallyAdds", inPlace := ["slices.overlaps[garner/api.Share]"], unfollowed := true, recurses := true, apart := false }
def TallyAddsSaid : Prop := tallyAddsRow.holds Try.pinned (OpenSpec.ofChange tallyAddsSpec)

/-- ITS FALSE NEIGHBOUR: 'it returns false'. Refute it at one input. -/
def tallyAddsWrong : ChangeSpec := { name := "tallyAdds", fn := fun _ => fun
  | [d1, d2, d3] => { results := [.lit (.bool false)], args := [d1, d2, d3] }
  | _ => none }
def TallyAddsWrongFalsely : Prop := tallyAddsRow.holds Try.pinned (OpenSpec.ofChange tallyAddsWrong)

/-- 'garnerlaw09.TallyJoins': WHATEVER THE INPUT: true; the input reads as it did. -/
def tallyJoinsSpec : ChangeSpec := { name := "tallyJoins", fn := fun _ => fun
  | [d1, d2, d3] => { results := [.lit (.bool true)], args := [d1, d2, d3] }
  | _ => none }
def tallyJoinsRow : OpenClaim := { program := "ytkapmlijeilieaa", sum := "66fa28ce4c32b2765a86a005759569862aea5f8597160f49ee951492cd64aa2a", func := "garner/garnerlaw09.TallyJoins", spec := "tallyJoins", inPlace := ["slices.overlaps[garner/api.Share]"], unfollowed := true, recurses := true, apart := false }
def TallyJoinsSaid : Prop := tallyJoinsRow.holds Try.pinned (OpenSpec.ofChange tallyJoinsSpec)

/-- ITS FALSE NEIGHBOUR: 'it returns false'. Refute it at one input. -/
def tallyJoinsWrong : ChangeSpec := { name := "tallyJoins", fn := fun _ => fun
  | [d1, d2, d3] => { results := [.lit (.bool false)], args := [d1, d2, d3] }
  | _ => none }
def TallyJoinsWrongFalsely : Prop := tallyJoinsRow.holds Try.pinned (OpenSpec.ofChange tallyJoinsWrong)

/-- 'garnerlaw09.TallySubs': WHATEVER THE INPUT: true; the input reads as it did. -/
def tallySubsSpec : ChangeSpec := { name := "tallySubs", fn := fun _ => fun
  | [d1, d2] => { results := [.lit (.bool true)], args := [d1, d2] }
  | _ => none }
def tallySubsRow : OpenClaim := { program := "ytkapmlijeilieaa", sum := "66fa28ce4c32b2765a86a005759569862aea5f8597160f49ee951492cd64aa2a", func := "garner/garnerlaw09.TallySubs", spec := "tallySubs", inPlace := ["slices.overlaps[garner/api.Share]"], unfollowed := true, recurses := true, apart := false }
def TallySubsSaid : Prop := tallySubsRow.holds Try.pinned (OpenSpec.ofChange tallySubsSpec)

/-- ITS FALSE NEIGHBOUR: 'it returns false'. Refute it at one input. -/
def tallySubsWrong : ChangeSpec := { name := "tallySubs", fn := fun _ => fun
  | [d1, d2] => { results := [.lit (.bool false)], args := [d1, d2] }
  | _ => none }
def TallySubsWrongFalsely : Prop := tallySubsRow.holds Try.pinned (OpenSpec.ofChange tallySubsWrong)

/-- 'garnerlaw09.TallyBack': WHATEVER THE INPUT: true; the input reads as it did. -/
def tallyBackSpec : ChangeSpec := { name := "tallyBack", fn := fun _ => fun
  | [d1, d2] => { results := [.lit (.bool true)], args := [d1, d2] }
  | _ => none }
def tallyBackRow : OpenClaim := { program := "ytkapmlijeilieaa", sum := "66fa28ce4c32b2765a86a005759569862aea5f8597160f49ee951492cd64aa2a", func := "garner/garnerlaw09.TallyBack", spec := "tallyBack", inPlace := ["slices.overlaps[garner/api.Share]"], unfollowed := true, recurses := true, apart := false }
def TallyBackSaid : Prop := tallyBackRow.holds Try.pinned (OpenSpec.ofChange tallyBackSpec)

/-- ITS FALSE NEIGHBOUR: 'it returns false'. Refute it at one input. -/
def tallyBackWrong : ChangeSpec := { name := "tallyBack", fn := fun _ => fun
  | [d1, d2] => { results := [.lit (.bool false)], args := [d1, d2] }
  | _ => none }
def TallyBackWrongFalsely : Prop := tallyBackRow.holds Try.pinned (OpenSpec.ofChange tallyBackWrong)

/- THE SECOND FORM. 'bulk': how many values and letters a reading holds, each counted each time it is reached (what is shared counts as often as it is met; a slice's spare places count too). A statement '..UptoSaid' is the law's where the arguments, and the package variables that the reading takes, are together of bulk at most 1048576: NARROWER than '..Said'. Prove '..Said' where nothing that the law and all that it calls make is longer than what came in: it says more and counts as full. Else prove '..UptoSaid'. A law counts once. -/
mutual
def uptoBulk {H : Type} : DataW H → Nat
  | .lit (.string bytes) => bytes.length + 1
  | .lit _ => 1
  | .nil => 1
  | .ptr d => uptoBulk d + 1
  | .slice elems spare => uptoBulkAll elems + uptoBulkAll spare + 1
  | .agg parts => uptoBulkAll parts + 1
  | .iface _ d => uptoBulk d + 1
  | .map entries => uptoBulkEntries entries + 1
  | .held _ => 1
def uptoBulkAll {H : Type} : List (DataW H) → Nat
  | [] => 0
  | d :: r => uptoBulk d + uptoBulkAll r
def uptoBulkEntries {H : Type} : List (Lit × DataW H) → Nat
  | [] => 0
  | x :: r => uptoBulkEntry x + uptoBulkEntries r
def uptoBulkEntry {H : Type} : Lit × DataW H → Nat
  | (.string bytes, d) => bytes.length + uptoBulk d + 1
  | (_, d) => uptoBulk d + 1
 end
def uptoSmall : (H : Type) → List (DataW H) → Bool := fun _ ds => decide (uptoBulkAll ds ≤ 1048576)
def OpenSpec.upto (s : _root_.Go.ChangeSpec) : _root_.Go.OpenSpec := { _root_.Go.OpenSpec.ofChange s with cond := some uptoSmall }

/-- 'garnerlaw09.TallyAdds', WHERE WHAT IT READS IS OF BULK AT MOST 1048576: true; the input reads as it did. -/
def tallyAddsUptoRow : OpenClaim := { program := "ytkapmlijeilieaa", sum := "66fa28ce4c32b2765a86a005759569862aea5f8597160f49ee951492cd64aa2a", func := "garner/garnerlaw09.TallyAdds", spec := "tallyAdds", inPlace := ["slices.overlaps[garner/api.Share]"], unfollowed := true, recurses := true, apart := false, narrowed := true }
def TallyAddsUptoSaid : Prop := tallyAddsUptoRow.holds Try.pinned (OpenSpec.upto tallyAddsSpec)

/-- 'garnerlaw09.TallyJoins', WHERE WHAT IT READS IS OF BULK AT MOST 1048576: true; the input reads as it did. -/
def tallyJoinsUptoRow : OpenClaim := { program := "ytkapmlijeilieaa", sum := "66fa28ce4c32b2765a86a005759569862aea5f8597160f49ee951492cd64aa2a", func := "garner/garnerlaw09.TallyJoins", spec := "tallyJoins", inPlace := ["slices.overlaps[garner/api.Share]"], unfollowed := true, recurses := true, apart := false, narrowed := true }
def TallyJoinsUptoSaid : Prop := tallyJoinsUptoRow.holds Try.pinned (OpenSpec.upto tallyJoinsSpec)

/-- 'garnerlaw09.TallySubs', WHERE WHAT IT READS IS OF BULK AT MOST 1048576: true; the input reads as it did. -/
def tallySubsUptoRow : OpenClaim := { program := "ytkapmlijeilieaa", sum := "66fa28ce4c32b2765a86a005759569862aea5f8597160f49ee951492cd64aa2a", func := "garner/garnerlaw09.TallySubs", spec := "tallySubs", inPlace := ["slices.overlaps[garner/api.Share]"], unfollowed := true, recurses := true, apart := false, narrowed := true }
def TallySubsUptoSaid : Prop := tallySubsUptoRow.holds Try.pinned (OpenSpec.upto tallySubsSpec)

/-- 'garnerlaw09.TallyBack', WHERE WHAT IT READS IS OF BULK AT MOST 1048576: true; the input reads as it did. -/
def tallyBackUptoRow : OpenClaim := { program := "ytkapmlijeilieaa", sum := "66fa28ce4c32b2765a86a005759569862aea5f8597160f49ee951492cd64aa2a", func := "garner/garnerlaw09.TallyBack", spec := "tallyBack", inPlace := ["slices.overlaps[garner/api.Share]"], unfollowed := true, recurses := true, apart := false, narrowed := true }
def TallyBackUptoSaid : Prop := tallyBackUptoRow.holds Try.pinned (OpenSpec.upto tallyBackSpec)

end Rows
end Go.Proofs.Ytkapmlijeilieaa
