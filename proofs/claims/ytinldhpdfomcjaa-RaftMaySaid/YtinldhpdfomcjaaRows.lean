/-
  No cell of these rows narrows 'for every input' (looked for: loops, veiled, ifaces, maps, wideKeys, modest, calm, conditions, laid).
  DERIVED. THE GIVEN ROWS OF THIS SEAT. 3 by the template 'for every input the law returns true; each argument reads behind the call as it read before'; 0 by the template 'total and deterministic' (their statements: YtinldhpdfomcjaaTotals.lean).
  GIVEN WITH THE SEED: the statements are not yours to turn. If you find one false, say at which input.
  Laid BY PROGRAM, IN A SANDBOX (cutbox-rows.mjs): the forced cells as the released guide's own fill.sh prints them over the translation 43511abe217270ff… (all of the seat's roots in one cut). By AI agents, Wed Nov 11 2026. No macro, syntax, notation, axiom, sorry.
-/
import Derived.Test.YtinldhpdfomcjaaChecked
import GoSem.Claim
import GoSem.ClaimJoined
import GoSem.ClaimMapViews
import Derived.JoinedTies
import Derived.KernelRfl
namespace Go.Proofs.Ytinldhpdfomcjaa
/- THE CELL 'sum', in the pinned program and in every row, IS THE sha256 OF THE DUMP (.gsa) THAT YtinldhpdfomcjaaProg.lean LOADS. Nothing in Lean hashes anything: it is a label: what it is worth is what the hold of that sum in a sandbox is worth. -/
noncomputable def Try.pinned : Pinned := { name := "ytinldhpdfomcjaa", sum := "43511abe217270ffd734903317838dbd747d3d7d14c71b7542a84d3f5f341b91", checked := Try.checked }
namespace Rows
def none {H : Type} : Left H := { results := [], args := [] }

/-- 'garnerlaw23.RaftParts': WHATEVER THE INPUT: true; the input reads as it did. -/
def raftPartsSpec : ChangeSpec := { name := "raftParts", fn := fun _ => fun
  | [d1, d2, d3] => { results := [.lit (.bool true)], args := [d1, d2, d3] }
  | _ => none }
def raftPartsRow : OpenClaim := { program := "ytinldhpdfomcjaa", sum := "43511abe217270ffd734903317838dbd747d3d7d14c71b7542a84d3f5f341b91", func := "garner/garnerlaw23.RaftParts", spec := "raftParts", apart := false }
def RaftPartsSaid : Prop := raftPartsRow.holds Try.pinned (OpenSpec.ofChange raftPartsSpec)

/-- ITS FALSE NEIGHBOUR: 'it returns false'. Refute it at one input. -/
def raftPartsWrong : ChangeSpec := { name := "raftParts", fn := fun _ => fun
  | [d1, d2, d3] => { results := [.lit (.bool false)], args := [d1, d2, d3] }
  | _ => none }
def RaftPartsWrongFalsely : Prop := raftPartsRow.holds Try.pinned (OpenSpec.ofChange raftPartsWrong)

/-- 'garnerlaw23.RaftMay': WHATEVER THE INPUT: true; the input reads as it did. -/
def raftMaySpec : ChangeSpec := { name := "raftMay", fn := fun _ => fun
  | [d] => { results := [.lit (.bool true)], args := [d] }
  | _ => none }
def raftMayRow : OpenClaim := { program := "ytinldhpdfomcjaa", sum := "43511abe217270ffd734903317838dbd747d3d7d14c71b7542a84d3f5f341b91", func := "garner/garnerlaw23.RaftMay", spec := "raftMay", apart := false }
def RaftMaySaid : Prop := raftMayRow.holds Try.pinned (OpenSpec.ofChange raftMaySpec)

/-- ITS FALSE NEIGHBOUR: 'it returns false'. Refute it at one input. -/
def raftMayWrong : ChangeSpec := { name := "raftMay", fn := fun _ => fun
  | [d] => { results := [.lit (.bool false)], args := [d] }
  | _ => none }
def RaftMayWrongFalsely : Prop := raftMayRow.holds Try.pinned (OpenSpec.ofChange raftMayWrong)

/-- 'garnerlaw23.RaftTurns': WHATEVER THE INPUT: true; the input reads as it did. -/
def raftTurnsSpec : ChangeSpec := { name := "raftTurns", fn := fun _ => fun
  | [d1, d2, d3] => { results := [.lit (.bool true)], args := [d1, d2, d3] }
  | _ => none }
def raftTurnsRow : OpenClaim := { program := "ytinldhpdfomcjaa", sum := "43511abe217270ffd734903317838dbd747d3d7d14c71b7542a84d3f5f341b91", func := "garner/garnerlaw23.RaftTurns", spec := "raftTurns", apart := false }
def RaftTurnsSaid : Prop := raftTurnsRow.holds Try.pinned (OpenSpec.ofChange raftTurnsSpec)

/-- ITS FALSE NEIGHBOUR: 'it returns false'. Refute it at one input. -/
def raftTurnsWrong : ChangeSpec := { name := "raftTurns", fn := fun _ => fun
  | [d1, d2, d3] => { results := [.lit (.bool false)], args := [d1, d2, d3] }
  | _ => none }
def RaftTurnsWrongFalsely : Prop := raftTurnsRow.holds Try.pinned (OpenSpec.ofChange raftTurnsWrong)

/- THE SECOND FORM. 'bulk': how many values and letters a reading holds, each counted each time it is reached (what is shared counts as often as it is met; a slice's spare places count too). A statement '..UptoSaid' is the law's where the arguments, and the package variables that the reading takes, are together of bulk at most 1048576: NARROWER than '..Said'. Prove '..Said' where nothing that the law and all that it calls make is longer than what came in: it says more and counts as full. Else prove '..UptoSaid'. A law counts once. -/
mutual
def uptoBulk {H : Type} : DataW H → Nat
  | .lit (.string bytes) => bytes.length + 1
  | .lit _ => 1
  | .nil => 1
  | .ptr d => uptoBulk d + 1
  | .slice elems spare => uptoBulkAll elems + uptoBulkAll spare + 1
  | .agg parts => uptoBulkAll parts + 1
  | .iface _ d => uptoBulk d + 1
  | .map entries => uptoBulkEntries entries + 1
  | .held _ => 1
def uptoBulkAll {H : Type} : List (DataW H) → Nat
  | [] => 0
  | d :: r => uptoBulk d + uptoBulkAll r
def uptoBulkEntries {H : Type} : List (Lit × DataW H) → Nat
  | [] => 0
  | x :: r => uptoBulkEntry x + uptoBulkEntries r
def uptoBulkEntry {H : Type} : Lit × DataW H → Nat
  | (.string bytes, d) => bytes.length + uptoBulk d + 1
  | (_, d) => uptoBulk d + 1
 end
def uptoSmall : (H : Type) → List (DataW H) → Bool := fun _ ds => decide (uptoBulkAll ds ≤ 1048576)
def OpenSpec.upto (s : _root_.Go.ChangeSpec) : _root_.Go.OpenSpec := { _root_.Go.OpenSpec.ofChange s with cond := some uptoSmall }

/-- 'garnerlaw23.RaftParts', WHERE WHAT IT READS IS OF BULK AT MOST 1048576: true; the input reads as it did. -/
def raftPartsUptoRow : OpenClaim := { program := "ytinldhpdfomcjaa", sum := "43511abe217270ffd734903317838dbd747d3d7d14c71b7542a84d3f5f341b91", func := "garner/garnerlaw23.RaftParts", spec := "raftParts", apart := false, narrowed := true }
def RaftPartsUptoSaid : Prop := raftPartsUptoRow.holds Try.pinned (OpenSpec.upto raftPartsSpec)

/-- 'garnerlaw23.RaftMay', WHERE WHAT IT READS IS OF BULK AT MOST 1048576: true; the input reads as it did. -/
def raftMayUptoRow : OpenClaim := { program := "ytinldhpdfomcjaa", sum := "43511abe217270ffd734903317838dbd747d3d7d14c71b7542a84d3f5f341b91", func := "garner/garnerlaw23.RaftMay", spec := "raftMay", apart := false, narrowed := true }
def RaftMayUptoSaid : Prop := raftMayUptoRow.holds Try.pinned (OpenSpec.upto raftMaySpec)

/-- 'garnerlaw23.RaftTurns', WHERE WHAT IT READS IS OF BULK AT MOST 1048576: true; the input reads as it did. -/
def raftTurnsUptoRow : OpenClaim := { program := "ytinldhpdfomcjaa", sum := "43511abe217270ffd734903317838dbd747d3d7d14c71b7542a84d3f5f341b91", func := "garner/garnerlaw23.RaftTurns", spec := "raftTurns", apart := false, narrowed := true }
def RaftTurnsUptoSaid : Prop := raftTurnsUptoRow.holds Try.pinned (OpenSpec.upto raftTurnsSpec)

end Rows
end Go.Proofs.Ytinldhpdfomcjaa
