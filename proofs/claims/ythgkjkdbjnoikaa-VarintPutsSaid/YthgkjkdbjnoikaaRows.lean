/-
  No cell of these rows narrows 'for every input' (looked for: loops, veiled, ifaces, maps, wideKeys, modest, calm, conditions, laid).
  DERIVED. THE GIVEN ROWS OF THIS SEAT. 12 by the template 'for every input the law returns true; each argument reads behind the call as it read before'; 0 by the template 'total and deterministic' (their statements: YthgkjkdbjnoikaaTotals.lean).
  GIVEN WITH THE SEED: the statements are not yours to turn. If you find one false, say at which input.
  Laid BY PROGRAM, IN A SANDBOX (cutbox-rows.mjs): the forced cells as the released guide's own fill.sh prints them over the translation 42342db2ebb6f4e1… (all of the seat's roots in one cut). By AI agents, Wed Nov 11 2026. No macro, syntax, notation, axiom, sorry.
-/
import Derived.Test.YthgkjkdbjnoikaaChecked
import GoSem.Claim
import GoSem.ClaimJoined
import GoSem.ClaimMapViews
import Derived.JoinedTies
import Derived.KernelRfl
namespace Go.Proofs.Ythgkjkdbjnoikaa
/- THE CELL 'sum', in the pinned program and in every row, IS THE sha256 OF THE DUMP (.gsa) THAT YthgkjkdbjnoikaaProg.lean LOADS. Nothing in Lean hashes anything: it is a label: what it is worth is what the hold of that sum in a sandbox is worth. -/
noncomputable def Try.pinned : Pinned := { name := "ythgkjkdbjnoikaa", sum := "42342db2ebb6f4e10ffcf86ec80cf9fb1d45a2eb27880f7ac5c046d782f72f4a", checked := Try.checked }
namespace Rows
def none {H : Type} : Left H := { results := [], args := [] }

/-- 'garnerlaw07.NameOrders': WHATEVER THE INPUT: true; the input reads as it did. -/
def nameOrdersSpec : ChangeSpec := { name := "nameOrders", fn := fun _ => fun
  | [d1, d2, d3] => { results := [.lit (.bool true)], args := [d1, d2, d3] }
  | _ => none }
def nameOrdersRow : OpenClaim := { program := "ythgkjkdbjnoikaa", sum := "42342db2ebb6f4e10ffcf86ec80cf9fb1d45a2eb27880f7ac5c046d782f72f4a", func := "garner/garnerlaw07.NameOrders", spec := "nameOrders", apart := false }
def NameOrdersSaid : Prop := nameOrdersRow.holds Try.pinned (OpenSpec.ofChange nameOrdersSpec)

/-- ITS FALSE NEIGHBOUR: 'it returns false'. Refute it at one input. -/
def nameOrdersWrong : ChangeSpec := { name := "nameOrders", fn := fun _ => fun
  | [d1, d2, d3] => { results := [.lit (.bool false)], args := [d1, d2, d3] }
  | _ => none }
def NameOrdersWrongFalsely : Prop := nameOrdersRow.holds Try.pinned (OpenSpec.ofChange nameOrdersWrong)

/-- 'garnerlaw04.PointPuts': WHATEVER THE INPUT: true; the input reads as it did. -/
def pointPutsSpec : ChangeSpec := { name := "pointPuts", fn := fun _ => fun
  | [d] => { results := [.lit (.bool true)], args := [d] }
  | _ => none }
def pointPutsRow : OpenClaim := { program := "ythgkjkdbjnoikaa", sum := "42342db2ebb6f4e10ffcf86ec80cf9fb1d45a2eb27880f7ac5c046d782f72f4a", func := "garner/garnerlaw04.PointPuts", spec := "pointPuts", recurses := true, apart := false }
def PointPutsSaid : Prop := pointPutsRow.holds Try.pinned (OpenSpec.ofChange pointPutsSpec)

/-- ITS FALSE NEIGHBOUR: 'it returns false'. Refute it at one input. -/
def pointPutsWrong : ChangeSpec := { name := "pointPuts", fn := fun _ => fun
  | [d] => { results := [.lit (.bool false)], args := [d] }
  | _ => none }
def PointPutsWrongFalsely : Prop := pointPutsRow.holds Try.pinned (OpenSpec.ofChange pointPutsWrong)

/-- 'garnerlaw22.HardSteps': WHATEVER THE INPUT: true; the input reads as it did. -/
def hardStepsSpec : ChangeSpec := { name := "hardSteps", fn := fun _ => fun
  | [d1, d2, d3] => { results := [.lit (.bool true)], args := [d1, d2, d3] }
  | _ => none }
def hardStepsRow : OpenClaim := { program := "ythgkjkdbjnoikaa", sum := "42342db2ebb6f4e10ffcf86ec80cf9fb1d45a2eb27880f7ac5c046d782f72f4a", func := "garner/garnerlaw22.HardSteps", spec := "hardSteps", apart := false }
def HardStepsSaid : Prop := hardStepsRow.holds Try.pinned (OpenSpec.ofChange hardStepsSpec)

/-- ITS FALSE NEIGHBOUR: 'it returns false'. Refute it at one input. -/
def hardStepsWrong : ChangeSpec := { name := "hardSteps", fn := fun _ => fun
  | [d1, d2, d3] => { results := [.lit (.bool false)], args := [d1, d2, d3] }
  | _ => none }
def HardStepsWrongFalsely : Prop := hardStepsRow.holds Try.pinned (OpenSpec.ofChange hardStepsWrong)

/-- 'garnerlaw22.HardJoins': WHATEVER THE INPUT: true; the input reads as it did. -/
def hardJoinsSpec : ChangeSpec := { name := "hardJoins", fn := fun _ => fun
  | [d1, d2] => { results := [.lit (.bool true)], args := [d1, d2] }
  | _ => none }
def hardJoinsRow : OpenClaim := { program := "ythgkjkdbjnoikaa", sum := "42342db2ebb6f4e10ffcf86ec80cf9fb1d45a2eb27880f7ac5c046d782f72f4a", func := "garner/garnerlaw22.HardJoins", spec := "hardJoins", apart := false }
def HardJoinsSaid : Prop := hardJoinsRow.holds Try.pinned (OpenSpec.ofChange hardJoinsSpec)

/-- ITS FALSE NEIGHBOUR: 'it returns false'. Refute it at one input. -/
def hardJoinsWrong : ChangeSpec := { name := "hardJoins", fn := fun _ => fun
  | [d1, d2] => { results := [.lit (.bool false)], args := [d1, d2] }
  | _ => none }
def HardJoinsWrongFalsely : Prop := hardJoinsRow.holds Try.pinned (OpenSpec.ofChange hardJoinsWrong)

/-- 'garnerlaw02.VarintPrefix': WHATEVER THE INPUT: true; the input reads as it did. -/
def varintPrefixSpec : ChangeSpec := { name := "varintPrefix", fn := fun _ => fun
  | [d1, d2] => { results := [.lit (.bool true)], args := [d1, d2] }
  | _ => none }
def varintPrefixRow : OpenClaim := { program := "ythgkjkdbjnoikaa", sum := "42342db2ebb6f4e10ffcf86ec80cf9fb1d45a2eb27880f7ac5c046d782f72f4a", func := "garner/garnerlaw02.VarintPrefix", spec := "varintPrefix", apart := false }
def VarintPrefixSaid : Prop := varintPrefixRow.holds Try.pinned (OpenSpec.ofChange varintPrefixSpec)

/-- ITS FALSE NEIGHBOUR: 'it returns false'. Refute it at one input. -/
def varintPrefixWrong : ChangeSpec := { name := "varintPrefix", fn := fun _ => fun
  | [d1, d2] => { results := [.lit (.bool false)], args := [d1, d2] }
  | _ => none }
def VarintPrefixWrongFalsely : Prop := varintPrefixRow.holds Try.pinned (OpenSpec.ofChange varintPrefixWrong)

/-- 'garnerlaw02.VarintGets': WHATEVER THE INPUT: true; the input reads as it did. -/
def varintGetsSpec : ChangeSpec := { name := "varintGets", fn := fun _ => fun
  | [d1, d2] => { results := [.lit (.bool true)], args := [d1, d2] }
  | _ => none }
def varintGetsRow : OpenClaim := { program := "ythgkjkdbjnoikaa", sum := "42342db2ebb6f4e10ffcf86ec80cf9fb1d45a2eb27880f7ac5c046d782f72f4a", func := "garner/garnerlaw02.VarintGets", spec := "varintGets", recurses := true, apart := false }
def VarintGetsSaid : Prop := varintGetsRow.holds Try.pinned (OpenSpec.ofChange varintGetsSpec)

/-- ITS FALSE NEIGHBOUR: 'it returns false'. Refute it at one input. -/
def varintGetsWrong : ChangeSpec := { name := "varintGets", fn := fun _ => fun
  | [d1, d2] => { results := [.lit (.bool false)], args := [d1, d2] }
  | _ => none }
def VarintGetsWrongFalsely : Prop := varintGetsRow.holds Try.pinned (OpenSpec.ofChange varintGetsWrong)

/-- 'garnerlaw02.VarintPuts': WHATEVER THE INPUT: true; the input reads as it did. -/
def varintPutsSpec : ChangeSpec := { name := "varintPuts", fn := fun _ => fun
  | [d1, d2] => { results := [.lit (.bool true)], args := [d1, d2] }
  | _ => none }
def varintPutsRow : OpenClaim := { program := "ythgkjkdbjnoikaa", sum := "42342db2ebb6f4e10ffcf86ec80cf9fb1d45a2eb27880f7ac5c046d782f72f4a", func := "garner/garnerlaw02.VarintPuts", spec := "varintPuts", recurses := true, apart := false }
def VarintPutsSaid : Prop := varintPutsRow.holds Try.pinned (OpenSpec.ofChange varintPutsSpec)

/-- ITS FALSE NEIGHBOUR: 'it returns false'. Refute it at one input. -/
def varintPutsWrong : ChangeSpec := { name := "varintPuts", fn := fun _ => fun
  | [d1, d2] => { results := [.lit (.bool false)], args := [d1, d2] }
  | _ => none }
def VarintPutsWrongFalsely : Prop := varintPutsRow.holds Try.pinned (OpenSpec.ofChange varintPutsWrong)

/-- 'garnerlaw07.NameOf': WHATEVER THE INPUT: true; the input reads as it did. -/
def nameOfSpec : ChangeSpec := { name := "nameOf", fn := fun _ => fun
  | [d] => { results := [.lit (.bool true)], args := [d] }
  | _ => none }
def nameOfRow : OpenClaim := { program := "ythgkjkdbjnoikaa", sum := "42342db2ebb6f4e10ffcf86ec80cf9fb1d45a2eb27880f7ac5c046d782f72f4a", func := "garner/garnerlaw07.NameOf", spec := "nameOf", inPlace := ["internal/bytealg.IndexByteString"], apart := false }
def NameOfSaid : Prop := nameOfRow.holds Try.pinned (OpenSpec.ofChange nameOfSpec)

/-- ITS FALSE NEIGHBOUR: 'it returns false'. Refute it at one input. -/
def nameOfWrong : ChangeSpec := { name := "nameOf", fn := fun _ => fun
  | [d] => { results := [.lit (.bool false)], args := [d] }
  | _ => none }
def NameOfWrongFalsely : Prop := nameOfRow.holds Try.pinned (OpenSpec.ofChange nameOfWrong)

/-- 'garnerlaw07.NameParse': WHATEVER THE INPUT: true; the input reads as it did. -/
def nameParseSpec : ChangeSpec := { name := "nameParse", fn := fun _ => fun
  | [d] => { results := [.lit (.bool true)], args := [d] }
  | _ => none }
def nameParseRow : OpenClaim := { program := "ythgkjkdbjnoikaa", sum := "42342db2ebb6f4e10ffcf86ec80cf9fb1d45a2eb27880f7ac5c046d782f72f4a", func := "garner/garnerlaw07.NameParse", spec := "nameParse", inPlace := ["internal/bytealg.IndexByteString"], apart := false }
def NameParseSaid : Prop := nameParseRow.holds Try.pinned (OpenSpec.ofChange nameParseSpec)

/-- ITS FALSE NEIGHBOUR: 'it returns false'. Refute it at one input. -/
def nameParseWrong : ChangeSpec := { name := "nameParse", fn := fun _ => fun
  | [d] => { results := [.lit (.bool false)], args := [d] }
  | _ => none }
def NameParseWrongFalsely : Prop := nameParseRow.holds Try.pinned (OpenSpec.ofChange nameParseWrong)

/-- 'garnerlaw22.HardGets': WHATEVER THE INPUT: true; the input reads as it did. -/
def hardGetsSpec : ChangeSpec := { name := "hardGets", fn := fun _ => fun
  | [d] => { results := [.lit (.bool true)], args := [d] }
  | _ => none }
def hardGetsRow : OpenClaim := { program := "ythgkjkdbjnoikaa", sum := "42342db2ebb6f4e10ffcf86ec80cf9fb1d45a2eb27880f7ac5c046d782f72f4a", func := "garner/garnerlaw22.HardGets", spec := "hardGets", recurses := true, apart := false }
def HardGetsSaid : Prop := hardGetsRow.holds Try.pinned (OpenSpec.ofChange hardGetsSpec)

/-- ITS FALSE NEIGHBOUR: 'it returns false'. Refute it at one input. -/
def hardGetsWrong : ChangeSpec := { name := "hardGets", fn := fun _ => fun
  | [d] => { results := [.lit (.bool false)], args := [d] }
  | _ => none }
def HardGetsWrongFalsely : Prop := hardGetsRow.holds Try.pinned (OpenSpec.ofChange hardGetsWrong)

/-- 'garnerlaw22.HardPuts': WHATEVER THE INPUT: true; the input reads as it did. -/
def hardPutsSpec : ChangeSpec := { name := "hardPuts", fn := fun _ => fun
  | [d] => { results := [.lit (.bool true)], args := [d] }
  | _ => none }
def hardPutsRow : OpenClaim := { program := "ythgkjkdbjnoikaa", sum := "42342db2ebb6f4e10ffcf86ec80cf9fb1d45a2eb27880f7ac5c046d782f72f4a", func := "garner/garnerlaw22.HardPuts", spec := "hardPuts", recurses := true, apart := false }
def HardPutsSaid : Prop := hardPutsRow.holds Try.pinned (OpenSpec.ofChange hardPutsSpec)

/-- ITS FALSE NEIGHBOUR: 'it returns false'. Refute it at one input. -/
def hardPutsWrong : ChangeSpec := { name := "hardPuts", fn := fun _ => fun
  | [d] => { results := [.lit (.bool false)], args := [d] }
  | _ => none }
def HardPutsWrongFalsely : Prop := hardPutsRow.holds Try.pinned (OpenSpec.ofChange hardPutsWrong)

/-- 'garnerlaw04.PointGets': WHATEVER THE INPUT: true; the input reads as it did. -/
def pointGetsSpec : ChangeSpec := { name := "pointGets", fn := fun _ => fun
  | [d] => { results := [.lit (.bool true)], args := [d] }
  | _ => none }
def pointGetsRow : OpenClaim := { program := "ythgkjkdbjnoikaa", sum := "42342db2ebb6f4e10ffcf86ec80cf9fb1d45a2eb27880f7ac5c046d782f72f4a", func := "garner/garnerlaw04.PointGets", spec := "pointGets", recurses := true, apart := false }
def PointGetsSaid : Prop := pointGetsRow.holds Try.pinned (OpenSpec.ofChange pointGetsSpec)

/-- ITS FALSE NEIGHBOUR: 'it returns false'. Refute it at one input. -/
def pointGetsWrong : ChangeSpec := { name := "pointGets", fn := fun _ => fun
  | [d] => { results := [.lit (.bool false)], args := [d] }
  | _ => none }
def PointGetsWrongFalsely : Prop := pointGetsRow.holds Try.pinned (OpenSpec.ofChange pointGetsWrong)

/- THE SECOND FORM. 'bulk': how many values and letters a reading holds, each counted each time it is reached (what is shared counts as often as it is met; a slice's spare places count too). A statement '..UptoSaid' is the law's where the arguments, and the package variables that the reading takes, are together of bulk at most 1048576: NARROWER than '..Said'. Prove '..Said' where nothing that the law and all that it calls make is longer than what came in: it says more and counts as full. Else prove '..UptoSaid'. A law counts once. -/
mutual
def uptoBulk {H : Type} : DataW H → Nat
  | .lit (.string bytes) => bytes.length + 1
  | .lit _ => 1
  | .nil => 1
  | .ptr d => uptoBulk d + 1
  | .slice elems spare => uptoBulkAll elems + uptoBulkAll spare + 1
  | .agg parts => uptoBulkAll parts + 1
  | .iface _ d => uptoBulk d + 1
  | .map entries => uptoBulkEntries entries + 1
  | .held _ => 1
def uptoBulkAll {H : Type} : List (DataW H) → Nat
  | [] => 0
  | d :: r => uptoBulk d + uptoBulkAll r
def uptoBulkEntries {H : Type} : List (Lit × DataW H) → Nat
  | [] => 0
  | x :: r => uptoBulkEntry x + uptoBulkEntries r
def uptoBulkEntry {H : Type} : Lit × DataW H → Nat
  | (.string bytes, d) => bytes.length + uptoBulk d + 1
  | (_, d) => uptoBulk d + 1
 end
def uptoSmall : (H : Type) → List (DataW H) → Bool := fun _ ds => decide (uptoBulkAll ds ≤ 1048576)
def OpenSpec.upto (s : _root_.Go.ChangeSpec) : _root_.Go.OpenSpec := { _root_.Go.OpenSpec.ofChange s with cond := some uptoSmall }

/-- 'garnerlaw07.NameOrders', WHERE WHAT IT READS IS OF BULK AT MOST 1048576: true; the input reads as it did. -/
def nameOrdersUptoRow : OpenClaim := { program := "ythgkjkdbjnoikaa", sum := "42342db2ebb6f4e10ffcf86ec80cf9fb1d45a2eb27880f7ac5c046d782f72f4a", func := "garner/garnerlaw07.NameOrders", spec := "nameOrders", apart := false, narrowed := true }
def NameOrdersUptoSaid : Prop := nameOrdersUptoRow.holds Try.pinned (OpenSpec.upto nameOrdersSpec)

/-- 'garnerlaw04.PointPuts', WHERE WHAT IT READS IS OF BULK AT MOST 1048576: true; the input reads as it did. -/
def pointPutsUptoRow : OpenClaim := { program := "ythgkjkdbjnoikaa", sum := "42342db2ebb6f4e10ffcf86ec80cf9fb1d45a2eb27880f7ac5c046d782f72f4a", func := "garner/garnerlaw04.PointPuts", spec := "pointPuts", recurses := true, apart := false, narrowed := true }
def PointPutsUptoSaid : Prop := pointPutsUptoRow.holds Try.pinned (OpenSpec.upto pointPutsSpec)

/-- 'garnerlaw22.HardSteps', WHERE WHAT IT READS IS OF BULK AT MOST 1048576: true; the input reads as it did. -/
def hardStepsUptoRow : OpenClaim := { program := "ythgkjkdbjnoikaa", sum := "42342db2ebb6f4e10ffcf86ec80cf9fb1d45a2eb27880f7ac5c046d782f72f4a", func := "garner/garnerlaw22.HardSteps", spec := "hardSteps", apart := false, narrowed := true }
def HardStepsUptoSaid : Prop := hardStepsUptoRow.holds Try.pinned (OpenSpec.upto hardStepsSpec)

/-- 'garnerlaw22.HardJoins', WHERE WHAT IT READS IS OF BULK AT MOST 1048576: true; the input reads as it did. -/
def hardJoinsUptoRow : OpenClaim := { program := "ythgkjkdbjnoikaa", sum := "42342db2ebb6f4e10ffcf86ec80cf9fb1d45a2eb27880f7ac5c046d782f72f4a", func := "garner/garnerlaw22.HardJoins", spec := "hardJoins", apart := false, narrowed := true }
def HardJoinsUptoSaid : Prop := hardJoinsUptoRow.holds Try.pinned (OpenSpec.upto hardJoinsSpec)

/-- 'garnerlaw02.VarintPrefix', WHERE WHAT IT READS IS OF BULK AT MOST 1048576: true; the input reads as it did. -/
def varintPrefixUptoRow : OpenClaim := { program := "ythgkjkdbjnoikaa", sum := "42342db2ebb6f4e10ffcf86ec80cf9fb1d45a2eb27880f7ac5c046d782f72f4a", func := "garner/garnerlaw02.VarintPrefix", spec := "varintPrefix", apart := false, narrowed := true }
def VarintPrefixUptoSaid : Prop := varintPrefixUptoRow.holds Try.pinned (OpenSpec.upto varintPrefixSpec)

/-- 'garnerlaw02.VarintGets', WHERE WHAT IT READS IS OF BULK AT MOST 1048576: true; the input reads as it did. -/
def varintGetsUptoRow : OpenClaim := { program := "ythgkjkdbjnoikaa", sum := "42342db2ebb6f4e10ffcf86ec80cf9fb1d45a2eb27880f7ac5c046d782f72f4a", func := "garner/garnerlaw02.VarintGets", spec := "varintGets", recurses := true, apart := false, narrowed := true }
def VarintGetsUptoSaid : Prop := varintGetsUptoRow.holds Try.pinned (OpenSpec.upto varintGetsSpec)

/-- 'garnerlaw02.VarintPuts', WHERE WHAT IT READS IS OF BULK AT MOST 1048576: true; the input reads as it did. -/
def varintPutsUptoRow : OpenClaim := { program := "ythgkjkdbjnoikaa", sum := "42342db2ebb6f4e10ffcf86ec80cf9fb1d45a2eb27880f7ac5c046d782f72f4a", func := "garner/garnerlaw02.VarintPuts", spec := "varintPuts", recurses := true, apart := false, narrowed := true }
def VarintPutsUptoSaid : Prop := varintPutsUptoRow.holds Try.pinned (OpenSpec.upto varintPutsSpec)

/-- 'garnerlaw07.NameOf', WHERE WHAT IT READS IS OF BULK AT MOST 1048576: true; the input reads as it did. -/
def nameOfUptoRow : OpenClaim := { program := "ythgkjkdbjnoikaa", sum := "42342db2ebb6f4e10ffcf86ec80cf9fb1d45a2eb27880f7ac5c046d782f72f4a", func := "garner/garnerlaw07.NameOf", spec := "nameOf", inPlace := ["internal/bytealg.IndexByteString"], apart := false, narrowed := true }
def NameOfUptoSaid : Prop := nameOfUptoRow.holds Try.pinned (OpenSpec.upto nameOfSpec)

/-- 'garnerlaw07.NameParse', WHERE WHAT IT READS IS OF BULK AT MOST 1048576: true; the input reads as it did. -/
def nameParseUptoRow : OpenClaim := { program := "ythgkjkdbjnoikaa", sum := "42342db2ebb6f4e10ffcf86ec80cf9fb1d45a2eb27880f7ac5c046d782f72f4a", func := "garner/garnerlaw07.NameParse", spec := "nameParse", inPlace := ["internal/bytealg.IndexByteString"], apart := false, narrowed := true }
def NameParseUptoSaid : Prop := nameParseUptoRow.holds Try.pinned (OpenSpec.upto nameParseSpec)

/-- 'garnerlaw22.HardGets', WHERE WHAT IT READS IS OF BULK AT MOST 1048576: true; the input reads as it did. -/
def hardGetsUptoRow : OpenClaim := { program := "ythgkjkdbjnoikaa", sum := "42342db2ebb6f4e10ffcf86ec80cf9fb1d45a2eb27880f7ac5c046d782f72f4a", func := "garner/garnerlaw22.HardGets", spec := "hardGets", recurses := true, apart := false, narrowed := true }
def HardGetsUptoSaid : Prop := hardGetsUptoRow.holds Try.pinned (OpenSpec.upto hardGetsSpec)

/-- 'garnerlaw22.HardPuts', WHERE WHAT IT READS IS OF BULK AT MOST 1048576: true; the input reads as it did. -/
def hardPutsUptoRow : OpenClaim := { program := "ythgkjkdbjnoikaa", sum := "42342db2ebb6f4e10ffcf86ec80cf9fb1d45a2eb27880f7ac5c046d782f72f4a", func := "garner/garnerlaw22.HardPuts", spec := "hardPuts", recurses := true, apart := false, narrowed := true }
def HardPutsUptoSaid : Prop := hardPutsUptoRow.holds Try.pinned (OpenSpec.upto hardPutsSpec)

/-- 'garnerlaw04.PointGets', WHERE WHAT IT READS IS OF BULK AT MOST 1048576: true; the input reads as it did. -/
def pointGetsUptoRow : OpenClaim := { program := "ythgkjkdbjnoikaa", sum := "42342db2ebb6f4e10ffcf86ec80cf9fb1d45a2eb27880f7ac5c046d782f72f4a", func := "garner/garnerlaw04.PointGets", spec := "pointGets", recurses := true, apart := false, narrowed := true }
def PointGetsUptoSaid : Prop := pointGetsUptoRow.holds Try.pinned (OpenSpec.upto pointGetsSpec)

end Rows
end Go.Proofs.Ythgkjkdbjnoikaa
