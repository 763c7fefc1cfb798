/-
  No cell of these rows narrows 'for every input' (looked for: loops, veiled, ifaces, maps, wideKeys, modest, calm, conditions, laid).
  DERIVED. THE GIVEN ROWS OF THIS SEAT. 12 by the template 'for every input the law returns true; each argument reads behind the call as it read before'; 0 by the template 'total and deterministic' (their statements: YtapamplgajkjlaaTotals.lean).
  GIVEN WITH THE SEED: the statements are not yours to turn. If you find one false, say at which input.
  Laid BY PROGRAM, IN A SANDBOX (cutbox-rows.mjs): the forced cells as the released guide's own fill.sh prints them over the translation 8fb1671666f4d96c… (all of the seat's roots in one cut). By AI agents, Wed Nov 11 2026. No macro, syntax, notation, axiom, sorry.
-/
import Derived.Test.YtapamplgajkjlaaChecked
import GoSem.Claim
import GoSem.ClaimJoined
import GoSem.ClaimMapViews
import Derived.JoinedTies
import Derived.KernelRfl
namespace Go.Proofs.Ytapamplgajkjlaa
/- THE CELL 'sum', in the pinned program and in every row, IS THE sha256 OF THE DUMP (.gsa) THAT YtapamplgajkjlaaProg.lean LOADS. Nothing in Lean hashes anything: it is a label: what it is worth is what the hold of that sum in a sandbox is worth. -/
noncomputable def Try.pinned : Pinned := { name := "ytapamplgajkjlaa", sum := "8fb1671666f4d96c79bd7e9433309de3deaa79d9117a003c6fefbd222732fbbf", checked := Try.checked }
namespace Rows
def none {H : Type} : Left H := { results := [], args := [] }

/-- 'garnerlaw27.ExportGets': WHATEVER THE INPUT: true; the input reads as it did. -/
def exportGetsSpec : ChangeSpec := { name := "exportGets", fn := fun _ => fun
  | [d] => { results := [.lit (.bool true)], args := [d] }
  | _ => none }
def exportGetsRow : OpenClaim := { program := "ytapamplgajkjlaa", sum := "8fb1671666f4d96c79bd7e9433309de3deaa79d9117a003c6fefbd222732fbbf", func := "garner/garnerlaw27.ExportGets", spec := "exportGets", unfollowed := true, recurses := true, plainKeys := false, apart := false }
def ExportGetsSaid : Prop := exportGetsRow.holds Try.pinned (OpenSpec.ofChange exportGetsSpec)

/-- ITS FALSE NEIGHBOUR: 'it returns false'. Refute it at one input. -/
def exportGetsWrong : ChangeSpec := { name := "exportGets", fn := fun _ => fun
  | [d] => { results := [.lit (.bool false)], args := [d] }
  | _ => none }
def ExportGetsWrongFalsely : Prop := exportGetsRow.holds Try.pinned (OpenSpec.ofChange exportGetsWrong)

/-- 'garnerlaw27.ExportOne': WHATEVER THE INPUT: true; the input reads as it did. -/
def exportOneSpec : ChangeSpec := { name := "exportOne", fn := fun _ => fun
  | [d1, d2, d3] => { results := [.lit (.bool true)], args := [d1, d2, d3] }
  | _ => none }
def exportOneRow : OpenClaim := { program := "ytapamplgajkjlaa", sum := "8fb1671666f4d96c79bd7e9433309de3deaa79d9117a003c6fefbd222732fbbf", func := "garner/garnerlaw27.ExportOne", spec := "exportOne", unfollowed := true, recurses := true, plainKeys := false, apart := false }
def ExportOneSaid : Prop := exportOneRow.holds Try.pinned (OpenSpec.ofChange exportOneSpec)

/-- ITS FALSE NEIGHBOUR: 'it returns false'. Refute it at one input. -/
def exportOneWrong : ChangeSpec := { name := "exportOne", fn := fun _ => fun
  | [d1, d2, d3] => { results := [.lit (.bool false)], args := [d1, d2, d3] }
  | _ => none }
def ExportOneWrongFalsely : Prop := exportOneRow.holds Try.pinned (OpenSpec.ofChange exportOneWrong)

/-- 'garnerlaw27.ExportPuts': WHATEVER THE INPUT: true; the input reads as it did. -/
def exportPutsSpec : ChangeSpec := { name := "exportPuts", fn := fun _ => fun
  | [d1, d2] => { results := [.lit (.bool true)], args := [d1, d2] }
  | _ => none }
def exportPutsRow : OpenClaim := { program := "ytapamplgajkjlaa", sum := "8fb1671666f4d96c79bd7e9433309de3deaa79d9117a003c6fefbd222732fbbf", func := "garner/garnerlaw27.ExportPuts", spec := "exportPuts", unfollowed := true, recurses := true, plainKeys := false, apart := false }
def ExportPutsSaid : Prop := exportPutsRow.holds Try.pinned (OpenSpec.ofChange exportPutsSpec)

/-- ITS FALSE NEIGHBOUR: 'it returns false'. Refute it at one input. -/
def exportPutsWrong : ChangeSpec := { name := "exportPuts", fn := fun _ => fun
  | [d1, d2] => { results := [.lit (.bool false)], args := [d1, d2] }
  | _ => none }
def ExportPutsWrongFalsely : Prop := exportPutsRow.holds Try.pinned (OpenSpec.ofChange exportPutsWrong)

/-- 'garnerlaw24.WalMakes': WHATEVER THE INPUT: true; the input reads as it did. -/
def walMakesSpec : ChangeSpec := { name := "walMakes", fn := fun _ => fun
  | [d1, d2] => { results := [.lit (.bool true)], args := [d1, d2] }
  | _ => none }
def walMakesRow : OpenClaim := { program := "ytapamplgajkjlaa", sum := "8fb1671666f4d96c79bd7e9433309de3deaa79d9117a003c6fefbd222732fbbf", func := "garner/garnerlaw24.WalMakes", spec := "walMakes", unfollowed := true, recurses := true, plainKeys := false, apart := false }
def WalMakesSaid : Prop := walMakesRow.holds Try.pinned (OpenSpec.ofChange walMakesSpec)

/-- ITS FALSE NEIGHBOUR: 'it returns false'. Refute it at one input. -/
def walMakesWrong : ChangeSpec := { name := "walMakes", fn := fun _ => fun
  | [d1, d2] => { results := [.lit (.bool false)], args := [d1, d2] }
  | _ => none }
def WalMakesWrongFalsely : Prop := walMakesRow.holds Try.pinned (OpenSpec.ofChange walMakesWrong)

/-- 'garnerlaw24.WalRecs': WHATEVER THE INPUT: true; the input reads as it did. -/
def walRecsSpec : ChangeSpec := { name := "walRecs", fn := fun _ => fun
  | [d1, d2, d3] => { results := [.lit (.bool true)], args := [d1, d2, d3] }
  | _ => none }
def walRecsRow : OpenClaim := { program := "ytapamplgajkjlaa", sum := "8fb1671666f4d96c79bd7e9433309de3deaa79d9117a003c6fefbd222732fbbf", func := "garner/garnerlaw24.WalRecs", spec := "walRecs", unfollowed := true, recurses := true, plainKeys := false, apart := false }
def WalRecsSaid : Prop := walRecsRow.holds Try.pinned (OpenSpec.ofChange walRecsSpec)

/-- ITS FALSE NEIGHBOUR: 'it returns false'. Refute it at one input. -/
def walRecsWrong : ChangeSpec := { name := "walRecs", fn := fun _ => fun
  | [d1, d2, d3] => { results := [.lit (.bool false)], args := [d1, d2, d3] }
  | _ => none }
def WalRecsWrongFalsely : Prop := walRecsRow.holds Try.pinned (OpenSpec.ofChange walRecsWrong)

/-- 'garnerlaw24.WalAgain': WHATEVER THE INPUT: true; the input reads as it did. -/
def walAgainSpec : ChangeSpec := { name := "walAgain", fn := fun _ => fun
  | [d1, d2] => { results := [.lit (.bool true)], args := [d1, d2] }
  | _ => none }
def walAgainRow : OpenClaim := { program := "ytapamplgajkjlaa", sum := "8fb1671666f4d96c79bd7e9433309de3deaa79d9117a003c6fefbd222732fbbf", func := "garner/garnerlaw24.WalAgain", spec := "walAgain", unfollowed := true, recurses := true, plainKeys := false, apart := false }
def WalAgainSaid : Prop := walAgainRow.holds Try.pinned (OpenSpec.ofChange walAgainSpec)

/-- ITS FALSE NEIGHBOUR: 'it returns false'. Refute it at one input. -/
def walAgainWrong : ChangeSpec := { name := "walAgain", fn := fun _ => fun
  | [d1, d2] => { results := [.lit (.bool false)], args := [d1, d2] }
  | _ => none }
def WalAgainWrongFalsely : Prop := walAgainRow.holds Try.pinned (OpenSpec.ofChange walAgainWrong)

/-- 'garnerlaw24.WalGets': WHATEVER THE INPUT: true; the input reads as it did. -/
def walGetsSpec : ChangeSpec := { name := "walGets", fn := fun _ => fun
  | [d] => { results := [.lit (.bool true)], args := [d] }
  | _ => none }
def walGetsRow : OpenClaim := { program := "ytapamplgajkjlaa", sum := "8fb1671666f4d96c79bd7e9433309de3deaa79d9117a003c6fefbd222732fbbf", func := "garner/garnerlaw24.WalGets", spec := "walGets", unfollowed := true, recurses := true, plainKeys := false, apart := false }
def WalGetsSaid : Prop := walGetsRow.holds Try.pinned (OpenSpec.ofChange walGetsSpec)

/-- ITS FALSE NEIGHBOUR: 'it returns false'. Refute it at one input. -/
def walGetsWrong : ChangeSpec := { name := "walGets", fn := fun _ => fun
  | [d] => { results := [.lit (.bool false)], args := [d] }
  | _ => none }
def WalGetsWrongFalsely : Prop := walGetsRow.holds Try.pinned (OpenSpec.ofChange walGetsWrong)

/-- 'garnerlaw24.WalPuts': WHATEVER THE INPUT: true; the input reads as it did. -/
def walPutsSpec : ChangeSpec := { name := "walPuts", fn := fun _ => fun
  | [d1, d2] => { results := [.lit (.bool true)], args := [d1, d2] }
  | _ => none }
def walPutsRow : OpenClaim := { program := "ytapamplgajkjlaa", sum := "8fb1671666f4d96c79bd7e9433309de3deaa79d9117a003c6fefbd222732fbbf", func := "garner/garnerlaw24.WalPuts", spec := "walPuts", unfollowed := true, recurses := true, plainKeys := false, apart := false }
def WalPutsSaid : Prop := walPutsRow.holds Try.pinned (OpenSpec.ofChange walPutsSpec)

/-- ITS FALSE NEIGHBOUR: 'it returns false'. Refute it at one input. -/
def walPutsWrong : ChangeSpec := { name := "walPuts", fn := fun _ => fun
  | [d1, d2] => { results := [.lit (.bool false)], args := [d1, d2] }
  | _ => none }
def WalPutsWrongFalsely : Prop := walPutsRow.holds Try.pinned (OpenSpec.ofChange walPutsWrong)

/-- 'garnerlaw28.LiveOrders': WHATEVER THE INPUT: true; the input reads as it did. -/
def liveOrdersSpec : ChangeSpec := { name := "liveOrders", fn := fun _ => fun
  | [d1, d2] => { results := [.lit (.bool true)], args := [d1, d2] }
  | _ => none }
def liveOrdersRow : OpenClaim := { program := "ytapamplgajkjlaa", sum := "8fb1671666f4d96c79bd7e9433309de3deaa79d9117a003c6fefbd222732fbbf", func := "garner/garnerlaw28.LiveOrders", spec := "liveOrders", inPlace := ["slices.overlaps[garner/api.Share]"], unfollowed := true, recurses := true, plainKeys := false, apart := false }
def LiveOrdersSaid : Prop := liveOrdersRow.holds Try.pinned (OpenSpec.ofChange liveOrdersSpec)

/-- ITS FALSE NEIGHBOUR: 'it returns false'. Refute it at one input. -/
def liveOrdersWrong : ChangeSpec := { name := "liveOrders", fn := fun _ => fun
  | [d1, d2] => { results := [.lit (.bool false)], args := [d1, d2] }
  | _ => none }
def LiveOrdersWrongFalsely : Prop := liveOrdersRow.holds Try.pinned (OpenSpec.ofChange liveOrdersWrong)

/-- 'garnerlaw28.LivePuts': WHATEVER THE INPUT: true; the input reads as it did. -/
def livePutsSpec : ChangeSpec := { name := "livePuts", fn := fun _ => fun
  | [d1, d2, d3] => { results := [.lit (.bool true)], args := [d1, d2, d3] }
  | _ => none }
def livePutsRow : OpenClaim := { program := "ytapamplgajkjlaa", sum := "8fb1671666f4d96c79bd7e9433309de3deaa79d9117a003c6fefbd222732fbbf", func := "garner/garnerlaw28.LivePuts", spec := "livePuts", inPlace := ["slices.overlaps[garner/api.Share]"], unfollowed := true, recurses := true, plainKeys := false, apart := false }
def LivePutsSaid : Prop := livePutsRow.holds Try.pinned (OpenSpec.ofChange livePutsSpec)

/-- ITS FALSE NEIGHBOUR: 'it returns false'. Refute it at one input. -/
def livePutsWrong : ChangeSpec := { name := "livePuts", fn := fun _ => fun
  | [d1, d2, d3] => { results := [.lit (.bool false)], args := [d1, d2, d3] }
  | _ => none }
def LivePutsWrongFalsely : Prop := livePutsRow.holds Try.pinned (OpenSpec.ofChange livePutsWrong)

/-- 'garnerlaw28.LiveNobody': WHATEVER THE INPUT: true; the input reads as it did. -/
def liveNobodySpec : ChangeSpec := { name := "liveNobody", fn := fun _ => fun
  | [d] => { results := [.lit (.bool true)], args := [d] }
  | _ => none }
def liveNobodyRow : OpenClaim := { program := "ytapamplgajkjlaa", sum := "8fb1671666f4d96c79bd7e9433309de3deaa79d9117a003c6fefbd222732fbbf", func := "garner/garnerlaw28.LiveNobody", spec := "liveNobody", inPlace := ["slices.overlaps[garner/api.Share]"], unfollowed := true, recurses := true, plainKeys := false, apart := false }
def LiveNobodySaid : Prop := liveNobodyRow.holds Try.pinned (OpenSpec.ofChange liveNobodySpec)

/-- ITS FALSE NEIGHBOUR: 'it returns false'. Refute it at one input. -/
def liveNobodyWrong : ChangeSpec := { name := "liveNobody", fn := fun _ => fun
  | [d] => { results := [.lit (.bool false)], args := [d] }
  | _ => none }
def LiveNobodyWrongFalsely : Prop := liveNobodyRow.holds Try.pinned (OpenSpec.ofChange liveNobodyWrong)

/-- 'garnerlaw28.LiveFollows': WHATEVER THE INPUT: true; the input reads as it did. -/
def liveFollowsSpec : ChangeSpec := { name := "liveFollows", fn := fun _ => fun
  | [d1, d2, d3] => { results := [.lit (.bool true)], args := [d1, d2, d3] }
  | _ => none }
def liveFollowsRow : OpenClaim := { program := "ytapamplgajkjlaa", sum := "8fb1671666f4d96c79bd7e9433309de3deaa79d9117a003c6fefbd222732fbbf", func := "garner/garnerlaw28.LiveFollows", spec := "liveFollows", inPlace := ["slices.overlaps[garner/api.Share]"], unfollowed := true, recurses := true, plainKeys := false, apart := false }
def LiveFollowsSaid : Prop := liveFollowsRow.holds Try.pinned (OpenSpec.ofChange liveFollowsSpec)

/-- ITS FALSE NEIGHBOUR: 'it returns false'. Refute it at one input. -/
def liveFollowsWrong : ChangeSpec := { name := "liveFollows", fn := fun _ => fun
  | [d1, d2, d3] => { results := [.lit (.bool false)], args := [d1, d2, d3] }
  | _ => none }
def LiveFollowsWrongFalsely : Prop := liveFollowsRow.holds Try.pinned (OpenSpec.ofChange liveFollowsWrong)

/- THE SECOND FORM. 'bulk': how many values and letters a reading holds, each counted each time it is reached (what is shared counts as often as it is met; a slice's spare places count too). A statement '..UptoSaid' is the law's where the arguments, and the package variables that the reading takes, are together of bulk at most 1048576: NARROWER than '..Said'. Prove '..Said' where nothing that the law and all that it calls make is longer than what came in: it says more and counts as full. Else prove '..UptoSaid'. A law counts once. -/
mutual
def uptoBulk {H : Type} : DataW H → Nat
  | .lit (.string bytes) => bytes.length + 1
  | .lit _ => 1
  | .nil => 1
  | .ptr d => uptoBulk d + 1
  | .slice elems spare => uptoBulkAll elems + uptoBulkAll spare + 1
  | .agg parts => uptoBulkAll parts + 1
  | .iface _ d => uptoBulk d + 1
  | .map entries => uptoBulkEntries entries + 1
  | .held _ => 1
def uptoBulkAll {H : Type} : List (DataW H) → Nat
  | [] => 0
  | d :: r => uptoBulk d + uptoBulkAll r
def uptoBulkEntries {H : Type} : List (Lit × DataW H) → Nat
  | [] => 0
  | x :: r => uptoBulkEntry x + uptoBulkEntries r
def uptoBulkEntry {H : Type} : Lit × DataW H → Nat
  | (.string bytes, d) => bytes.length + uptoBulk d + 1
  | (_, d) => uptoBulk d + 1
 end
def uptoSmall : (H : Type) → List (DataW H) → Bool := fun _ ds => decide (uptoBulkAll ds ≤ 1048576)
def OpenSpec.upto (s : _root_.Go.ChangeSpec) : _root_.Go.OpenSpec := { _root_.Go.OpenSpec.ofChange s with cond := some uptoSmall }

/-- 'garnerlaw27.ExportGets', WHERE WHAT IT READS IS OF BULK AT MOST 1048576: true; the input reads as it did. -/
def exportGetsUptoRow : OpenClaim := { program := "ytapamplgajkjlaa", sum := "8fb1671666f4d96c79bd7e9433309de3deaa79d9117a003c6fefbd222732fbbf", func := "garner/garnerlaw27.ExportGets", spec := "exportGets", unfollowed := true, recurses := true, plainKeys := false, apart := false, narrowed := true }
def ExportGetsUptoSaid : Prop := exportGetsUptoRow.holds Try.pinned (OpenSpec.upto exportGetsSpec)

/-- 'garnerlaw27.ExportOne', WHERE WHAT IT READS IS OF BULK AT MOST 1048576: true; the input reads as it did. -/
def exportOneUptoRow : OpenClaim := { program := "ytapamplgajkjlaa", sum := "8fb1671666f4d96c79bd7e9433309de3deaa79d9117a003c6fefbd222732fbbf", func := "garner/garnerlaw27.ExportOne", spec := "exportOne", unfollowed := true, recurses := true, plainKeys := false, apart := false, narrowed := true }
def ExportOneUptoSaid : Prop := exportOneUptoRow.holds Try.pinned (OpenSpec.upto exportOneSpec)

/-- 'garnerlaw27.ExportPuts', WHERE WHAT IT READS IS OF BULK AT MOST 1048576: true; the input reads as it did. -/
def exportPutsUptoRow : OpenClaim := { program := "ytapamplgajkjlaa", sum := "8fb1671666f4d96c79bd7e9433309de3deaa79d9117a003c6fefbd222732fbbf", func := "garner/garnerlaw27.ExportPuts", spec := "exportPuts", unfollowed := true, recurses := true, plainKeys := false, apart := false, narrowed := true }
def ExportPutsUptoSaid : Prop := exportPutsUptoRow.holds Try.pinned (OpenSpec.upto exportPutsSpec)

/-- 'garnerlaw24.WalMakes', WHERE WHAT IT READS IS OF BULK AT MOST 1048576: true; the input reads as it did. -/
def walMakesUptoRow : OpenClaim := { program := "ytapamplgajkjlaa", sum := "8fb1671666f4d96c79bd7e9433309de3deaa79d9117a003c6fefbd222732fbbf", func := "garner/garnerlaw24.WalMakes", spec := "walMakes", unfollowed := true, recurses := true, plainKeys := false, apart := false, narrowed := true }
def WalMakesUptoSaid : Prop := walMakesUptoRow.holds Try.pinned (OpenSpec.upto walMakesSpec)

/-- 'garnerlaw24.WalRecs', WHERE WHAT IT READS IS OF BULK AT MOST 1048576: true; the input reads as it did. -/
def walRecsUptoRow : OpenClaim := { program := "ytapamplgajkjlaa", sum := "8fb1671666f4d96c79bd7e9433309de3deaa79d9117a003c6fefbd222732fbbf", func := "garner/garnerlaw24.WalRecs", spec := "walRecs", unfollowed := true, recurses := true, plainKeys := false, apart := false, narrowed := true }
def WalRecsUptoSaid : Prop := walRecsUptoRow.holds Try.pinned (OpenSpec.upto walRecsSpec)

/-- 'garnerlaw24.WalAgain', WHERE WHAT IT READS IS OF BULK AT MOST 1048576: true; the input reads as it did. -/
def walAgainUptoRow : OpenClaim := { program := "ytapamplgajkjlaa", sum := "8fb1671666f4d96c79bd7e9433309de3deaa79d9117a003c6fefbd222732fbbf", func := "garner/garnerlaw24.WalAgain", spec := "walAgain", unfollowed := true, recurses := true, plainKeys := false, apart := false, narrowed := true }
def WalAgainUptoSaid : Prop := walAgainUptoRow.holds Try.pinned (OpenSpec.upto walAgainSpec)

/-- 'garnerlaw24.WalGets', WHERE WHAT IT READS IS OF BULK AT MOST 1048576: true; the input reads as it did. -/
def walGetsUptoRow : OpenClaim := { program := "ytapamplgajkjlaa", sum := "8fb1671666f4d96c79bd7e9433309de3deaa79d9117a003c6fefbd222732fbbf", func := "garner/garnerlaw24.WalGets", spec := "walGets", unfollowed := true, recurses := true, plainKeys := false, apart := false, narrowed := true }
def WalGetsUptoSaid : Prop := walGetsUptoRow.holds Try.pinned (OpenSpec.upto walGetsSpec)

/-- 'garnerlaw24.WalPuts', WHERE WHAT IT READS IS OF BULK AT MOST 1048576: true; the input reads as it did. -/
def walPutsUptoRow : OpenClaim := { program := "ytapamplgajkjlaa", sum := "8fb1671666f4d96c79bd7e9433309de3deaa79d9117a003c6fefbd222732fbbf", func := "garner/garnerlaw24.WalPuts", spec := "walPuts", unfollowed := true, recurses := true, plainKeys := false, apart := false, narrowed := true }
def WalPutsUptoSaid : Prop := walPutsUptoRow.holds Try.pinned (OpenSpec.upto walPutsSpec)

/-- 'garnerlaw28.LiveOrders', WHERE WHAT IT READS IS OF BULK AT MOST 1048576: true; the input reads as it did. -/
def liveOrdersUptoRow : OpenClaim := { program := "ytapamplgajkjlaa", sum := "8fb1671666f4d96c79bd7e9433309de3deaa79d9117a003c6fefbd222732fbbf", func := "garner/garnerlaw28.LiveOrders", spec := "liveOrders", inPlace := ["slices.overlaps[garner/api.Share]"], unfollowed := true, recurses := true, plainKeys := false, apart := false, narrowed := true }
def LiveOrdersUptoSaid : Prop := liveOrdersUptoRow.holds Try.pinned (OpenSpec.upto liveOrdersSpec)

/-- 'garnerlaw28.LivePuts', WHERE WHAT IT READS IS OF BULK AT MOST 1048576: true; the input reads as it did. -/
def livePutsUptoRow : OpenClaim := { program := "ytapamplgajkjlaa", sum := "8fb1671666f4d96c79bd7e9433309de3deaa79d9117a003c6fefbd222732fbbf", func := "garner/garnerlaw28.LivePuts", spec := "livePuts", inPlace := ["slices.overlaps[garner/api.Share]"], unfollowed := true, recurses := true, plainKeys := false, apart := false, narrowed := true }
def LivePutsUptoSaid : Prop := livePutsUptoRow.holds Try.pinned (OpenSpec.upto livePutsSpec)

/-- 'garnerlaw28.LiveNobody', WHERE WHAT IT READS IS OF BULK AT MOST 1048576: true; the input reads as it did. -/
def liveNobodyUptoRow : OpenClaim := { program := "ytapamplgajkjlaa", sum := "8fb1671666f4d96c79bd7e9433309de3deaa79d9117a003c6fefbd222732fbbf", func := "garner/garnerlaw28.LiveNobody", spec := "liveNobody", inPlace := ["slices.overlaps[garner/api.Share]"], unfollowed := true, recurses := true, plainKeys := false, apart := false, narrowed := true }
def LiveNobodyUptoSaid : Prop := liveNobodyUptoRow.holds Try.pinned (OpenSpec.upto liveNobodySpec)

/-- 'garnerlaw28.LiveFollows', WHERE WHAT IT READS IS OF BULK AT MOST 1048576: true; the input reads as it did. -/
def liveFollowsUptoRow : OpenClaim := { program := "ytapamplgajkjlaa", sum := "8fb1671666f4d96c79bd7e9433309de3deaa79d9117a003c6fefbd222732fbbf", func := "garner/garnerlaw28.LiveFollows", spec := "liveFollows", inPlace := ["slices.overlaps[garner/api.Share]"], unfollowed := true, recurses := true, plainKeys := false, apart := false, narrowed := true }
def LiveFollowsUptoSaid : Prop := liveFollowsUptoRow.holds Try.pinned (OpenSpec.upto liveFollowsSpec)

end Rows
end Go.Proofs.Ytapamplgajkjlaa
