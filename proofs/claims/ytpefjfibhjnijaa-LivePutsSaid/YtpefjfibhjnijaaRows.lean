/-
  No cell of these rows narrows 'for every input' (looked for: loops, veiled, ifaces, maps, wideKeys, modest, calm, conditions, laid).
  DERIVED. THE GIVEN ROWS OF THIS SEAT. 4 by the template 'for every input the law returns true; each argument reads behind the call as it read before'; 0 by the template 'total and deterministic' (their statements: YtpefjfibhjnijaaTotals.lean).
  GIVEN WITH THE SEED: the statements are not yours to turn. If you find one false, say at which input.
  Laid BY PROGRAM, IN A SANDBOX (cutbox-rows.mjs): the forced cells as the released guide's own fill.sh prints them over the translation e85a2eb8e8f45843… (all of the seat's roots in one cut). By AI agents, Wed Nov 11 2026. No macro, syntax, notation, axiom, sorry.
-/
import Derived.Test.YtpefjfibhjnijaaChecked
import GoSem.Claim
import GoSem.ClaimJoined
import GoSem.ClaimMapViews
import Derived.JoinedTies
import Derived.KernelRfl
namespace Go.Proofs.Ytpefjfibhjnijaa
/- THE CELL 'sum', in the pinned program and in every row, IS THE sha256 OF THE DUMP (.gsa) THAT YtpefjfibhjnijaaProg.lean LOADS. Nothing in Lean hashes anything: it is a label: what it is worth is what the hold of that sum in a sandbox is worth. -/
noncomputable def Try.pinned : Pinned := { name := "ytpefjfibhjnijaa", sum := "e85a2eb8e8f4584362924a4ef9e3479586a8bdf2658f62354ab4b40543ef4be4", checked := Try.checked }
namespace Rows
def none {H : Type} : Left H := { results := [], args := [] }

/-- 'garnerlaw28.LiveNobody': WHATEVER THE INPUT: true; the input reads as it did. -/
def liveNobodySpec : ChangeSpec := { name := "liveNobody", fn := fun _ => fun
  | [d] => { results := [.lit (.bool true)], args := [d] }
  | _ => none }
def liveNobodyRow : OpenClaim := { program := "ytpefjfibhjnijaa", sum := "e85a2eb8e8f4584362924a4ef9e3479586a8bdf2658f62354ab4b40543ef4be4", func := "garner/garnerlaw28.LiveNobody", spec := "liveNobody", inPlace := ["slices.overlaps[garner/api.Share]"], unfollowed := true, recurses := true, plainKeys := false, apart := false }
def LiveNobodySaid : Prop := liveNobodyRow.holds Try.pinned (OpenSpec.ofChange liveNobodySpec)

/-- ITS FALSE NEIGHBOUR: 'it returns false'. Refute it at one input. -/
def liveNobodyWrong : ChangeSpec := { name := "liveNobody", fn := fun _ => fun
  | [d] => { results := [.lit (.bool false)], args := [d] }
  | _ => none }
def LiveNobodyWrongFalsely : Prop := liveNobodyRow.holds Try.pinned (OpenSpec.ofChange liveNobodyWrong)

/-- 'garnerlaw28.LivePuts': WHATEVER THE INPUT: true; the input reads as it did. -/
def livePutsSpec : ChangeSpec := { name := "livePuts", fn := fun _ => fun
  | [d1, d2, d3] => { results := [.lit (.bool true)], args := [d1, d2, d3] }
  | _ => none }
def livePutsRow : OpenClaim := { program := "ytpefjfibhjnijaa", sum := "e85a2eb8e8f4584362924a4ef9e3479586a8bdf2658f62354ab4b40543ef4be4", func := "garner/garnerlaw28.LivePuts", spec := "livePuts", inPlace := ["slices.overlaps[garner/api.Share]"], unfollowed := true, recurses := true, plainKeys := false, apart := false }
def LivePutsSaid : Prop := livePutsRow.holds Try.pinned (OpenSpec.ofChange livePutsSpec)

/-- ITS FALSE NEIGHBOUR: 'it returns false'. Refute it at one input. -/
def livePutsWrong : ChangeSpec := { name := "livePuts", fn := fun _ => fun
  | [d1, d2, d3] => { results := [.lit (.bool false)], args := [d1, d2, d3] }
  | _ => none }
def LivePutsWrongFalsely : Prop := livePutsRow.holds Try.pinned (OpenSpec.ofChange livePutsWrong)

/-- 'garnerlaw28.LiveOrders': WHATEVER THE INPUT: true; the input reads as it did. -/
def liveOrdersSpec : ChangeSpec := { name := "liveOrders", fn := fun _ => fun
  | [d1, d2] => { results := [.lit (.bool true)], args := [d1, d2] }
  | _ => none }
def liveOrdersRow : OpenClaim := { program := "ytpefjfibhjnijaa", sum := "e85a2eb8e8f4584362924a4ef9e3479586a8bdf2658f62354ab4b40543ef4be4", func := "garner/garnerlaw28.LiveOrders", spec := "liveOrders", inPlace := ["slices.overlaps[garner/api.Share]"], unfollowed := true, recurses := true, plainKeys := false, apart := false }
def LiveOrdersSaid : Prop := liveOrdersRow.holds Try.pinned (OpenSpec.ofChange liveOrdersSpec)

/-- ITS FALSE NEIGHBOUR: 'it returns false'. Refute it at one input. -/
def liveOrdersWrong : ChangeSpec := { name := "liveOrders", fn := fun _ => fun
  | [d1, d2] => { results := [.lit (.bool false)], args := [d1, d2] }
  | _ => none }
def LiveOrdersWrongFalsely : Prop := liveOrdersRow.holds Try.pinned (OpenSpec.ofChange liveOrdersWrong)

/-- 'garnerlaw28.LiveFollows': WHATEVER THE INPUT: true; the input reads as it did. -/
def liveFollowsSpec : ChangeSpec := { name := "liveFollows", fn := fun _ => fun
  | [d1, d2, d3] => { results := [.lit (.bool true)], args := [d1, d2, d3] }
  | _ => none }
def liveFollowsRow : OpenClaim := { program := "ytpefjfibhjnijaa", sum := "e85a2eb8e8f4584362924a4ef9e3479586a8bdf2658f62354ab4b40543ef4be4", func := "garner/garnerlaw28.LiveFollows", spec := "liveFollows", inPlace := ["slices.overlaps[garner/api.Share]"], unfollowed := true, recurses := true, plainKeys := false, apart := false }
def LiveFollowsSaid : Prop := liveFollowsRow.holds Try.pinned (OpenSpec.ofChange liveFollowsSpec)

/-- ITS FALSE NEIGHBOUR: 'it returns false'. Refute it at one input. -/
def liveFollowsWrong : ChangeSpec := { name := "liveFollows", fn := fun _ => fun
  | [d1, d2, d3] => { results := [.lit (.bool false)], args := [d1, d2, d3] }
  | _ => none }
def LiveFollowsWrongFalsely : Prop := liveFollowsRow.holds Try.pinned (OpenSpec.ofChange liveFollowsWrong)

/- THE SECOND FORM. 'bulk': how many values and letters a reading holds, each counted each time it is reached (what is shared counts as often as it is met; a slice's spare places count too). A statement '..UptoSaid' is the law's where the arguments, and the package variables that the reading takes, are together of bulk at most 1048576: NARROWER than '..Said'. Prove '..Said' where nothing that the law and all that it calls make is longer than what came in: it says more and counts as full. Else prove '..UptoSaid'. A law counts once. -/
mutual
def uptoBulk {H : Type} : DataW H → Nat
  | .lit (.string bytes) => bytes.length + 1
  | .lit _ => 1
  | .nil => 1
  | .ptr d => uptoBulk d + 1
  | .slice elems spare => uptoBulkAll elems + uptoBulkAll spare + 1
  | .agg parts => uptoBulkAll parts + 1
  | .iface _ d => uptoBulk d + 1
  | .map entries => uptoBulkEntries entries + 1
  | .held _ => 1
def uptoBulkAll {H : Type} : List (DataW H) → Nat
  | [] => 0
  | d :: r => uptoBulk d + uptoBulkAll r
def uptoBulkEntries {H : Type} : List (Lit × DataW H) → Nat
  | [] => 0
  | x :: r => uptoBulkEntry x + uptoBulkEntries r
def uptoBulkEntry {H : Type} : Lit × DataW H → Nat
  | (.string bytes, d) => bytes.length + uptoBulk d + 1
  | (_, d) => uptoBulk d + 1
 end
def uptoSmall : (H : Type) → List (DataW H) → Bool := fun _ ds => decide (uptoBulkAll ds ≤ 1048576)
def OpenSpec.upto (s : _root_.Go.ChangeSpec) : _root_.Go.OpenSpec := { _root_.Go.OpenSpec.ofChange s with cond := some uptoSmall }

/-- 'garnerlaw28.LiveNobody', WHERE WHAT IT READS IS OF BULK AT MOST 1048576: true; the input reads as it did. -/
def liveNobodyUptoRow : OpenClaim := { program := "ytpefjfibhjnijaa", sum := "e85a2eb8e8f4584362924a4ef9e3479586a8bdf2658f62354ab4b40543ef4be4", func := "garner/garnerlaw28.LiveNobody", spec := "liveNobody", inPlace := ["slices.overlaps[garner/api.Share]"], unfollowed := true, recurses := true, plainKeys := false, apart := false, narrowed := true }
def LiveNobodyUptoSaid : Prop := liveNobodyUptoRow.holds Try.pinned (OpenSpec.upto liveNobodySpec)

/-- 'garnerlaw28.LivePuts', WHERE WHAT IT READS IS OF BULK AT MOST 1048576: true; the input reads as it did. -/
def livePutsUptoRow : OpenClaim := { program := "ytpefjfibhjnijaa", sum := "e85a2eb8e8f4584362924a4ef9e3479586a8bdf2658f62354ab4b40543ef4be4", func := "garner/garnerlaw28.LivePuts", spec := "livePuts", inPlace := ["slices.overlaps[garner/api.Share]"], unfollowed := true, recurses := true, plainKeys := false, apart := false, narrowed := true }
def LivePutsUptoSaid : Prop := livePutsUptoRow.holds Try.pinned (OpenSpec.upto livePutsSpec)

/-- 'garnerlaw28.LiveOrders', WHERE WHAT IT READS IS OF BULK AT MOST 1048576: true; the input reads as it did. -/
def liveOrdersUptoRow : OpenClaim := { program := "ytpefjfibhjnijaa", sum := "e85a2eb8e8f4584362924a4ef9e3479586a8bdf2658f62354ab4b40543ef4be4", func := "garner/garnerlaw28.LiveOrders", spec := "liveOrders", inPlace := ["slices.overlaps[garner/api.Share]"], unfollowed := true, recurses := true, plainKeys := false, apart := false, narrowed := true }
def LiveOrdersUptoSaid : Prop := liveOrdersUptoRow.holds Try.pinned (OpenSpec.upto liveOrdersSpec)

/-- 'garnerlaw28.LiveFollows', WHERE WHAT IT READS IS OF BULK AT MOST 1048576: true; the input reads as it did. -/
def liveFollowsUptoRow : OpenClaim := { program := "ytpefjfibhjnijaa", sum := "e85a2eb8e8f4584362924a4ef9e3479586a8bdf2658f62354ab4b40543ef4be4", func := "garner/garnerlaw28.LiveFollows", spec := "liveFollows", inPlace := ["slices.overlaps[garner/api.Share]"], unfollowed := true, recurses := true, plainKeys := false, apart := false, narrowed := true }
def LiveFollowsUptoSaid : Prop := liveFollowsUptoRow.holds Try.pinned (OpenSpec.upto liveFollowsSpec)

end Rows
end Go.Proofs.Ytpefjfibhjnijaa
