/-
  No cell of these rows narrows 'for every input' (looked for: loops, veiled, ifaces, maps, wideKeys, modest, calm, conditions, laid).
  DERIVED. THE GIVEN ROWS OF THIS SEAT. 12 by the template 'for every input the law returns true; each argument reads behind the call as it read before'; 0 by the template 'total and deterministic' (their statements: YtcjkchjgmgdbgaaTotals.lean).
  GIVEN WITH THE SEED: the statements are not yours to turn. If you find one false, say at which input.
  Laid BY PROGRAM, IN A SANDBOX (cutbox-rows.mjs): the forced cells as the released guide's own fill.sh prints them over the translation 91717777966bc55d… (all of the seat's roots in one cut). By AI agents, Wed Nov 11 2026. No macro, syntax, notation, axiom, sorry.
-/
import Derived.Test.YtcjkchjgmgdbgaaChecked
import GoSem.Claim
import GoSem.ClaimJoined
import GoSem.ClaimMapViews
import Derived.JoinedTies
import Derived.KernelRfl
namespace Go.Proofs.Ytcjkchjgmgdbgaa
/- THE CELL 'sum', in the pinned program and in every row, IS THE sha256 OF THE DUMP (.gsa) THAT YtcjkchjgmgdbgaaProg.lean LOADS. Nothing in Lean hashes anything: it is a label: what it is worth is what the hold of that sum in a sandbox is worth. -/
noncomputable def Try.pinned : Pinned := { name := "ytcjkchjgmgdbgaa", sum := "91717777966bc55d41bf3ae9903febce1fc9f3fa6b9ed3976b93fcf990b351af", checked := Try.checked }
namespace Rows
def none {H : Type} : Left H := { results := [], args := [] }

/-- 'garnerlaw23.RaftParts': WHATEVER THE INPUT: true; the input reads as it did. -/
def raftPartsSpec : ChangeSpec := { name := "raftParts", fn := fun _ => fun
  | [d1, d2, d3] => { results := [.lit (.bool true)], args := [d1, d2, d3] }
  | _ => none }
def raftPartsRow : OpenClaim := { program := "ytcjkchjgmgdbgaa", sum := "91717777966bc55d41bf3ae9903febce1fc9f3fa6b9ed3976b93fcf990b351af", func := "garner/garnerlaw23.RaftParts", spec := "raftParts", apart := false }
def RaftPartsSaid : Prop := raftPartsRow.holds Try.pinned (OpenSpec.ofChange raftPartsSpec)

/-- ITS FALSE NEIGHBOUR: 'it returns false'. Refute it at one input. -/
def raftPartsWrong : ChangeSpec := { name := "raftParts", fn := fun _ => fun
  | [d1, d2, d3] => { results := [.lit (.bool false)], args := [d1, d2, d3] }
  | _ => none }
def RaftPartsWrongFalsely : Prop := raftPartsRow.holds Try.pinned (OpenSpec.ofChange raftPartsWrong)

/-- 'garnerlaw23.RaftTurns': WHATEVER THE INPUT: true; the input reads as it did. -/
def raftTurnsSpec : ChangeSpec := { name := "raftTurns", fn := fun _ => fun
  | [d1, d2, d3] => { results := [.lit (.bool true)], args := [d1, d2, d3] }
  | _ => none }
def raftTurnsRow : OpenClaim := { program := "ytcjkchjgmgdbgaa", sum := "91717777966bc55d41bf3ae9903febce1fc9f3fa6b9ed3976b93fcf990b351af", func := "garner/garnerlaw23.RaftTurns", spec := "raftTurns", apart := false }
def RaftTurnsSaid : Prop := raftTurnsRow.holds Try.pinned (OpenSpec.ofChange raftTurnsSpec)

/-- ITS FALSE NEIGHBOUR: 'it returns false'. Refute it at one input. -/
def raftTurnsWrong : ChangeSpec := { name := "raftTurns", fn := fun _ => fun
  | [d1, d2, d3] => { results := [.lit (.bool false)], args := [d1, d2, d3] }
  | _ => none }
def RaftTurnsWrongFalsely : Prop := raftTurnsRow.holds Try.pinned (OpenSpec.ofChange raftTurnsWrong)

/-- 'garnerlaw23.RaftMay': WHATEVER THE INPUT: true; the input reads as it did. -/
def raftMaySpec : ChangeSpec := { name := "raftMay", fn := fun _ => fun
  | [d] => { results := [.lit (.bool true)], args := [d] }
  | _ => none }
def raftMayRow : OpenClaim := { program := "ytcjkchjgmgdbgaa", sum := "91717777966bc55d41bf3ae9903febce1fc9f3fa6b9ed3976b93fcf990b351af", func := "garner/garnerlaw23.RaftMay", spec := "raftMay", apart := false }
def RaftMaySaid : Prop := raftMayRow.holds Try.pinned (OpenSpec.ofChange raftMaySpec)

/-- ITS FALSE NEIGHBOUR: 'it returns false'. Refute it at one input. -/
def raftMayWrong : ChangeSpec := { name := "raftMay", fn := fun _ => fun
  | [d] => { results := [.lit (.bool false)], args := [d] }
  | _ => none }
def RaftMayWrongFalsely : Prop := raftMayRow.holds Try.pinned (OpenSpec.ofChange raftMayWrong)

/-- 'garnerlaw29.VictimSparse': WHATEVER THE INPUT: true; the input reads as it did. -/
def victimSparseSpec : ChangeSpec := { name := "victimSparse", fn := fun _ => fun
  | [d1, d2] => { results := [.lit (.bool true)], args := [d1, d2] }
  | _ => none }
def victimSparseRow : OpenClaim := { program := "ytcjkchjgmgdbgaa", sum := "91717777966bc55d41bf3ae9903febce1fc9f3fa6b9ed3976b93fcf990b351af", func := "garner/garnerlaw29.VictimSparse", spec := "victimSparse", unfollowed := true, recurses := true, apart := false }
def VictimSparseSaid : Prop := victimSparseRow.holds Try.pinned (OpenSpec.ofChange victimSparseSpec)

/-- ITS FALSE NEIGHBOUR: 'it returns false'. Refute it at one input. -/
def victimSparseWrong : ChangeSpec := { name := "victimSparse", fn := fun _ => fun
  | [d1, d2] => { results := [.lit (.bool false)], args := [d1, d2] }
  | _ => none }
def VictimSparseWrongFalsely : Prop := victimSparseRow.holds Try.pinned (OpenSpec.ofChange victimSparseWrong)

/-- 'garnerlaw09.TallyAdds': WHATEVER THE INPUT: true; the input reads as it did. -/
def tallyAddsSpec : ChangeSpec := { name := "tallyAdds", fn := fun _ => fun
  | [d1, d2, d3] => { results := [.lit (.bool true)], args := [d1, d2, d3] }
  | _ => none }
def tallyAddsRow : OpenClaim := { program := "ytcjkchjgmgdbgaa", sum := "91717777966bc55d41bf3ae9903febce1fc9f3fa6b9ed3976b93fcf990b351af", func := "garner/garnerlaw09.TallyAdds", spec := "tallyAdds", inPlace := ["slices.overlaps[garner/api.Share]"], unfollowed := true, recurses := true, apart := false }
def TallyAddsSaid : Prop := tallyAddsRow.holds Try.pinned (OpenSpec.ofChange tallyAddsSpec)

/-- ITS FALSE NEIGHBOUR: 'it returns false'. Refute it at one input. -/
def tallyAddsWrong : ChangeSpec := { name := "tallyAdds", fn := fun _ => fun
  | [d1, d2, d3] => { results := [.lit (.bool false)], args := [d1, d2, d3] }
  | _ => none }
def TallyAddsWrongFalsely : Prop := tallyAddsRow.holds Try.pinned (OpenSpec.ofChange tallyAddsWrong)

/-- 'garnerlaw09.TallyJoins': WHATEVER THE INPUT: true; the input reads as it did. -/
def tallyJoinsSpec : ChangeSpec := { name := "tallyJoins", fn := fun _ => fun
  | [d1, d2, d3] => { results := [.lit (.bool true)], args := [d1, d2, d3] }
  | _ => none }
def tallyJoinsRow : OpenClaim := { program := "ytcjkchjgmgdbgaa", sum := "91717777966bc55d41bf3ae9903febce1fc9f3fa6b9ed3976b93fcf990b351af", func := "garner/garnerlaw09.TallyJoins", spec := "tallyJoins", inPlace := ["slices.overlaps[garner/api.Share]"], unfollowed := true, recurses := true, apart := false }
def TallyJoinsSaid : Prop := tallyJoinsRow.holds Try.pinned (OpenSpec.ofChange tallyJoinsSpec)

/-- ITS FALSE NEIGHBOUR: 'it returns false'. Refute it at one input. -/
def tallyJoinsWrong : ChangeSpec := { name := "tallyJoins", fn := fun _ => fun
  | [d1, d2, d3] => { results := [.lit (.bool false)], args := [d1, d2, d3] }
  | _ => none }
def TallyJoinsWrongFalsely : Prop := tallyJoinsRow.holds Try.pinned (OpenSpec.ofChange tallyJoinsWrong)

/-- 'garnerlaw09.TallySubs': WHATEVER THE INPUT: true; the input reads as it did. -/
def tallySubsSpec : ChangeSpec := { name := "tallySubs", fn := fun _ => fun
  | [d1, d2] => { results := [.lit (.bool true)], args := [d1, d2] }
  | _ => none }
def tallySubsRow : OpenClaim := { program := "ytcjkchjgmgdbgaa", sum := "91717777966bc55d41bf3ae9903febce1fc9f3fa6b9ed3976b93fcf990b351af", func := "garner/garnerlaw09.TallySubs", spec := "tallySubs", inPlace := ["slices.overlaps[garner/api.Share]"], unfollowed := true, recurses := true, apart := false }
def TallySubsSaid : Prop := tallySubsRow.holds Try.pinned (OpenSpec.ofChange tallySubsSpec)

/-- ITS FALSE NEIGHBOUR: 'it returns false'. Refute it at one input. -/
def tallySubsWrong : ChangeSpec := { name := "tallySubs", fn := fun _ => fun
  | [d1, d2] => { results := [.lit (.bool false)], args := [d1, d2] }
  | _ => none }
def TallySubsWrongFalsely : Prop := tallySubsRow.holds Try.pinned (OpenSpec.ofChange tallySubsWrong)

/-- 'garnerlaw09.TallyBack': WHATEVER THE INPUT: true; the input reads as it did. -/
def tallyBackSpec : ChangeSpec := { name := "tallyBack", fn := fun _ => fun
  | [d1, d2] => { results := [.lit (.bool true)], args := [d1, d2] }
  | _ => none }
def tallyBackRow : OpenClaim := { program := "ytcjkchjgmgdbgaa", sum := "91717777966bc55d41bf3ae9903febce1fc9f3fa6b9ed3976b93fcf990b351af", func := "garner/garnerlaw09.TallyBack", spec := "tallyBack", inPlace := ["slices.overlaps[garner/api.Share]"], unfollowed := true, recurses := true, apart := false }
def TallyBackSaid : Prop := tallyBackRow.holds Try.pinned (OpenSpec.ofChange tallyBackSpec)

/-- ITS FALSE NEIGHBOUR: 'it returns false'. Refute it at one input. -/
def tallyBackWrong : ChangeSpec := { name := "tallyBack", fn := fun _ => fun
  | [d1, d2] => { results := [.lit (.bool false)], args := [d1, d2] }
  | _ => none }
def TallyBackWrongFalsely : Prop := tallyBackRow.holds Try.pinned (OpenSpec.ofChange tallyBackWrong)

/-- 'garnerlaw21.RelayDrops': WHATEVER THE INPUT: true; the input reads as it did. -/
def relayDropsSpec : ChangeSpec := { name := "relayDrops", fn := fun _ => fun
  | [d1, d2, d3] => { results := [.lit (.bool true)], args := [d1, d2, d3] }
  | _ => none }
def relayDropsRow : OpenClaim := { program := "ytcjkchjgmgdbgaa", sum := "91717777966bc55d41bf3ae9903febce1fc9f3fa6b9ed3976b93fcf990b351af", func := "garner/garnerlaw21.RelayDrops", spec := "relayDrops", apart := false }
def RelayDropsSaid : Prop := relayDropsRow.holds Try.pinned (OpenSpec.ofChange relayDropsSpec)

/-- ITS FALSE NEIGHBOUR: 'it returns false'. Refute it at one input. -/
def relayDropsWrong : ChangeSpec := { name := "relayDrops", fn := fun _ => fun
  | [d1, d2, d3] => { results := [.lit (.bool false)], args := [d1, d2, d3] }
  | _ => none }
def RelayDropsWrongFalsely : Prop := relayDropsRow.holds Try.pinned (OpenSpec.ofChange relayDropsWrong)

/-- 'garnerlaw21.RelayGets': WHATEVER THE INPUT: true; the input reads as it did. -/
def relayGetsSpec : ChangeSpec := { name := "relayGets", fn := fun _ => fun
  | [d] => { results := [.lit (.bool true)], args := [d] }
  | _ => none }
def relayGetsRow : OpenClaim := { program := "ytcjkchjgmgdbgaa", sum := "91717777966bc55d41bf3ae9903febce1fc9f3fa6b9ed3976b93fcf990b351af", func := "garner/garnerlaw21.RelayGets", spec := "relayGets", unfollowed := true, recurses := true, apart := false }
def RelayGetsSaid : Prop := relayGetsRow.holds Try.pinned (OpenSpec.ofChange relayGetsSpec)

/-- ITS FALSE NEIGHBOUR: 'it returns false'. Refute it at one input. -/
def relayGetsWrong : ChangeSpec := { name := "relayGets", fn := fun _ => fun
  | [d] => { results := [.lit (.bool false)], args := [d] }
  | _ => none }
def RelayGetsWrongFalsely : Prop := relayGetsRow.holds Try.pinned (OpenSpec.ofChange relayGetsWrong)

/-- 'garnerlaw21.RelayPuts': WHATEVER THE INPUT: true; the input reads as it did. -/
def relayPutsSpec : ChangeSpec := { name := "relayPuts", fn := fun _ => fun
  | [d] => { results := [.lit (.bool true)], args := [d] }
  | _ => none }
def relayPutsRow : OpenClaim := { program := "ytcjkchjgmgdbgaa", sum := "91717777966bc55d41bf3ae9903febce1fc9f3fa6b9ed3976b93fcf990b351af", func := "garner/garnerlaw21.RelayPuts", spec := "relayPuts", unfollowed := true, recurses := true, apart := false }
def RelayPutsSaid : Prop := relayPutsRow.holds Try.pinned (OpenSpec.ofChange relayPutsSpec)

/-- ITS FALSE NEIGHBOUR: 'it returns false'. Refute it at one input. -/
def relayPutsWrong : ChangeSpec := { name := "relayPuts", fn := fun _ => fun
  | [d] => { results := [.lit (.bool false)], args := [d] }
  | _ => none }
def RelayPutsWrongFalsely : Prop := relayPutsRow.holds Try.pinned (OpenSpec.ofChange relayPutsWrong)

/-- 'garnerlaw21.RelayFinds': WHATEVER THE INPUT: true; the input reads as it did. -/
def relayFindsSpec : ChangeSpec := { name := "relayFinds", fn := fun _ => fun
  | [d1, d2] => { results := [.lit (.bool true)], args := [d1, d2] }
  | _ => none }
def relayFindsRow : OpenClaim := { program := "ytcjkchjgmgdbgaa", sum := "91717777966bc55d41bf3ae9903febce1fc9f3fa6b9ed3976b93fcf990b351af", func := "garner/garnerlaw21.RelayFinds", spec := "relayFinds", unfollowed := true, recurses := true, apart := false }
def RelayFindsSaid : Prop := relayFindsRow.holds Try.pinned (OpenSpec.ofChange relayFindsSpec)

/-- ITS FALSE NEIGHBOUR: 'it returns false'. Refute it at one input. -/
def relayFindsWrong : ChangeSpec := { name := "relayFinds", fn := fun _ => fun
  | [d1, d2] => { results := [.lit (.bool false)], args := [d1, d2] }
  | _ => none }
def RelayFindsWrongFalsely : Prop := relayFindsRow.holds Try.pinned (OpenSpec.ofChange relayFindsWrong)

/- THE SECOND FORM. 'bulk': how many values and letters a reading holds, each counted each time it is reached (what is shared counts as often as it is met; a slice's spare places count too). A statement '..UptoSaid' is the law's where the arguments, and the package variables that the reading takes, are together of bulk at most 1048576: NARROWER than '..Said'. Prove '..Said' where nothing that the law and all that it calls make is longer than what came in: it says more and counts as full. Else prove '..UptoSaid'. A law counts once. -/
mutual
def uptoBulk {H : Type} : DataW H → Nat
  | .lit (.string bytes) => bytes.length + 1
  | .lit _ => 1
  | .nil => 1
  | .ptr d => uptoBulk d + 1
  | .slice elems spare => uptoBulkAll elems + uptoBulkAll spare + 1
  | .agg parts => uptoBulkAll parts + 1
  | .iface _ d => uptoBulk d + 1
  | .map entries => uptoBulkEntries entries + 1
  | .held _ => 1
def uptoBulkAll {H : Type} : List (DataW H) → Nat
  | [] => 0
  | d :: r => uptoBulk d + uptoBulkAll r
def uptoBulkEntries {H : Type} : List (Lit × DataW H) → Nat
  | [] => 0
  | x :: r => uptoBulkEntry x + uptoBulkEntries r
def uptoBulkEntry {H : Type} : Lit × DataW H → Nat
  | (.string bytes, d) => bytes.length + uptoBulk d + 1
  | (_, d) => uptoBulk d + 1
 end
def uptoSmall : (H : Type) → List (DataW H) → Bool := fun _ ds => decide (uptoBulkAll ds ≤ 1048576)
def OpenSpec.upto (s : _root_.Go.ChangeSpec) : _root_.Go.OpenSpec := { _root_.Go.OpenSpec.ofChange s with cond := some uptoSmall }

/-- 'garnerlaw23.RaftParts', WHERE WHAT IT READS IS OF BULK AT MOST 1048576: true; the input reads as it did. -/
def raftPartsUptoRow : OpenClaim := { program := "ytcjkchjgmgdbgaa", sum := "91717777966bc55d41bf3ae9903febce1fc9f3fa6b9ed3976b93fcf990b351af", func := "garner/garnerlaw23.RaftParts", spec := "raftParts", apart := false, narrowed := true }
def RaftPartsUptoSaid : Prop := raftPartsUptoRow.holds Try.pinned (OpenSpec.upto raftPartsSpec)

/-- 'garnerlaw23.RaftTurns', WHERE WHAT IT READS IS OF BULK AT MOST 1048576: true; the input reads as it did. -/
def raftTurnsUptoRow : OpenClaim := { program := "ytcjkchjgmgdbgaa", sum := "91717777966bc55d41bf3ae9903febce1fc9f3fa6b9ed3976b93fcf990b351af", func := "garner/garnerlaw23.RaftTurns", spec := "raftTurns", apart := false, narrowed := true }
def RaftTurnsUptoSaid : Prop := raftTurnsUptoRow.holds Try.pinned (OpenSpec.upto raftTurnsSpec)

/-- 'garnerlaw23.RaftMay', WHERE WHAT IT READS IS OF BULK AT MOST 1048576: true; the input reads as it did. -/
def raftMayUptoRow : OpenClaim := { program := "ytcjkchjgmgdbgaa", sum := "91717777966bc55d41bf3ae9903febce1fc9f3fa6b9ed3976b93fcf990b351af", func := "garner/garnerlaw23.RaftMay", spec := "raftMay", apart := false, narrowed := true }
def RaftMayUptoSaid : Prop := raftMayUptoRow.holds Try.pinned (OpenSpec.upto raftMaySpec)

/-- 'garnerlaw29.VictimSparse', WHERE WHAT IT READS IS OF BULK AT MOST 1048576: true; the input reads as it did. -/
def victimSparseUptoRow : OpenClaim := { program := "ytcjkchjgmgdbgaa", sum := "91717777966bc55d41bf3ae9903febce1fc9f3fa6b9ed3976b93fcf990b351af", func := "garner/garnerlaw29.VictimSparse", spec := "victimSparse", unfollowed := true, recurses := true, apart := false, narrowed := true }
def VictimSparseUptoSaid : Prop := victimSparseUptoRow.holds Try.pinned (OpenSpec.upto victimSparseSpec)

/-- 'garnerlaw09.TallyAdds', WHERE WHAT IT READS IS OF BULK AT MOST 1048576: true; the input reads as it did. -/
def tallyAddsUptoRow : OpenClaim := { program := "ytcjkchjgmgdbgaa", sum := "91717777966bc55d41bf3ae9903febce1fc9f3fa6b9ed3976b93fcf990b351af", func := "garner/garnerlaw09.TallyAdds", spec := "tallyAdds", inPlace := ["slices.overlaps[garner/api.Share]"], unfollowed := true, recurses := true, apart := false, narrowed := true }
def TallyAddsUptoSaid : Prop := tallyAddsUptoRow.holds Try.pinned (OpenSpec.upto tallyAddsSpec)

/-- 'garnerlaw09.TallyJoins', WHERE WHAT IT READS IS OF BULK AT MOST 1048576: true; the input reads as it did. -/
def tallyJoinsUptoRow : OpenClaim := { program := "ytcjkchjgmgdbgaa", sum := "91717777966bc55d41bf3ae9903febce1fc9f3fa6b9ed3976b93fcf990b351af", func := "garner/garnerlaw09.TallyJoins", spec := "tallyJoins", inPlace := ["slices.overlaps[garner/api.Share]"], unfollowed := true, recurses := true, apart := false, narrowed := true }
def TallyJoinsUptoSaid : Prop := tallyJoinsUptoRow.holds Try.pinned (OpenSpec.upto tallyJoinsSpec)

/-- 'garnerlaw09.TallySubs', WHERE WHAT IT READS IS OF BULK AT MOST 1048576: true; the input reads as it did. -/
def tallySubsUptoRow : OpenClaim := { program := "ytcjkchjgmgdbgaa", sum := "91717777966bc55d41bf3ae9903febce1fc9f3fa6b9ed3976b93fcf990b351af", func := "garner/garnerlaw09.TallySubs", spec := "tallySubs", inPlace := ["slices.overlaps[garner/api.Share]"], unfollowed := true, recurses := true, apart := false, narrowed := true }
def TallySubsUptoSaid : Prop := tallySubsUptoRow.holds Try.pinned (OpenSpec.upto tallySubsSpec)

/-- 'garnerlaw09.TallyBack', WHERE WHAT IT READS IS OF BULK AT MOST 1048576: true; the input reads as it did. -/
def tallyBackUptoRow : OpenClaim := { program := "ytcjkchjgmgdbgaa", sum := "91717777966bc55d41bf3ae9903febce1fc9f3fa6b9ed3976b93fcf990b351af", func := "garner/garnerlaw09.TallyBack", spec := "tallyBack", inPlace := ["slices.overlaps[garner/api.Share]"], unfollowed := true, recurses := true, apart := false, narrowed := true }
def TallyBackUptoSaid : Prop := tallyBackUptoRow.holds Try.pinned (OpenSpec.upto tallyBackSpec)

/-- 'garnerlaw21.RelayDrops', WHERE WHAT IT READS IS OF BULK AT MOST 1048576: true; the input reads as it did. -/
def relayDropsUptoRow : OpenClaim := { program := "ytcjkchjgmgdbgaa", sum := "91717777966bc55d41bf3ae9903febce1fc9f3fa6b9ed3976b93fcf990b351af", func := "garner/garnerlaw21.RelayDrops", spec := "relayDrops", apart := false, narrowed := true }
def RelayDropsUptoSaid : Prop := relayDropsUptoRow.holds Try.pinned (OpenSpec.upto relayDropsSpec)

/-- 'garnerlaw21.RelayGets', WHERE WHAT IT READS IS OF BULK AT MOST 1048576: true; the input reads as it did. -/
def relayGetsUptoRow : OpenClaim := { program := "ytcjkchjgmgdbgaa", sum := "91717777966bc55d41bf3ae9903febce1fc9f3fa6b9ed3976b93fcf990b351af", func := "garner/garnerlaw21.RelayGets", spec := "relayGets", unfollowed := true, recurses := true, apart := false, narrowed := true }
def RelayGetsUptoSaid : Prop := relayGetsUptoRow.holds Try.pinned (OpenSpec.upto relayGetsSpec)

/-- 'garnerlaw21.RelayPuts', WHERE WHAT IT READS IS OF BULK AT MOST 1048576: true; the input reads as it did. -/
def relayPutsUptoRow : OpenClaim := { program := "ytcjkchjgmgdbgaa", sum := "91717777966bc55d41bf3ae9903febce1fc9f3fa6b9ed3976b93fcf990b351af", func := "garner/garnerlaw21.RelayPuts", spec := "relayPuts", unfollowed := true, recurses := true, apart := false, narrowed := true }
def RelayPutsUptoSaid : Prop := relayPutsUptoRow.holds Try.pinned (OpenSpec.upto relayPutsSpec)

/-- 'garnerlaw21.RelayFinds', WHERE WHAT IT READS IS OF BULK AT MOST 1048576: true; the input reads as it did. -/
def relayFindsUptoRow : OpenClaim := { program := "ytcjkchjgmgdbgaa", sum := "91717777966bc55d41bf3ae9903febce1fc9f3fa6b9ed3976b93fcf990b351af", func := "garner/garnerlaw21.RelayFinds", spec := "relayFinds", unfollowed := true, recurses := true, apart := false, narrowed := true }
def RelayFindsUptoSaid : Prop := relayFindsUptoRow.holds Try.pinned (OpenSpec.upto relayFindsSpec)

end Rows
end Go.Proofs.Ytcjkchjgmgdbgaa
