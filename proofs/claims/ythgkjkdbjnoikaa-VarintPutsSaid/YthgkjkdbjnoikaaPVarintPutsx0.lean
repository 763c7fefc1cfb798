/- Written by a program of this work (wip/tools/patch_print.py: the kit's print with changes of ours): the functions that the law reaches as plain Lean functions, and that the machine's calls answer just that. -/
import Derived.Test.YthgkjkdbjnoikaaProg
import Derived.Below
import Derived.Deep.Draws
import Derived.Deep.AppendLies
import Derived.Maps.AppendAt
import Derived.OwnWalk
import Derived.Laws.BytesArg
import Derived.Laws.MakeOwn
import Derived.Laws.OwnMore
import Derived.Deep.OwnRows
import Derived.Tactics
import Derived.Lib.ConvBytes
import Derived.Laws.Slices
import Derived.WalkKit
import Derived.KernelRfl
import Derived.RowKit3
import Derived.Deep.LoopGhost
import Derived.Deep.QuietTactic
import Derived.BigQuiet
import Derived.WideLaws
import Derived.Deep.DeepCutAuto
import Derived.Deep.CutBlock
import Derived.Deep.RegionHeld3
import Derived.Laws.Rows
import Derived.Lib.AppendStr
import Derived.ArgAppend
import Derived.Laws.IdiomCopy
import Derived.OrdersHeld
import Derived.Laws.BitsLemmas
import Derived.RowKit
import Derived.Lib.Bytealg
import Derived.Laws.Externs
import Derived.WalkSpells
import Derived.Test.YthgkjkdbjnoikaaWWords
import Derived.Test.YthgkjkdbjnoikaaWLast
import Derived.Test.YthgkjkdbjnoikaaWTab
import Derived.Test.YthgkjkdbjnoikaaWFour
import Derived.Test.YthgkjkdbjnoikaaWQPut
import Derived.Test.YthgkjkdbjnoikaaWApart
import Derived.Test.YthgkjkdbjnoikaaWArr
import Derived.Test.YthgkjkdbjnoikaaWZeros
import Derived.Test.YthgkjkdbjnoikaaWFoot
import Derived.Test.YthgkjkdbjnoikaaWKept
import Derived.Test.YthgkjkdbjnoikaaWShare
import Derived.Test.YthgkjkdbjnoikaaWN
import Derived.Test.YthgkjkdbjnoikaaWFootNe
import Derived.Test.YthgkjkdbjnoikaaWAt
import Derived.Test.YthgkjkdbjnoikaaWEqStruct
import Derived.Test.YthgkjkdbjnoikaaWRepsOne
import Derived.Test.YthgkjkdbjnoikaaWInv
import Derived.Test.YthgkjkdbjnoikaaWInvWords
import Derived.Test.YthgkjkdbjnoikaaWGuard
import Derived.Test.YthgkjkdbjnoikaaWNEv
import Derived.Test.YthgkjkdbjnoikaaWMore
namespace Go.Proofs.Ythgkjkdbjnoikaa.PVarintPuts
open Go.RowKit Go.Proofs.YthgkjkdbjnoikaaW.PrintWords Go.Proofs.YthgkjkdbjnoikaaW.PrintLast Go.Proofs.YthgkjkdbjnoikaaW.PrintMore
attribute [local go_sem] max2_int min2_int max_two min_two max_three min_three max_four min_four   -- for this text's walks alone
set_option linter.unusedVariables false
set_option linter.unusedSimpArgs false



def errW : Option Int → Value
  | none => .nilIface
  | some c => .iface 0 (.int .i64 c)
theorem errW_none : errW none = .nilIface := rfl
theorem errW_some (c : Int) : errW (some c) = .iface 0 (.int .i64 c) := rfl

theorem wrap64_l1 : wrap64 1 = 1 := by unfold wrap64; omega
theorem wrap64_l2 : wrap64 2 = 2 := by unfold wrap64; omega
theorem wrap64_l3 : wrap64 3 = 3 := by unfold wrap64; omega
theorem wrap64_l4 : wrap64 4 = 4 := by unfold wrap64; omega
theorem wrap64_l5 : wrap64 5 = 5 := by unfold wrap64; omega
theorem info5 : (Try.prog.info? 5).map (fun i => (i.zero, i.size, i.bytes)) = some (some (.int .u8 0), 1, 1) := by kernel_rfl
theorem info48 : (Try.prog.info? 48).map (fun i => (i.zero, i.size, i.bytes)) = some (some (.int .u64 0), 1, 8) := by kernel_rfl
-- the values' own types

end Go.Proofs.Ythgkjkdbjnoikaa.PVarintPuts
