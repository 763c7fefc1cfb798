/- The law LiveNobody: its row, out of the printed law's contract and the pure statement. -/
import Derived.Test.YtpefjfibhjnijaaRows
import Derived.Test.YtpefjfibhjnijaaStLiveNobody
import Derived.Test.YtpefjfibhjnijaaPureLiveNobody
import Derived.WalkKit
import Derived.ProofKit
import Derived.OpenShut
import Derived.ShutString
import Derived.ChangeOld
import Derived.Below
import Derived.SizedLaws
namespace Go.Proofs.Ytpefjfibhjnijaa.liveNobody
open Go.ChangeShapes Go.WideShapes Go.ChangeAt Go.RowKit Go.Proofs.YtpefjfibhjnijaaW.PrintWords Go.Proofs.Ytpefjfibhjnijaa.U
open Go.Proofs.Ytpefjfibhjnijaa.PLiveNobody Go.Proofs.Ytpefjfibhjnijaa.StLiveNobody
open Go.ChangeMaps (open_string shut_string)
set_option linter.unusedVariables false
theorem own : ownKnob Try.prog.godebug = none := by kernel_rfl
theorem laidOut : laidOutB Try.prog = true := by kernel_rfl
set_option maxRecDepth 100000 in
set_option maxHeartbeats 1000000 in
theorem lifted (os : Os) (started : os.Started) (H : Type) (enc : TypeId × Value → H) :
 ReturnsInHanded {} Try.checked os 3 .any (Rows.liveNobodySpec.pre6 enc Try.prog Try.f3 Rows.liveNobodyRow.domain false) (Rows.liveNobodySpec.post enc Try.prog Try.f3 false true false false) := by
 refine returnsInHanded_of_change_sized (C := Try.checked) own started (by kernel_rfl) Try.func3
  (ChangeSpec.witness6 (enc := enc) (C := Try.checked) false ⟨#[], #[.agg #[.int .i64 0, .int .i64 0, .int .i64 0, .int .u32 0]], []⟩ 8 (by kernel_rfl) (by kernel_rfl) (by kernel_rfl) (by kernel_rfl)) ?_
 intro W base args ds gs before hval0 hW hcnd hsz0 _
 have hsz : (DataW.weightsEach Try.prog (Try.f3.params.toList ++ Rows.liveNobodySpec.plain.varTypes Try.prog) (ds ++ gs)).all (· ≤ reachBytes) = true := hsz0
 have hval : ∀ (j : Nat) t v, Try.f3.params[j]? = some t → args[j]? = some v → Value.okWide Try.prog W .any base t v := hval0
 have hW' := hW
 obtain ⟨p, q, hA0, hV, rfl, hfz, hnd⟩ := hW
 have hA : DataW.TrodAll enc Try.prog W 0 (fun _ => true) true Try.f3.params.toList args.toList ds p := hA0
 rw [Try.params3] at hA hval hsz
 obtain ⟨v0, vs0, d0, ds0, p0, q0, hargs, rfl, rfl, h0, r0⟩ := trodAll_cons hA
 obtain ⟨rfl, rfl, rfl⟩ := trodAll_nil r0
 obtain rfl : args = #[v0] := by cases args; simp_all
 obtain ⟨rfl, rfl⟩ := trodVars_none hV
 obtain ⟨⟨cl0⟩, rfl⟩ := okWide_agg Try.underlying24 (hval 0 24 v0 rfl rfl)
 have k0 := h0
 have lt0 : ∀ x ∈ p0, x.block < W.heap.size := by obtain ⟨m, hm⟩ := k0; exact DataW.trod_lt m _ _ _ hm
 obtain ⟨⟨a0_0, a0_1, a0_2, a0_3⟩, hK0, ⟨w0_0, w0_1, w0_2, w0_3⟩⟩ : ∃ x : (Int × Int × Int × Int), (Kd.pair (Kd.int .i64) (Kd.pair (Kd.int .i64) (Kd.pair (Kd.int .i64) (Kd.int .u32)))).K W x cl0 ∧ (((Lit.int .i64 x.1).wf = true) ∧ ((Lit.int .i64 x.2.1).wf = true) ∧ ((Lit.int .i64 x.2.2.1).wf = true) ∧ ((Lit.int .u32 x.2.2.2).wf = true)) := by
  obtain ⟨fuel, hf⟩ := h0
  exact op24f H enc W fuel cl0 _ hf (weights_arg hsz (j := 0) (t := 24) rfl rfl)
 obtain ⟨_, _, rfl, rfl, ⟨_, _, rfl, rfl, ⟨_, _, rfl, rfl, rfl⟩⟩⟩ := hK0
 clear hA0 hval0 hsz0 hsz
 obtain ⟨k, hk⟩ := Pure.LiveNobody a0_0 a0_1 a0_2 a0_3 w0_0 w0_1 w0_2 w0_3
 refine ((PLiveNobody.garnerlaw28_LiveNobody.calls (k := k) (r := true) (w := W) (h := hk)).mono fun e W' he => ?_)
 obtain ⟨rfl, bel⟩ := he
 exact ⟨_, rfl, _, _, _, [], _, [], hW', trodAll_mk1 (shut_bool Try.underlying4 _), (trodAll_cons_mk (Below.trod laidOut (by kernel_rfl) (of_decide_eq_true (by kernel_rfl)) k0 bel lt0) trodAll_mk0), rfl, bel.frame _, fun h => by cases h⟩
theorem over : Rows.liveNobodyRow.holds Try.pinned (OpenSpec.ofChange Rows.liveNobodySpec) :=
 OpenClaim.holds_of_wide 3 Try.f3 rfl rfl rfl rfl rfl rfl rfl ⟨rfl, rfl, rfl, rfl, rfl⟩ rfl rfl rfl rfl rfl (by kernel_rfl) Try.func3 (by kernel_rfl)
  (of_decide_eq_true (by kernel_rfl)) (by unfold Func.isWrapper; first | (rw [if_pos (by decide +kernel)]; kernel_rfl) | (rw [if_neg (by decide +kernel)]; exact ⟨rfl, rfl⟩))
  (fun os started H enc _ => lifted os started H enc)
theorem proved : Rows.LiveNobodySaid := over
end Go.Proofs.Ytpefjfibhjnijaa.liveNobody
namespace Go.Proofs.Ytpefjfibhjnijaa
/-- The row, under a short name, for the claim. -/
theorem liveNobody_holds : Rows.LiveNobodySaid := liveNobody.proved
end Go.Proofs.Ytpefjfibhjnijaa
