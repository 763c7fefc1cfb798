/- The law RelayPuts: its row, out of the printed law's contract and the pure statement. -/
import Derived.Test.YtjebpaahpehfnaaRows
import Derived.Test.YtjebpaahpehfnaaStRelayPuts
import Derived.Test.YtjebpaahpehfnaaPureRelayPuts
import Derived.WalkKit
import Derived.ProofKit
import Derived.OpenShut
import Derived.ShutString
import Derived.ChangeOld
import Derived.Below
import Derived.SizedLaws
namespace Go.Proofs.Ytjebpaahpehfnaa.relayPuts
open Go.ChangeShapes Go.WideShapes Go.ChangeAt Go.RowKit Go.Proofs.YtjebpaahpehfnaaW.PrintWords Go.Proofs.Ytjebpaahpehfnaa.U
open Go.Proofs.Ytjebpaahpehfnaa.PRelayPuts Go.Proofs.Ytjebpaahpehfnaa.StRelayPuts
open Go.ChangeMaps (open_string shut_string)
set_option linter.unusedVariables false
theorem own : ownKnob Try.prog.godebug = none := by kernel_rfl
theorem laidOut : laidOutB Try.prog = true := by kernel_rfl
set_option maxRecDepth 100000 in
set_option maxHeartbeats 1000000 in
theorem lifted (os : Os) (started : os.Started) (H : Type) (enc : TypeId × Value → H) :
    ReturnsInHanded {} Try.checked os 4 .any (Rows.relayPutsSpec.pre6 enc Try.prog Try.f4 Rows.relayPutsRow.domain false) (Rows.relayPutsSpec.post enc Try.prog Try.f4 false true false false) := by
  refine returnsInHanded_of_change_sized (C := Try.checked) own started (by kernel_rfl) Try.func4
    (ChangeSpec.witness6 (enc := enc) (C := Try.checked) false ⟨#[], #[.agg #[.int .i64 0, .slice none 0 0]], []⟩ 8 (by kernel_rfl) (by kernel_rfl) (by kernel_rfl) (by kernel_rfl)) ?_
  intro W base args ds gs before hval0 hW hcnd hsz0 _
  have hsz : (DataW.weightsEach Try.prog (Try.f4.params.toList ++ Rows.relayPutsSpec.plain.varTypes Try.prog) (ds ++ gs)).all (· ≤ reachBytes) = true := hsz0
  have hval : ∀ (j : Nat) t v, Try.f4.params[j]? = some t → args[j]? = some v → Value.okWide Try.prog W .any base t v := hval0
  have hW' := hW
  obtain ⟨p, q, hA0, hV, rfl, hfz, hnd⟩ := hW
  have hA : DataW.TrodAll enc Try.prog W 0 (fun _ => true) true Try.f4.params.toList args.toList ds p := hA0
  rw [Try.params4] at hA hval hsz
  obtain ⟨v0, vs0, d0, ds0, p0, q0, hargs, rfl, rfl, h0, r0⟩ := trodAll_cons hA
  obtain ⟨rfl, rfl, rfl⟩ := trodAll_nil r0
  obtain rfl : args = #[v0] := by cases args; simp_all
  obtain ⟨rfl, rfl⟩ := trodVars_none hV
  obtain ⟨⟨cl0⟩, rfl⟩ := okWide_agg Try.underlying29 (hval 0 29 v0 rfl rfl)
  have k0 := h0
  have lt0 : ∀ x ∈ p0, x.block < W.heap.size := by obtain ⟨m, hm⟩ := k0; exact DataW.trod_lt m _ _ _ hm
  obtain ⟨⟨a0_0, l0_1⟩, hK0, ⟨w0_0, ⟨w0_1, y0_1, g0_1⟩⟩⟩ : ∃ x : (Int × (List S46)), (Kd.pair (Kd.int .i64) (Kd.slice 46 k46)).K W x cl0 ∧ (((Lit.int .i64 x.1).wf = true) ∧ (x.2.length ≤ maxLen ∧ x.2.length * 40 ≤ 140737488351232 ∧ ∀ y ∈ x.2, g46 y)) := by
    obtain ⟨fuel, hf⟩ := h0
    exact op29f H enc W fuel cl0 _ hf (weights_arg hsz (j := 0) (t := 29) rfl rfl)
  obtain ⟨_, _, rfl, rfl, ⟨A0_1, c0_1, rfl, hc0_1, hr0_1⟩⟩ := hK0
  clear hA0 hval0 hsz0 hsz
  obtain ⟨k, hk⟩ := Pure.RelayPuts a0_0 l0_1 w0_0 w0_1 y0_1 g0_1
  refine ((PRelayPuts.garnerlaw21_RelayPuts.calls (k := k) (r := true) (w := W) (hr0_1 := hr0_1) (hc0_1 := hc0_1) (h := hk)).mono fun e W' he => ?_)
  obtain ⟨rfl, bel⟩ := he
  exact ⟨_, rfl, _, _, _, [], _, [], hW', trodAll_mk1 (shut_bool Try.underlying4 _), (trodAll_cons_mk (Below.trod laidOut (by kernel_rfl) (of_decide_eq_true (by kernel_rfl)) k0 bel lt0) trodAll_mk0), rfl, bel.frame _, fun h => by cases h⟩
theorem over : Rows.relayPutsRow.holds Try.pinned (OpenSpec.ofChange Rows.relayPutsSpec) :=
  OpenClaim.holds_of_wide 4 Try.f4 rfl rfl rfl rfl rfl rfl rfl ⟨rfl, rfl, rfl, rfl, rfl⟩ rfl rfl rfl rfl rfl (by kernel_rfl) Try.func4 (by kernel_rfl)
    (of_decide_eq_true (by kernel_rfl)) (by unfold Func.isWrapper; first | (rw [if_pos (by decide +kernel)]; kernel_rfl) | (rw [if_neg (by decide +kernel)]; exact ⟨rfl, rfl⟩))
    (fun os started H enc _ => lifted os started H enc)
theorem proved : Rows.RelayPutsSaid := over
end Go.Proofs.Ytjebpaahpehfnaa.relayPuts
namespace Go.Proofs.Ytjebpaahpehfnaa
/-- The row, under a short name, for the claim. -/
theorem relayPuts_holds : Rows.RelayPutsSaid := relayPuts.proved
end Go.Proofs.Ytjebpaahpehfnaa
