/- The law RelayFinds: its row, out of the printed law's contract and the pure statement. -/
import Derived.Test.YtklpoeaoojgljaaRows
import Derived.Test.YtklpoeaoojgljaaStRelayFinds
import Derived.Test.YtklpoeaoojgljaaPureRelayFinds
import Derived.WalkKit
import Derived.ProofKit
import Derived.OpenShut
import Derived.ShutString
import Derived.ChangeOld
import Derived.Below
import Derived.SizedLaws
namespace Go.Proofs.Ytklpoeaoojgljaa.relayFinds
open Go.ChangeShapes Go.WideShapes Go.ChangeAt Go.RowKit Go.Proofs.YtklpoeaoojgljaaW.PrintWords Go.Proofs.Ytklpoeaoojgljaa.U
open Go.Proofs.Ytklpoeaoojgljaa.PRelayFinds Go.Proofs.Ytklpoeaoojgljaa.StRelayFinds
open Go.ChangeMaps (open_string shut_string)
set_option linter.unusedVariables false
theorem own : ownKnob Try.prog.godebug = none := by kernel_rfl
theorem laidOut : laidOutB Try.prog = true := by kernel_rfl
set_option maxRecDepth 100000 in
set_option maxHeartbeats 1000000 in
theorem lifted (os : Os) (started : os.Started) (H : Type) (enc : TypeId × Value → H) :
 ReturnsInHanded {} Try.checked os 4 .any (Rows.relayFindsSpec.pre6 enc Try.prog Try.f4 Rows.relayFindsRow.domain false) (Rows.relayFindsSpec.post enc Try.prog Try.f4 false true false false) := by
 refine returnsInHanded_of_change_sized (C := Try.checked) own started (by kernel_rfl) Try.func4
  (ChangeSpec.witness6 (enc := enc) (C := Try.checked) false ⟨#[], #[.slice none 0 0, .agg #[.int .i64 0, .int .i64 0, .int .i64 0, .int .u32 0]], []⟩ 8 (by kernel_rfl) (by kernel_rfl) (by kernel_rfl) (by kernel_rfl)) ?_
 intro W base args ds gs before hval0 hW hcnd hsz0 _
 have hsz : (DataW.weightsEach Try.prog (Try.f4.params.toList ++ Rows.relayFindsSpec.plain.varTypes Try.prog) (ds ++ gs)).all (· ≤ reachBytes) = true := hsz0
 have hval : ∀ (j : Nat) t v, Try.f4.params[j]? = some t → args[j]? = some v → Value.okWide Try.prog W .any base t v := hval0
 have hW' := hW
 obtain ⟨p, q, hA0, hV, rfl, hfz, hnd⟩ := hW
 have hA : DataW.TrodAll enc Try.prog W 0 (fun _ => true) true Try.f4.params.toList args.toList ds p := hA0
 rw [Try.params4] at hA hval hsz
 obtain ⟨v0, vs0, d0, ds0, p0, q0, hargs, rfl, rfl, h0, r0⟩ := trodAll_cons hA
 obtain ⟨v1, vs1, d1, ds1, p1, q1, rfl, rfl, rfl, h1, r1⟩ := trodAll_cons r0
 obtain ⟨rfl, rfl, rfl⟩ := trodAll_nil r1
 obtain rfl : args = #[v0, v1] := by cases args; simp_all
 obtain ⟨rfl, rfl⟩ := trodVars_none hV
 obtain ⟨A0, len0, c0, rfl⟩ := okWide_slice Try.underlying22 (hval 0 22 v0 rfl rfl)
 have k0 := h0
 have lt0 : ∀ x ∈ p0, x.block < W.heap.size := by obtain ⟨m, hm⟩ := k0; exact DataW.trod_lt m _ _ _ hm
 obtain ⟨l0, w0, hc0, hr0, y0, g0⟩ : ∃ xs : List S50, xs.length ≤ maxLen ∧ len0 = xs.length ∧ (xs.length ≤ c0 ∧ Kd.C k50 W A0 xs.length xs) ∧ xs.length * 40 ≤ 140737488351232 ∧ ∀ y ∈ xs, g50 y := by
  obtain ⟨fuel, hf⟩ := h0
  obtain ⟨xs, e1, e2, e3, e4, e6, e5⟩ := opens_row Try.underlying22 op50 (by kernel_rfl) (by kernel_rfl) hf (weights_arg hsz (j := 0) (t := 22) rfl rfl)
  exact ⟨xs, by omega, e1.symm, ⟨by omega, e4⟩, e6, e5⟩
 subst hc0
 obtain ⟨⟨cl1⟩, rfl⟩ := okWide_agg Try.underlying25 (hval 1 25 v1 rfl rfl)
 have k1 := h1
 have lt1 : ∀ x ∈ p1, x.block < W.heap.size := by obtain ⟨m, hm⟩ := k1; exact DataW.trod_lt m _ _ _ hm
 obtain ⟨⟨a1_0, a1_1, a1_2, a1_3⟩, hK1, ⟨w1_0, w1_1, w1_2, w1_3⟩⟩ : ∃ x : (Int × Int × Int × Int), (Kd.pair (Kd.int .i64) (Kd.pair (Kd.int .i64) (Kd.pair (Kd.int .i64) (Kd.int .u32)))).K W x cl1 ∧ (((Lit.int .i64 x.1).wf = true) ∧ ((Lit.int .i64 x.2.1).wf = true) ∧ ((Lit.int .i64 x.2.2.1).wf = true) ∧ ((Lit.int .u32 x.2.2.2).wf = true)) := by
  obtain ⟨fuel, hf⟩ := h1
  exact op25f H enc W fuel cl1 _ hf (weights_arg hsz (j := 1) (t := 25) rfl rfl)
 obtain ⟨_, _, rfl, rfl, ⟨_, _, rfl, rfl, ⟨_, _, rfl, rfl, rfl⟩⟩⟩ := hK1
 clear hA0 hval0 hsz0 hsz
 obtain ⟨k, hk⟩ := Pure.RelayFinds l0 a1_0 a1_1 a1_2 a1_3 w0 y0 g0 w1_0 w1_1 w1_2 w1_3
 refine ((PRelayFinds.garnerlaw21_RelayFinds.calls (k := k) (r := true) (w := W) (hr0 := hr0.2) (hc0 := hr0.1) (h := hk)).mono fun e W' he => ?_)
 obtain ⟨rfl, bel⟩ := he
 exact ⟨_, rfl, _, _, _, [], _, [], hW', trodAll_mk1 (shut_bool Try.underlying4 _), (trodAll_cons_mk (Below.trod laidOut (by kernel_rfl) (of_decide_eq_true (by kernel_rfl)) k0 bel lt0) (trodAll_cons_mk (Below.trod laidOut (by kernel_rfl) (of_decide_eq_true (by kernel_rfl)) k1 bel lt1) trodAll_mk0)), rfl, bel.frame _, fun h => by cases h⟩
theorem over : Rows.relayFindsRow.holds Try.pinned (OpenSpec.ofChange Rows.relayFindsSpec) :=
 OpenClaim.holds_of_wide 4 Try.f4 rfl rfl rfl rfl rfl rfl rfl ⟨rfl, rfl, rfl, rfl, rfl⟩ rfl rfl rfl rfl rfl (by kernel_rfl) Try.func4 (by kernel_rfl)
  (of_decide_eq_true (by kernel_rfl)) (by unfold Func.isWrapper; first | (rw [if_pos (by decide +kernel)]; kernel_rfl) | (rw [if_neg (by decide +kernel)]; exact ⟨rfl, rfl⟩))
  (fun os started H enc _ => lifted os started H enc)
theorem proved : Rows.RelayFindsSaid := over
end Go.Proofs.Ytklpoeaoojgljaa.relayFinds
namespace Go.Proofs.Ytklpoeaoojgljaa
/-- The row, under a short name, for the claim. -/
theorem relayFinds_holds : Rows.RelayFindsSaid := relayFinds.proved
end Go.Proofs.Ytklpoeaoojgljaa
