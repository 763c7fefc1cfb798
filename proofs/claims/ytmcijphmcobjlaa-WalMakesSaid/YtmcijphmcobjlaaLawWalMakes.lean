/- The law WalMakes: its row, out of the printed law's contract and the pure statement. -/
import Derived.Test.YtmcijphmcobjlaaRows
import Derived.Test.YtmcijphmcobjlaaStWalMakes
import Derived.Test.YtmcijphmcobjlaaPureWalMakes
import Derived.WalkKit
import Derived.ProofKit
import Derived.OpenShut
import Derived.ShutString
import Derived.ChangeOld
import Derived.Below
import Derived.SizedLaws
namespace Go.Proofs.Ytmcijphmcobjlaa.walMakes
open Go.ChangeShapes Go.WideShapes Go.ChangeAt Go.RowKit Go.Proofs.YtmcijphmcobjlaaW.PrintWords Go.Proofs.Ytmcijphmcobjlaa.U
open Go.Proofs.Ytmcijphmcobjlaa.PWalMakes Go.Proofs.Ytmcijphmcobjlaa.StWalMakes
open Go.ChangeMaps (open_string shut_string)
set_option linter.unusedVariables false
theorem own : ownKnob Try.prog.godebug = none := by kernel_rfl
theorem laidOut : laidOutB Try.prog = true := by kernel_rfl
set_option maxRecDepth 100000 in
set_option maxHeartbeats 1000000 in
theorem lifted (os : Os) (started : os.Started) (H : Type) (enc : TypeId × Value → H) :
 ReturnsInHanded {} Try.checked os 3 .any (Rows.walMakesSpec.pre6 enc Try.prog Try.f3 Rows.walMakesRow.domain false) (Rows.walMakesSpec.post enc Try.prog Try.f3 false true false false) := by
 refine returnsInHanded_of_change_sized (C := Try.checked) own started (by kernel_rfl) Try.func3
  (ChangeSpec.witness6 (enc := enc) (C := Try.checked) false ⟨#[], #[.agg #[.int .i64 0, .int .i64 0, .slice none 0 0, .int .i64 0, .int .i64 0, .int .i64 0, .int .i64 0], .slice none 0 0], []⟩ 8 (by kernel_rfl) (by kernel_rfl) (by kernel_rfl) (by kernel_rfl)) ?_
 intro W base args ds gs before hval0 hW hcnd hsz0 _
 have hsz : (DataW.weightsEach Try.prog (Try.f3.params.toList ++ Rows.walMakesSpec.plain.varTypes Try.prog) (ds ++ gs)).all (· ≤ reachBytes) = true := hsz0
 have hval : ∀ (j : Nat) t v, Try.f3.params[j]? = some t → args[j]? = some v → Value.okWide Try.prog W .any base t v := hval0
 have hW' := hW
 obtain ⟨p, q, hA0, hV, rfl, hfz, hnd⟩ := hW
 have hA : DataW.TrodAll enc Try.prog W 0 (fun _ => true) true Try.f3.params.toList args.toList ds p := hA0
 rw [Try.params3] at hA hval hsz
 obtain ⟨v0, vs0, d0, ds0, p0, q0, hargs, rfl, rfl, h0, r0⟩ := trodAll_cons hA
 obtain ⟨v1, vs1, d1, ds1, p1, q1, rfl, rfl, rfl, h1, r1⟩ := trodAll_cons r0
 obtain ⟨rfl, rfl, rfl⟩ := trodAll_nil r1
 obtain rfl : args = #[v0, v1] := by cases args; simp_all
 obtain ⟨rfl, rfl⟩ := trodVars_none hV
 obtain ⟨⟨cl0⟩, rfl⟩ := okWide_agg Try.underlying26 (hval 0 26 v0 rfl rfl)
 have k0 := h0
 have lt0 : ∀ x ∈ p0, x.block < W.heap.size := by obtain ⟨m, hm⟩ := k0; exact DataW.trod_lt m _ _ _ hm
 obtain ⟨⟨a0_0, a0_1, l0_2, ⟨a0_3, a0_4, a0_5⟩, a0_6⟩, hK0, ⟨w0_0, w0_1, ⟨w0_2, y0_2, g0_2⟩, ⟨w0_3, w0_4, w0_5⟩, w0_6⟩⟩ : ∃ x : (Int × Int × (List S54) × (Int × Int × Int) × Int), (Kd.pair (Kd.int .i64) (Kd.pair (Kd.int .i64) (Kd.pair (Kd.slice 54 k54) (Kd.pair (Kd.pair (Kd.int .i64) (Kd.pair (Kd.int .i64) (Kd.int .i64))) (Kd.int .i64))))).K W x cl0 ∧ (((Lit.int .i64 x.1).wf = true) ∧ ((Lit.int .i64 x.2.1).wf = true) ∧ (x.2.2.1.length ≤ maxLen ∧ x.2.2.1.length * 104 ≤ 140737488351232 ∧ ∀ y ∈ x.2.2.1, g54 y) ∧ (((Lit.int .i64 x.2.2.2.1.1).wf = true) ∧ ((Lit.int .i64 x.2.2.2.1.2.1).wf = true) ∧ ((Lit.int .i64 x.2.2.2.1.2.2).wf = true)) ∧ ((Lit.int .i64 x.2.2.2.2).wf = true)) := by
  obtain ⟨fuel, hf⟩ := h0
  exact op26f H enc W fuel cl0 _ hf (weights_arg hsz (j := 0) (t := 26) rfl rfl)
 obtain ⟨_, _, rfl, rfl, ⟨_, _, rfl, rfl, ⟨_, _, rfl, ⟨A0_2, c0_2, rfl, hc0_2, hr0_2⟩, ⟨_, _, rfl, ⟨_, _, rfl, rfl, ⟨_, _, rfl, rfl, rfl⟩⟩, rfl⟩⟩⟩⟩ := hK0
 obtain ⟨A1, len1, c1, rfl⟩ := okWide_slice Try.underlying27 (hval 1 27 v1 rfl rfl)
 have k1 := h1
 have lt1 : ∀ x ∈ p1, x.block < W.heap.size := by obtain ⟨m, hm⟩ := k1; exact DataW.trod_lt m _ _ _ hm
 obtain ⟨l1, w1, hc1, hr1, y1, g1⟩ : ∃ xs : List S34, xs.length ≤ maxLen ∧ len1 = xs.length ∧ (xs.length ≤ c1 ∧ Kd.C k34 W A1 xs.length xs) ∧ xs.length * 64 ≤ 140737488351232 ∧ ∀ y ∈ xs, g34 y := by
  obtain ⟨fuel, hf⟩ := h1
  obtain ⟨xs, e1, e2, e3, e4, e6, e5⟩ := opens_row Try.underlying27 op34 (by kernel_rfl) (by kernel_rfl) hf (weights_arg hsz (j := 1) (t := 27) rfl rfl)
  exact ⟨xs, by omega, e1.symm, ⟨by omega, e4⟩, e6, e5⟩
 subst hc1
 clear hA0 hval0 hsz0 hsz
 obtain ⟨k, hk⟩ := Pure.WalMakes a0_0 a0_1 l0_2 a0_3 a0_4 a0_5 a0_6 l1 w0_0 w0_1 w0_2 y0_2 g0_2 w0_3 w0_4 w0_5 w0_6 w1 y1 g1
 refine ((PWalMakes.garnerlaw24_WalMakes.calls (k := k) (r := true) (w := W) (hr0_2 := hr0_2) (hc0_2 := hc0_2) (hr1 := hr1.2) (hc1 := hr1.1) (h := hk)).mono fun e W' he => ?_)
 obtain ⟨rfl, bel⟩ := he
 exact ⟨_, rfl, _, _, _, [], _, [], hW', trodAll_mk1 (shut_bool Try.underlying4 _), (trodAll_cons_mk (Below.trod laidOut (by kernel_rfl) (of_decide_eq_true (by kernel_rfl)) k0 bel lt0) (trodAll_cons_mk (Below.trod laidOut (by kernel_rfl) (of_decide_eq_true (by kernel_rfl)) k1 bel lt1) trodAll_mk0)), rfl, bel.frame _, fun h => by cases h⟩
theorem over : Rows.walMakesRow.holds Try.pinned (OpenSpec.ofChange Rows.walMakesSpec) :=
 OpenClaim.holds_of_wide 3 Try.f3 rfl rfl rfl rfl rfl rfl rfl ⟨rfl, rfl, rfl, rfl, rfl⟩ rfl rfl rfl rfl rfl (by kernel_rfl) Try.func3 (by kernel_rfl)
  (of_decide_eq_true (by kernel_rfl)) (by unfold Func.isWrapper; first | (rw [if_pos (by decide +kernel)]; kernel_rfl) | (rw [if_neg (by decide +kernel)]; exact ⟨rfl, rfl⟩))
  (fun os started H enc _ => lifted os started H enc)
theorem proved : Rows.WalMakesSaid := over
end Go.Proofs.Ytmcijphmcobjlaa.walMakes
namespace Go.Proofs.Ytmcijphmcobjlaa
/-- The row, under a short name, for the claim. -/
theorem walMakes_holds : Rows.WalMakesSaid := walMakes.proved
end Go.Proofs.Ytmcijphmcobjlaa
