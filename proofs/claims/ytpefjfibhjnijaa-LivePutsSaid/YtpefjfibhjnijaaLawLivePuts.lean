/- The law LivePuts: its row, out of the printed law's contract and the pure statement. -/
import Derived.Test.YtpefjfibhjnijaaRows
import Derived.Test.YtpefjfibhjnijaaStLivePuts
import Derived.Test.YtpefjfibhjnijaaPureLivePuts
import Derived.WalkKit
import Derived.ProofKit
import Derived.OpenShut
import Derived.ShutString
import Derived.ChangeOld
import Derived.Below
import Derived.SizedLaws
namespace Go.Proofs.Ytpefjfibhjnijaa.livePuts
open Go.ChangeShapes Go.WideShapes Go.ChangeAt Go.RowKit Go.Proofs.YtpefjfibhjnijaaW.PrintWords Go.Proofs.Ytpefjfibhjnijaa.U
open Go.Proofs.Ytpefjfibhjnijaa.PLivePuts Go.Proofs.Ytpefjfibhjnijaa.StLivePuts
open Go.ChangeMaps (open_string shut_string)
set_option linter.unusedVariables false
theorem own : ownKnob Try.prog.godebug = none := by kernel_rfl
theorem laidOut : laidOutB Try.prog = true := by kernel_rfl
set_option maxRecDepth 100000 in
set_option maxHeartbeats 1000000 in
theorem lifted (os : Os) (started : os.Started) (H : Type) (enc : TypeId × Value → H) :
 ReturnsInHanded {} Try.checked os 4 .any (Rows.livePutsSpec.pre6 enc Try.prog Try.f4 Rows.livePutsRow.domain false) (Rows.livePutsSpec.post enc Try.prog Try.f4 false true false false) := by
 refine returnsInHanded_of_change_sized (C := Try.checked) own started (by kernel_rfl) Try.func4
  (ChangeSpec.witness6 (enc := enc) (C := Try.checked) false ⟨#[], #[.slice none 0 0, .slice none 0 0, .agg #[.int .i64 0, .int .i64 0]], []⟩ 8 (by kernel_rfl) (by kernel_rfl) (by kernel_rfl) (by kernel_rfl)) ?_
 intro W base args ds gs before hval0 hW hcnd hsz0 _
 have hsz : (DataW.weightsEach Try.prog (Try.f4.params.toList ++ Rows.livePutsSpec.plain.varTypes Try.prog) (ds ++ gs)).all (· ≤ reachBytes) = true := hsz0
 have hval : ∀ (j : Nat) t v, Try.f4.params[j]? = some t → args[j]? = some v → Value.okWide Try.prog W .any base t v := hval0
 have hW' := hW
 obtain ⟨p, q, hA0, hV, rfl, hfz, hnd⟩ := hW
 have hA : DataW.TrodAll enc Try.prog W 0 (fun _ => true) true Try.f4.params.toList args.toList ds p := hA0
 rw [Try.params4] at hA hval hsz
 obtain ⟨v0, vs0, d0, ds0, p0, q0, hargs, rfl, rfl, h0, r0⟩ := trodAll_cons hA
 obtain ⟨v1, vs1, d1, ds1, p1, q1, rfl, rfl, rfl, h1, r1⟩ := trodAll_cons r0
 obtain ⟨v2, vs2, d2, ds2, p2, q2, rfl, rfl, rfl, h2, r2⟩ := trodAll_cons r1
 obtain ⟨rfl, rfl, rfl⟩ := trodAll_nil r2
 obtain rfl : args = #[v0, v1, v2] := by cases args; simp_all
 obtain ⟨rfl, rfl⟩ := trodVars_none hV
 obtain ⟨A0, len0, c0, rfl⟩ := okWide_slice Try.underlying36 (hval 0 36 v0 rfl rfl)
 have k0 := h0
 have lt0 : ∀ x ∈ p0, x.block < W.heap.size := by obtain ⟨m, hm⟩ := k0; exact DataW.trod_lt m _ _ _ hm
 obtain ⟨l0, w0, hc0, hr0, y0, g0⟩ : ∃ xs : List S24, xs.length ≤ maxLen ∧ len0 = xs.length ∧ (xs.length ≤ c0 ∧ Kd.C k24 W A0 xs.length xs) ∧ xs.length * 32 ≤ 140737488351232 ∧ ∀ y ∈ xs, g24 y := by
  obtain ⟨fuel, hf⟩ := h0
  obtain ⟨xs, e1, e2, e3, e4, e6, e5⟩ := opens_row Try.underlying36 op24 (by kernel_rfl) (by kernel_rfl) hf (weights_arg hsz (j := 0) (t := 36) rfl rfl)
  exact ⟨xs, by omega, e1.symm, ⟨by omega, e4⟩, e6, e5⟩
 subst hc0
 obtain ⟨A1, len1, c1, rfl⟩ := okWide_slice Try.underlying36 (hval 1 36 v1 rfl rfl)
 have k1 := h1
 have lt1 : ∀ x ∈ p1, x.block < W.heap.size := by obtain ⟨m, hm⟩ := k1; exact DataW.trod_lt m _ _ _ hm
 obtain ⟨l1, w1, hc1, hr1, y1, g1⟩ : ∃ xs : List S24, xs.length ≤ maxLen ∧ len1 = xs.length ∧ (xs.length ≤ c1 ∧ Kd.C k24 W A1 xs.length xs) ∧ xs.length * 32 ≤ 140737488351232 ∧ ∀ y ∈ xs, g24 y := by
  obtain ⟨fuel, hf⟩ := h1
  obtain ⟨xs, e1, e2, e3, e4, e6, e5⟩ := opens_row Try.underlying36 op24 (by kernel_rfl) (by kernel_rfl) hf (weights_arg hsz (j := 1) (t := 36) rfl rfl)
  exact ⟨xs, by omega, e1.symm, ⟨by omega, e4⟩, e6, e5⟩
 subst hc1
 obtain ⟨⟨cl2⟩, rfl⟩ := okWide_aggA Try.underlying44 (hval 2 44 v2 rfl rfl)
 have k2 := h2
 have lt2 : ∀ x ∈ p2, x.block < W.heap.size := by obtain ⟨m, hm⟩ := k2; exact DataW.trod_lt m _ _ _ hm
 obtain ⟨⟨a2_0, a2_1⟩, hK2, ⟨w2_0, w2_1⟩⟩ : ∃ x : (Int × Int), (Kd.pair (Kd.int .i64) (Kd.int .i64)).K W x cl2 ∧ (((Lit.int .i64 x.1).wf = true) ∧ ((Lit.int .i64 x.2).wf = true)) := by
  obtain ⟨fuel, hf⟩ := h2
  exact op44f H enc W fuel cl2 _ hf (weights_arg hsz (j := 2) (t := 44) rfl rfl)
 obtain ⟨_, _, rfl, rfl, rfl⟩ := hK2
 clear hA0 hval0 hsz0 hsz
 obtain ⟨k, hk⟩ := Pure.LivePuts l0 l1 a2_0 a2_1 w0 y0 g0 w1 y1 g1 w2_0 w2_1
 refine ((PLivePuts.garnerlaw28_LivePuts.calls (k := k) (r := true) (w := W) (hr0 := hr0.2) (hc0 := hr0.1) (hr1 := hr1.2) (hc1 := hr1.1) (h := hk)).mono fun e W' he => ?_)
 obtain ⟨rfl, bel⟩ := he
 exact ⟨_, rfl, _, _, _, [], _, [], hW', trodAll_mk1 (shut_bool Try.underlying4 _), (trodAll_cons_mk (Below.trod laidOut (by kernel_rfl) (of_decide_eq_true (by kernel_rfl)) k0 bel lt0) (trodAll_cons_mk (Below.trod laidOut (by kernel_rfl) (of_decide_eq_true (by kernel_rfl)) k1 bel lt1) (trodAll_cons_mk (Below.trod laidOut (by kernel_rfl) (of_decide_eq_true (by kernel_rfl)) k2 bel lt2) trodAll_mk0))), rfl, bel.frame _, fun h => by cases h⟩
theorem over : Rows.livePutsRow.holds Try.pinned (OpenSpec.ofChange Rows.livePutsSpec) :=
 OpenClaim.holds_of_wide 4 Try.f4 rfl rfl rfl rfl rfl rfl rfl ⟨rfl, rfl, rfl, rfl, rfl⟩ rfl rfl rfl rfl rfl (by kernel_rfl) Try.func4 (by kernel_rfl)
  (of_decide_eq_true (by kernel_rfl)) (by unfold Func.isWrapper; first | (rw [if_pos (by decide +kernel)]; kernel_rfl) | (rw [if_neg (by decide +kernel)]; exact ⟨rfl, rfl⟩))
  (fun os started H enc _ => lifted os started H enc)
theorem proved : Rows.LivePutsSaid := over
end Go.Proofs.Ytpefjfibhjnijaa.livePuts
namespace Go.Proofs.Ytpefjfibhjnijaa
/-- The row, under a short name, for the claim. -/
theorem livePuts_holds : Rows.LivePutsSaid := livePuts.proved
end Go.Proofs.Ytpefjfibhjnijaa
