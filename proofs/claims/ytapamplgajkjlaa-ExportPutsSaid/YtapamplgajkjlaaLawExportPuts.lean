/- The law ExportPuts: its row, out of the printed law's contract and the pure statement. -/
import Derived.Test.YtapamplgajkjlaaRows
import Derived.Test.YtapamplgajkjlaaStExportPuts
import Derived.Test.YtapamplgajkjlaaPureExportPuts
import Derived.WalkKit
import Derived.ProofKit
import Derived.OpenShut
import Derived.ShutString
import Derived.ChangeOld
import Derived.Below
import Derived.SizedLaws
namespace Go.Proofs.Ytapamplgajkjlaa.exportPuts
open Go.ChangeShapes Go.WideShapes Go.ChangeAt Go.RowKit Go.Proofs.YtapamplgajkjlaaW.PrintWords Go.Proofs.Ytapamplgajkjlaa.U
open Go.Proofs.Ytapamplgajkjlaa.PExportPuts Go.Proofs.Ytapamplgajkjlaa.StExportPuts
open Go.ChangeMaps (open_string shut_string)
set_option linter.unusedVariables false
theorem own : ownKnob Try.prog.godebug = none := by kernel_rfl
theorem laidOut : laidOutB Try.prog = true := by kernel_rfl
set_option maxRecDepth 100000 in
set_option maxHeartbeats 1000000 in
theorem lifted (os : Os) (started : os.Started) (H : Type) (enc : TypeId × Value → H) :
    ReturnsInHanded {} Try.checked os 5 .any (Rows.exportPutsSpec.pre6 enc Try.prog Try.f5 Rows.exportPutsRow.domain false) (Rows.exportPutsSpec.post enc Try.prog Try.f5 false true false false) := by
  refine returnsInHanded_of_change_sized (C := Try.checked) own started (by kernel_rfl) Try.func5
    (ChangeSpec.witness6 (enc := enc) (C := Try.checked) false ⟨#[], #[.agg #[.int .i64 0, .int .i64 0, .slice none 0 0], .slice none 0 0], []⟩ 8 (by kernel_rfl) (by kernel_rfl) (by kernel_rfl) (by kernel_rfl)) ?_
  intro W base args ds gs before hval0 hW hcnd hsz0 _
  have hsz : (DataW.weightsEach Try.prog (Try.f5.params.toList ++ Rows.exportPutsSpec.plain.varTypes Try.prog) (ds ++ gs)).all (· ≤ reachBytes) = true := hsz0
  have hval : ∀ (j : Nat) t v, Try.f5.params[j]? = some t → args[j]? = some v → Value.okWide Try.prog W .any base t v := hval0
  have hW' := hW
  obtain ⟨p, q, hA0, hV, rfl, hfz, hnd⟩ := hW
  have hA : DataW.TrodAll enc Try.prog W 0 (fun _ => true) true Try.f5.params.toList args.toList ds p := hA0
  rw [Try.params5] at hA hval hsz
  obtain ⟨v0, vs0, d0, ds0, p0, q0, hargs, rfl, rfl, h0, r0⟩ := trodAll_cons hA
  obtain ⟨v1, vs1, d1, ds1, p1, q1, rfl, rfl, rfl, h1, r1⟩ := trodAll_cons r0
  obtain ⟨rfl, rfl, rfl⟩ := trodAll_nil r1
  obtain rfl : args = #[v0, v1] := by cases args; simp_all
  obtain ⟨rfl, rfl⟩ := trodVars_none hV
  obtain ⟨⟨cl0⟩, rfl⟩ := okWide_agg Try.underlying29 (hval 0 29 v0 rfl rfl)
  have k0 := h0
  have lt0 : ∀ x ∈ p0, x.block < W.heap.size := by obtain ⟨m, hm⟩ := k0; exact DataW.trod_lt m _ _ _ hm
  obtain ⟨⟨a0_0, a0_1, l0_2⟩, hK0, ⟨w0_0, w0_1, ⟨w0_2, y0_2, g0_2⟩⟩⟩ : ∃ x : (Int × Int × (List S135)), (Kd.pair (Kd.int .i64) (Kd.pair (Kd.int .i64) (Kd.slice 135 k135))).K W x cl0 ∧ (((Lit.int .i64 x.1).wf = true) ∧ ((Lit.int .i64 x.2.1).wf = true) ∧ (x.2.2.length ≤ maxLen ∧ x.2.2.length * 40 ≤ 140737488351232 ∧ ∀ y ∈ x.2.2, g135 y)) := by
    obtain ⟨fuel, hf⟩ := h0
    exact op29f H enc W fuel cl0 _ hf (weights_arg hsz (j := 0) (t := 29) rfl rfl)
  obtain ⟨_, _, rfl, rfl, ⟨_, _, rfl, rfl, ⟨A0_2, c0_2, rfl, hc0_2, hr0_2⟩⟩⟩ := hK0
  obtain ⟨A1, len1, c1, rfl⟩ := okWide_slice Try.underlying24 (hval 1 24 v1 rfl rfl)
  have k1 := h1
  have lt1 : ∀ x ∈ p1, x.block < W.heap.size := by obtain ⟨m, hm⟩ := k1; exact DataW.trod_lt m _ _ _ hm
  obtain ⟨l1, w1, hc1, hr1, y1, g1⟩ : ∃ xs : List S135, xs.length ≤ maxLen ∧ len1 = xs.length ∧ (xs.length ≤ c1 ∧ Kd.C k135 W A1 xs.length xs) ∧ xs.length * 40 ≤ 140737488351232 ∧ ∀ y ∈ xs, g135 y := by
    obtain ⟨fuel, hf⟩ := h1
    obtain ⟨xs, e1, e2, e3, e4, e6, e5⟩ := opens_row Try.underlying24 op135 (by kernel_rfl) (by kernel_rfl) hf (weights_arg hsz (j := 1) (t := 24) rfl rfl)
    exact ⟨xs, by omega, e1.symm, ⟨by omega, e4⟩, e6, e5⟩
  subst hc1
  clear hA0 hval0 hsz0 hsz
  obtain ⟨k, hk⟩ := Pure.ExportPuts a0_0 a0_1 l0_2 l1 w0_0 w0_1 w0_2 y0_2 g0_2 w1 y1 g1
  refine ((PExportPuts.garnerlaw27_ExportPuts.calls (k := k) (r := true) (w := W) (hr0_2 := hr0_2) (hc0_2 := hc0_2) (hr1 := hr1.2) (hc1 := hr1.1) (h := hk)).mono fun e W' he => ?_)
  obtain ⟨rfl, bel⟩ := he
  exact ⟨_, rfl, _, _, _, [], _, [], hW', trodAll_mk1 (shut_bool Try.underlying4 _), (trodAll_cons_mk (Below.trod laidOut (by kernel_rfl) (of_decide_eq_true (by kernel_rfl)) k0 bel lt0) (trodAll_cons_mk (Below.trod laidOut (by kernel_rfl) (of_decide_eq_true (by kernel_rfl)) k1 bel lt1) trodAll_mk0)), rfl, bel.frame _, fun h => by cases h⟩
theorem over : Rows.exportPutsRow.holds Try.pinned (OpenSpec.ofChange Rows.exportPutsSpec) :=
  OpenClaim.holds_of_wide 5 Try.f5 rfl rfl rfl rfl rfl rfl rfl ⟨rfl, rfl, rfl, rfl, rfl⟩ rfl rfl rfl rfl rfl (by kernel_rfl) Try.func5 (by kernel_rfl)
    (of_decide_eq_true (by kernel_rfl)) (by unfold Func.isWrapper; first | (rw [if_pos (by decide +kernel)]; kernel_rfl) | (rw [if_neg (by decide +kernel)]; exact ⟨rfl, rfl⟩))
    (fun os started H enc _ => lifted os started H enc)
theorem proved : Rows.ExportPutsSaid := over
end Go.Proofs.Ytapamplgajkjlaa.exportPuts
namespace Go.Proofs.Ytapamplgajkjlaa
/-- The row, under a short name, for the claim. -/
theorem exportPuts_holds : Rows.ExportPutsSaid := exportPuts.proved
end Go.Proofs.Ytapamplgajkjlaa
