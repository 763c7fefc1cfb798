/- The law SegReads: its row, out of the printed law's contract and the pure statement. -/
import Derived.Test.YtpabjefogbkhpaaRows
import Derived.Test.YtpabjefogbkhpaaStSegReads
import Derived.Test.YtpabjefogbkhpaaPureSegReads
import Derived.WalkKit
import Derived.ProofKit
import Derived.OpenShut
import Derived.ShutString
import Derived.ChangeOld
import Derived.Below
import Derived.SizedLaws
namespace Go.Proofs.Ytpabjefogbkhpaa.segReads
open Go.ChangeShapes Go.WideShapes Go.ChangeAt Go.RowKit Go.Proofs.YtpabjefogbkhpaaW.PrintWords Go.Proofs.Ytpabjefogbkhpaa.U
open Go.Proofs.Ytpabjefogbkhpaa.PSegReads Go.Proofs.Ytpabjefogbkhpaa.StSegReads
open Go.ChangeMaps (open_string shut_string)
set_option linter.unusedVariables false
theorem own : ownKnob Try.prog.godebug = none := by kernel_rfl
theorem laidOut : laidOutB Try.prog = true := by kernel_rfl
set_option maxRecDepth 100000 in
set_option maxHeartbeats 1000000 in
theorem lifted (os : Os) (started : os.Started) (H : Type) (enc : TypeId × Value → H) :
    ReturnsInHanded {} Try.checked os 11 .any (Rows.segReadsSpec.pre6 enc Try.prog Try.f11 Rows.segReadsRow.domain false) (Rows.segReadsSpec.post enc Try.prog Try.f11 false true false false) := by
  refine returnsInHanded_of_change_sized (C := Try.checked) own started (by kernel_rfl) Try.func11
    (ChangeSpec.witness6 (enc := enc) (C := Try.checked) false ⟨#[], #[.slice none 0 0, .int .u16 0, .slice none 0 0], []⟩ 8 (by kernel_rfl) (by kernel_rfl) (by kernel_rfl) (by kernel_rfl)) ?_
  intro W base args ds gs before hval0 hW hcnd hsz0 _
  have hsz : (DataW.weightsEach Try.prog (Try.f11.params.toList ++ Rows.segReadsSpec.plain.varTypes Try.prog) (ds ++ gs)).all (· ≤ reachBytes) = true := hsz0
  have hval : ∀ (j : Nat) t v, Try.f11.params[j]? = some t → args[j]? = some v → Value.okWide Try.prog W .any base t v := hval0
  have hW' := hW
  obtain ⟨p, q, hA0, hV, rfl, hfz, hnd⟩ := hW
  have hA : DataW.TrodAll enc Try.prog W 0 (fun _ => true) true Try.f11.params.toList args.toList ds p := hA0
  rw [Try.params11] at hA hval hsz
  obtain ⟨v0, vs0, d0, ds0, p0, q0, hargs, rfl, rfl, h0, r0⟩ := trodAll_cons hA
  obtain ⟨v1, vs1, d1, ds1, p1, q1, rfl, rfl, rfl, h1, r1⟩ := trodAll_cons r0
  obtain ⟨v2, vs2, d2, ds2, p2, q2, rfl, rfl, rfl, h2, r2⟩ := trodAll_cons r1
  obtain ⟨rfl, rfl, rfl⟩ := trodAll_nil r2
  obtain rfl : args = #[v0, v1, v2] := by cases args; simp_all
  obtain ⟨rfl, rfl⟩ := trodVars_none hV
  obtain ⟨A0, len0, c0, rfl⟩ := okWide_slice Try.underlying72 (hval 0 72 v0 rfl rfl)
  have k0 := h0
  have lt0 : ∀ x ∈ p0, x.block < W.heap.size := by obtain ⟨m, hm⟩ := k0; exact DataW.trod_lt m _ _ _ hm
  obtain ⟨l0, w0, hc0, hr0, y0, g0⟩ : ∃ xs : List (List Int), xs.length ≤ maxLen ∧ len0 = xs.length ∧ (xs.length ≤ c0 ∧ Kd.C (Kd.slice 5 (Kd.int .u8)) W A0 xs.length xs) ∧ xs.length * 24 ≤ 140737488351232 ∧ ∀ y ∈ xs, y.length ≤ maxLen ∧ y.length * 1 ≤ 140737488351232 ∧ ∀ z ∈ y, (Lit.int .u8 z).wf = true := by
    obtain ⟨fuel, hf⟩ := h0
    obtain ⟨xs, e1, e2, e3, e4, e6, e5⟩ := opens_row Try.underlying72 op25 (by kernel_rfl) (by kernel_rfl) hf (weights_arg hsz (j := 0) (t := 72) rfl rfl)
    exact ⟨xs, by omega, e1.symm, ⟨by omega, e4⟩, e6, e5⟩
  subst hc0
  obtain ⟨a1, rfl, rfl, rfl, w1⟩ := open_int Try.underlying65 (hval 1 65 v1 rfl rfl) h1
  obtain ⟨A2, len2, c2, rfl⟩ := okWide_slice Try.underlying25 (hval 2 25 v2 rfl rfl)
  have k2 := h2
  have lt2 : ∀ x ∈ p2, x.block < W.heap.size := by obtain ⟨m, hm⟩ := k2; exact DataW.trod_lt m _ _ _ hm
  obtain ⟨l2, w2, hc2, hr2, y2, g2⟩ : ∃ xs : List Int, xs.length ≤ maxLen ∧ len2 = xs.length ∧ (xs.length ≤ c2 ∧ Kd.C (Kd.int .u8) W A2 xs.length xs) ∧ xs.length * 1 ≤ 140737488351232 ∧ ∀ y ∈ xs, (Lit.int .u8 y).wf = true := by
    obtain ⟨fuel, hf⟩ := h2
    obtain ⟨xs, e1, e2, e3, e4, e6, e5⟩ := opens_row Try.underlying25 op5 (by kernel_rfl) (by kernel_rfl) hf (weights_arg hsz (j := 2) (t := 25) rfl rfl)
    exact ⟨xs, by omega, e1.symm, ⟨by omega, e4⟩, e6, e5⟩
  subst hc2
  clear hA0 hval0 hsz0 hsz
  obtain ⟨k, hk⟩ := Pure.SegReads l0 a1 l2 w0 y0 g0 w1 w2 y2 g2
  refine ((PSegReads.garnerlaw19_SegReads.calls (k := k) (r := true) (w := W) (hr0 := hr0.2) (hc0 := hr0.1) (hr2 := hr2.2) (hc2 := hr2.1) (h := hk)).mono fun e W' he => ?_)
  obtain ⟨rfl, bel⟩ := he
  exact ⟨_, rfl, _, _, _, [], _, [], hW', trodAll_mk1 (shut_bool Try.underlying4 _), (trodAll_cons_mk (Below.trod laidOut (by kernel_rfl) (of_decide_eq_true (by kernel_rfl)) k0 bel lt0) (trodAll_cons_mk (shut_int Try.underlying65 w1) (trodAll_cons_mk (Below.trod laidOut (by kernel_rfl) (of_decide_eq_true (by kernel_rfl)) k2 bel lt2) trodAll_mk0))), rfl, bel.frame _, fun h => by cases h⟩
theorem over : Rows.segReadsRow.holds Try.pinned (OpenSpec.ofChange Rows.segReadsSpec) :=
  OpenClaim.holds_of_wide 11 Try.f11 rfl rfl rfl rfl rfl rfl rfl ⟨rfl, rfl, rfl, rfl, rfl⟩ rfl rfl rfl rfl rfl (by kernel_rfl) Try.func11 (by kernel_rfl)
    (of_decide_eq_true (by kernel_rfl)) (by unfold Func.isWrapper; first | (rw [if_pos (by decide +kernel)]; kernel_rfl) | (rw [if_neg (by decide +kernel)]; exact ⟨rfl, rfl⟩))
    (fun os started H enc _ => lifted os started H enc)
theorem proved : Rows.SegReadsSaid := over
end Go.Proofs.Ytpabjefogbkhpaa.segReads
namespace Go.Proofs.Ytpabjefogbkhpaa
/-- The row, under a short name, for the claim. -/
theorem segReads_holds : Rows.SegReadsSaid := segReads.proved
end Go.Proofs.Ytpabjefogbkhpaa
