/- The law VictimSparse: its row, out of the printed law's contract and the pure statement. -/
import Derived.Test.YtcjkchjgmgdbgaaRows
import Derived.Test.YtcjkchjgmgdbgaaStVictimSparse
import Derived.Test.YtcjkchjgmgdbgaaPureVictimSparse
import Derived.WalkKit
import Derived.ProofKit
import Derived.OpenShut
import Derived.ShutString
import Derived.ChangeOld
import Derived.Below
import Derived.SizedLaws
namespace Go.Proofs.Ytcjkchjgmgdbgaa.victimSparse
open Go.ChangeShapes Go.WideShapes Go.ChangeAt Go.RowKit Go.Proofs.YtcjkchjgmgdbgaaW.PrintWords Go.Proofs.Ytcjkchjgmgdbgaa.U
open Go.Proofs.Ytcjkchjgmgdbgaa.PVictimSparse Go.Proofs.Ytcjkchjgmgdbgaa.StVictimSparse
open Go.ChangeMaps (open_string shut_string)
set_option linter.unusedVariables false
theorem own : ownKnob Try.prog.godebug = none := by kernel_rfl
theorem laidOut : laidOutB Try.prog = true := by kernel_rfl
set_option maxRecDepth 100000 in
set_option maxHeartbeats 1000000 in
theorem lifted (os : Os) (started : os.Started) (H : Type) (enc : TypeId × Value → H) :
    ReturnsInHanded {} Try.checked os 6 .any (Rows.victimSparseSpec.pre6 enc Try.prog Try.f6 Rows.victimSparseRow.domain false) (Rows.victimSparseSpec.post enc Try.prog Try.f6 false true false false) := by
  refine returnsInHanded_of_change_sized (C := Try.checked) own started (by kernel_rfl) Try.func6
    (ChangeSpec.witness6 (enc := enc) (C := Try.checked) false ⟨#[], #[.agg #[.slice none 0 0, .slice none 0 0, .slice none 0 0, .int .i64 0], .int .u8 0], []⟩ 8 (by kernel_rfl) (by kernel_rfl) (by kernel_rfl) (by kernel_rfl)) ?_
  intro W base args ds gs before hval0 hW hcnd hsz0 _
  have hsz : (DataW.weightsEach Try.prog (Try.f6.params.toList ++ Rows.victimSparseSpec.plain.varTypes Try.prog) (ds ++ gs)).all (· ≤ reachBytes) = true := hsz0
  have hval : ∀ (j : Nat) t v, Try.f6.params[j]? = some t → args[j]? = some v → Value.okWide Try.prog W .any base t v := hval0
  have hW' := hW
  obtain ⟨p, q, hA0, hV, rfl, hfz, hnd⟩ := hW
  have hA : DataW.TrodAll enc Try.prog W 0 (fun _ => true) true Try.f6.params.toList args.toList ds p := hA0
  rw [Try.params6] at hA hval hsz
  obtain ⟨v0, vs0, d0, ds0, p0, q0, hargs, rfl, rfl, h0, r0⟩ := trodAll_cons hA
  obtain ⟨v1, vs1, d1, ds1, p1, q1, rfl, rfl, rfl, h1, r1⟩ := trodAll_cons r0
  obtain ⟨rfl, rfl, rfl⟩ := trodAll_nil r1
  obtain rfl : args = #[v0, v1] := by cases args; simp_all
  obtain ⟨rfl, rfl⟩ := trodVars_none hV
  obtain ⟨⟨cl0⟩, rfl⟩ := okWide_agg Try.underlying61 (hval 0 61 v0 rfl rfl)
  have k0 := h0
  have lt0 : ∀ x ∈ p0, x.block < W.heap.size := by obtain ⟨m, hm⟩ := k0; exact DataW.trod_lt m _ _ _ hm
  obtain ⟨⟨l0_0, l0_1, l0_2, a0_3⟩, hK0, ⟨⟨w0_0, y0_0, g0_0⟩, ⟨w0_1, y0_1, g0_1⟩, ⟨w0_2, y0_2, g0_2⟩, w0_3⟩⟩ : ∃ x : ((List Int) × (List Int) × (List S132) × Int), (Kd.pair (Kd.slice 3 (Kd.int .i64)) (Kd.pair (Kd.slice 3 (Kd.int .i64)) (Kd.pair (Kd.slice 132 k132) (Kd.int .i64)))).K W x cl0 ∧ ((x.1.length ≤ maxLen ∧ x.1.length * 8 ≤ 140737488351232 ∧ ∀ y ∈ x.1, (Lit.int .i64 y).wf = true) ∧ (x.2.1.length ≤ maxLen ∧ x.2.1.length * 8 ≤ 140737488351232 ∧ ∀ y ∈ x.2.1, (Lit.int .i64 y).wf = true) ∧ (x.2.2.1.length ≤ maxLen ∧ x.2.2.1.length * 16 ≤ 140737488351232 ∧ ∀ y ∈ x.2.2.1, g132 y) ∧ ((Lit.int .i64 x.2.2.2).wf = true)) := by
    obtain ⟨fuel, hf⟩ := h0
    exact op61f H enc W fuel cl0 _ hf (weights_arg hsz (j := 0) (t := 61) rfl rfl)
  obtain ⟨_, _, rfl, ⟨A0_0, c0_0, rfl, hc0_0, hr0_0⟩, ⟨_, _, rfl, ⟨A0_1, c0_1, rfl, hc0_1, hr0_1⟩, ⟨_, _, rfl, ⟨A0_2, c0_2, rfl, hc0_2, hr0_2⟩, rfl⟩⟩⟩ := hK0
  obtain ⟨a1, rfl, rfl, rfl, w1⟩ := open_int Try.underlying5 (hval 1 5 v1 rfl rfl) h1
  clear hA0 hval0 hsz0 hsz
  obtain ⟨k, hk⟩ := Pure.VictimSparse l0_0 l0_1 l0_2 a0_3 a1 w0_0 y0_0 g0_0 w0_1 y0_1 g0_1 w0_2 y0_2 g0_2 w0_3 w1
  refine ((PVictimSparse.garnerlaw29_VictimSparse.calls (k := k) (r := true) (w := W) (hr0_0 := hr0_0) (hc0_0 := hc0_0) (hr0_1 := hr0_1) (hc0_1 := hc0_1) (hr0_2 := hr0_2) (hc0_2 := hc0_2) (h := hk)).mono fun e W' he => ?_)
  obtain ⟨rfl, bel⟩ := he
  exact ⟨_, rfl, _, _, _, [], _, [], hW', trodAll_mk1 (shut_bool Try.underlying4 _), (trodAll_cons_mk (Below.trod laidOut (by kernel_rfl) (of_decide_eq_true (by kernel_rfl)) k0 bel lt0) (trodAll_cons_mk (shut_int Try.underlying5 w1) trodAll_mk0)), rfl, bel.frame _, fun h => by cases h⟩
theorem over : Rows.victimSparseRow.holds Try.pinned (OpenSpec.ofChange Rows.victimSparseSpec) :=
  OpenClaim.holds_of_wide 6 Try.f6 rfl rfl rfl rfl rfl rfl rfl ⟨rfl, rfl, rfl, rfl, rfl⟩ rfl rfl rfl rfl rfl (by kernel_rfl) Try.func6 (by kernel_rfl)
    (of_decide_eq_true (by kernel_rfl)) (by unfold Func.isWrapper; first | (rw [if_pos (by decide +kernel)]; kernel_rfl) | (rw [if_neg (by decide +kernel)]; exact ⟨rfl, rfl⟩))
    (fun os started H enc _ => lifted os started H enc)
theorem proved : Rows.VictimSparseSaid := over
end Go.Proofs.Ytcjkchjgmgdbgaa.victimSparse
namespace Go.Proofs.Ytcjkchjgmgdbgaa
/-- The row, under a short name, for the claim. -/
theorem victimSparse_holds : Rows.VictimSparseSaid := victimSparse.proved
end Go.Proofs.Ytcjkchjgmgdbgaa
