/- The law RaftTurns: its row, out of the printed law's contract and the pure statement. -/
import Derived.Test.YtangfpcifdpfeaaRows
import Derived.Test.YtangfpcifdpfeaaStRaftTurns
import Derived.Test.YtangfpcifdpfeaaPureRaftTurns
import Derived.WalkKit
import Derived.ProofKit
import Derived.OpenShut
import Derived.ShutString
import Derived.ChangeOld
import Derived.Below
import Derived.SizedLaws
namespace Go.Proofs.Ytangfpcifdpfeaa.raftTurns
open Go.ChangeShapes Go.WideShapes Go.ChangeAt Go.RowKit Go.Proofs.YtangfpcifdpfeaaW.PrintWords Go.Proofs.Ytangfpcifdpfeaa.U
open Go.Proofs.Ytangfpcifdpfeaa.PRaftTurns Go.Proofs.Ytangfpcifdpfeaa.StRaftTurns
open Go.ChangeMaps (open_string shut_string)
set_option linter.unusedVariables false
theorem own : ownKnob Try.prog.godebug = none := by kernel_rfl
theorem laidOut : laidOutB Try.prog = true := by kernel_rfl
set_option maxRecDepth 100000 in
set_option maxHeartbeats 1000000 in
theorem lifted (os : Os) (started : os.Started) (H : Type) (enc : TypeId × Value → H) :
    ReturnsInHanded {} Try.checked os 3 .any (Rows.raftTurnsSpec.pre6 enc Try.prog Try.f3 Rows.raftTurnsRow.domain false) (Rows.raftTurnsSpec.post enc Try.prog Try.f3 false true false false) := by
  refine returnsInHanded_of_change_sized (C := Try.checked) own started (by kernel_rfl) Try.func3
    (ChangeSpec.witness6 (enc := enc) (C := Try.checked) false ⟨#[], #[.agg #[.int .i64 0, .int .i64 0, .slice none 0 0, .int .i64 0, .int .i64 0, .int .i64 0, .int .i64 0], .agg #[.int .i64 0, .int .i64 0, .int .i64 0], .agg #[.int .i64 0, .int .i64 0, .int .i64 0, .int .i64 0]], []⟩ 8 (by kernel_rfl) (by kernel_rfl) (by kernel_rfl) (by kernel_rfl)) ?_
  intro W base args ds gs before hval0 hW hcnd hsz0 _
  have hsz : (DataW.weightsEach Try.prog (Try.f3.params.toList ++ Rows.raftTurnsSpec.plain.varTypes Try.prog) (ds ++ gs)).all (· ≤ reachBytes) = true := hsz0
  have hval : ∀ (j : Nat) t v, Try.f3.params[j]? = some t → args[j]? = some v → Value.okWide Try.prog W .any base t v := hval0
  have hW' := hW
  obtain ⟨p, q, hA0, hV, rfl, hfz, hnd⟩ := hW
  have hA : DataW.TrodAll enc Try.prog W 0 (fun _ => true) true Try.f3.params.toList args.toList ds p := hA0
  rw [Try.params3] at hA hval hsz
  obtain ⟨v0, vs0, d0, ds0, p0, q0, hargs, rfl, rfl, h0, r0⟩ := trodAll_cons hA
  obtain ⟨v1, vs1, d1, ds1, p1, q1, rfl, rfl, rfl, h1, r1⟩ := trodAll_cons r0
  obtain ⟨v2, vs2, d2, ds2, p2, q2, rfl, rfl, rfl, h2, r2⟩ := trodAll_cons r1
  obtain ⟨rfl, rfl, rfl⟩ := trodAll_nil r2
  obtain rfl : args = #[v0, v1, v2] := by cases args; simp_all
  obtain ⟨rfl, rfl⟩ := trodVars_none hV
  obtain ⟨⟨cl0⟩, rfl⟩ := okWide_agg Try.underlying26 (hval 0 26 v0 rfl rfl)
  have k0 := h0
  have lt0 : ∀ x ∈ p0, x.block < W.heap.size := by obtain ⟨m, hm⟩ := k0; exact DataW.trod_lt m _ _ _ hm
  obtain ⟨⟨a0_0, a0_1, l0_2, ⟨a0_3, a0_4, a0_5⟩, a0_6⟩, hK0, ⟨w0_0, w0_1, ⟨w0_2, y0_2, g0_2⟩, ⟨w0_3, w0_4, w0_5⟩, w0_6⟩⟩ : ∃ x : (Int × Int × (List S55) × (Int × Int × Int) × Int), (Kd.pair (Kd.int .i64) (Kd.pair (Kd.int .i64) (Kd.pair (Kd.slice 55 k55) (Kd.pair (Kd.pair (Kd.int .i64) (Kd.pair (Kd.int .i64) (Kd.int .i64))) (Kd.int .i64))))).K W x cl0 ∧ (((Lit.int .i64 x.1).wf = true) ∧ ((Lit.int .i64 x.2.1).wf = true) ∧ (x.2.2.1.length ≤ maxLen ∧ x.2.2.1.length * 104 ≤ 140737488351232 ∧ ∀ y ∈ x.2.2.1, g55 y) ∧ (((Lit.int .i64 x.2.2.2.1.1).wf = true) ∧ ((Lit.int .i64 x.2.2.2.1.2.1).wf = true) ∧ ((Lit.int .i64 x.2.2.2.1.2.2).wf = true)) ∧ ((Lit.int .i64 x.2.2.2.2).wf = true)) := by
    obtain ⟨fuel, hf⟩ := h0
    exact op26f H enc W fuel cl0 _ hf (weights_arg hsz (j := 0) (t := 26) rfl rfl)
  obtain ⟨_, _, rfl, rfl, ⟨_, _, rfl, rfl, ⟨_, _, rfl, ⟨A0_2, c0_2, rfl, hc0_2, hr0_2⟩, ⟨_, _, rfl, ⟨_, _, rfl, rfl, ⟨_, _, rfl, rfl, rfl⟩⟩, rfl⟩⟩⟩⟩ := hK0
  obtain ⟨⟨cl1⟩, rfl⟩ := okWide_agg Try.underlying24 (hval 1 24 v1 rfl rfl)
  have k1 := h1
  have lt1 : ∀ x ∈ p1, x.block < W.heap.size := by obtain ⟨m, hm⟩ := k1; exact DataW.trod_lt m _ _ _ hm
  obtain ⟨⟨a1_0, a1_1, a1_2⟩, hK1, ⟨w1_0, w1_1, w1_2⟩⟩ : ∃ x : (Int × Int × Int), (Kd.pair (Kd.int .i64) (Kd.pair (Kd.int .i64) (Kd.int .i64))).K W x cl1 ∧ (((Lit.int .i64 x.1).wf = true) ∧ ((Lit.int .i64 x.2.1).wf = true) ∧ ((Lit.int .i64 x.2.2).wf = true)) := by
    obtain ⟨fuel, hf⟩ := h1
    exact op24f H enc W fuel cl1 _ hf (weights_arg hsz (j := 1) (t := 24) rfl rfl)
  obtain ⟨_, _, rfl, rfl, ⟨_, _, rfl, rfl, rfl⟩⟩ := hK1
  obtain ⟨⟨cl2⟩, rfl⟩ := okWide_aggA Try.underlying27 (hval 2 27 v2 rfl rfl)
  have k2 := h2
  have lt2 : ∀ x ∈ p2, x.block < W.heap.size := by obtain ⟨m, hm⟩ := k2; exact DataW.trod_lt m _ _ _ hm
  obtain ⟨⟨a2_0, a2_1, a2_2, a2_3⟩, hK2, ⟨w2_0, w2_1, w2_2, w2_3⟩⟩ : ∃ x : (Int × Int × Int × Int), (Kd.pair (Kd.int .i64) (Kd.pair (Kd.int .i64) (Kd.pair (Kd.int .i64) (Kd.int .i64)))).K W x cl2 ∧ (((Lit.int .i64 x.1).wf = true) ∧ ((Lit.int .i64 x.2.1).wf = true) ∧ ((Lit.int .i64 x.2.2.1).wf = true) ∧ ((Lit.int .i64 x.2.2.2).wf = true)) := by
    obtain ⟨fuel, hf⟩ := h2
    exact op27f H enc W fuel cl2 _ hf (weights_arg hsz (j := 2) (t := 27) rfl rfl)
  obtain ⟨_, _, rfl, rfl, ⟨_, _, rfl, rfl, ⟨_, _, rfl, rfl, rfl⟩⟩⟩ := hK2
  clear hA0 hval0 hsz0 hsz
  obtain ⟨k, hk⟩ := Pure.RaftTurns a0_0 a0_1 l0_2 a0_3 a0_4 a0_5 a0_6 a1_0 a1_1 a1_2 a2_0 a2_1 a2_2 a2_3 w0_0 w0_1 w0_2 y0_2 g0_2 w0_3 w0_4 w0_5 w0_6 w1_0 w1_1 w1_2 w2_0 w2_1 w2_2 w2_3
  refine ((PRaftTurns.garnerlaw23_RaftTurns.calls (k := k) (r := true) (w := W) (hr0_2 := hr0_2) (hc0_2 := hc0_2) (h := hk)).mono fun e W' he => ?_)
  obtain ⟨rfl, bel⟩ := he
  exact ⟨_, rfl, _, _, _, [], _, [], hW', trodAll_mk1 (shut_bool Try.underlying4 _), (trodAll_cons_mk (Below.trod laidOut (by kernel_rfl) (of_decide_eq_true (by kernel_rfl)) k0 bel lt0) (trodAll_cons_mk (Below.trod laidOut (by kernel_rfl) (of_decide_eq_true (by kernel_rfl)) k1 bel lt1) (trodAll_cons_mk (Below.trod laidOut (by kernel_rfl) (of_decide_eq_true (by kernel_rfl)) k2 bel lt2) trodAll_mk0))), rfl, bel.frame _, fun h => by cases h⟩
theorem over : Rows.raftTurnsRow.holds Try.pinned (OpenSpec.ofChange Rows.raftTurnsSpec) :=
  OpenClaim.holds_of_wide 3 Try.f3 rfl rfl rfl rfl rfl rfl rfl ⟨rfl, rfl, rfl, rfl, rfl⟩ rfl rfl rfl rfl rfl (by kernel_rfl) Try.func3 (by kernel_rfl)
    (of_decide_eq_true (by kernel_rfl)) (by unfold Func.isWrapper; first | (rw [if_pos (by decide +kernel)]; kernel_rfl) | (rw [if_neg (by decide +kernel)]; exact ⟨rfl, rfl⟩))
    (fun os started H enc _ => lifted os started H enc)
theorem proved : Rows.RaftTurnsSaid := over
end Go.Proofs.Ytangfpcifdpfeaa.raftTurns
namespace Go.Proofs.Ytangfpcifdpfeaa
/-- The row, under a short name, for the claim. -/
theorem raftTurns_holds : Rows.RaftTurnsSaid := raftTurns.proved
end Go.Proofs.Ytangfpcifdpfeaa
