/- The law WalPuts: its row, out of the printed law's contract and the pure statement. -/
import Derived.Test.YtdanmjfkocjgjaaRows
import Derived.Test.YtdanmjfkocjgjaaStWalPuts
import Derived.Test.YtdanmjfkocjgjaaPureWalPuts
import Derived.WalkKit
import Derived.ProofKit
import Derived.OpenShut
import Derived.ShutString
import Derived.ChangeOld
import Derived.Below
import Derived.SizedLaws
namespace Go.Proofs.Ytdanmjfkocjgjaa.walPuts
open Go.ChangeShapes Go.WideShapes Go.ChangeAt Go.RowKit Go.Proofs.YtdanmjfkocjgjaaW.PrintWords Go.Proofs.Ytdanmjfkocjgjaa.U
open Go.Proofs.Ytdanmjfkocjgjaa.PWalPuts Go.Proofs.Ytdanmjfkocjgjaa.StWalPuts
open Go.ChangeMaps (open_string shut_string)
set_option linter.unusedVariables false
theorem own : ownKnob Try.prog.godebug = none := by kernel_rfl
theorem laidOut : laidOutB Try.prog = true := by kernel_rfl
set_option maxRecDepth 100000 in
set_option maxHeartbeats 1000000 in
theorem lifted (os : Os) (started : os.Started) (H : Type) (enc : TypeId × Value → H) :
 ReturnsInHanded {} Try.checked os 4 .any (Rows.walPutsSpec.pre6 enc Try.prog Try.f4 Rows.walPutsRow.domain false) (Rows.walPutsSpec.post enc Try.prog Try.f4 false true false false) := by
 refine returnsInHanded_of_change_sized (C := Try.checked) own started (by kernel_rfl) Try.func4
  (ChangeSpec.witness6 (enc := enc) (C := Try.checked) false ⟨#[], #[.agg #[.int .i64 0, .slice none 0 0, .int .i64 0, .int .i64 0, .int .i64 0, .int .i64 0], .agg #[.int .i64 0, .slice none 0 0, .int .i64 0, .int .i64 0, .int .i64 0, .int .i64 0]], []⟩ 8 (by kernel_rfl) (by kernel_rfl) (by kernel_rfl) (by kernel_rfl)) ?_
 intro W base args ds gs before hval0 hW hcnd hsz0 _
 have hsz : (DataW.weightsEach Try.prog (Try.f4.params.toList ++ Rows.walPutsSpec.plain.varTypes Try.prog) (ds ++ gs)).all (· ≤ reachBytes) = true := hsz0
 have hval : ∀ (j : Nat) t v, Try.f4.params[j]? = some t → args[j]? = some v → Value.okWide Try.prog W .any base t v := hval0
 have hW' := hW
 obtain ⟨p, q, hA0, hV, rfl, hfz, hnd⟩ := hW
 have hA : DataW.TrodAll enc Try.prog W 0 (fun _ => true) true Try.f4.params.toList args.toList ds p := hA0
 rw [Try.params4] at hA hval hsz
 obtain ⟨v0, vs0, d0, ds0, p0, q0, hargs, rfl, rfl, h0, r0⟩ := trodAll_cons hA
 obtain ⟨v1, vs1, d1, ds1, p1, q1, rfl, rfl, rfl, h1, r1⟩ := trodAll_cons r0
 obtain ⟨rfl, rfl, rfl⟩ := trodAll_nil r1
 obtain rfl : args = #[v0, v1] := by cases args; simp_all
 obtain ⟨rfl, rfl⟩ := trodVars_none hV
 obtain ⟨⟨cl0⟩, rfl⟩ := okWide_agg Try.underlying30 (hval 0 30 v0 rfl rfl)
 have k0 := h0
 have lt0 : ∀ x ∈ p0, x.block < W.heap.size := by obtain ⟨m, hm⟩ := k0; exact DataW.trod_lt m _ _ _ hm
 obtain ⟨⟨a0_0, l0_1, ⟨a0_2, a0_3, a0_4⟩, a0_5⟩, hK0, ⟨w0_0, ⟨w0_1, y0_1, g0_1⟩, ⟨w0_2, w0_3, w0_4⟩, w0_5⟩⟩ : ∃ x : (Int × (List S52) × (Int × Int × Int) × Int), (Kd.pair (Kd.int .i64) (Kd.pair (Kd.slice 52 k52) (Kd.pair (Kd.pair (Kd.int .i64) (Kd.pair (Kd.int .i64) (Kd.int .i64))) (Kd.int .i64)))).K W x cl0 ∧ (((Lit.int .i64 x.1).wf = true) ∧ (x.2.1.length ≤ maxLen ∧ x.2.1.length * 104 ≤ 140737488351232 ∧ ∀ y ∈ x.2.1, g52 y) ∧ (((Lit.int .i64 x.2.2.1.1).wf = true) ∧ ((Lit.int .i64 x.2.2.1.2.1).wf = true) ∧ ((Lit.int .i64 x.2.2.1.2.2).wf = true)) ∧ ((Lit.int .i64 x.2.2.2).wf = true)) := by
  obtain ⟨fuel, hf⟩ := h0
  exact op30f H enc W fuel cl0 _ hf (weights_arg hsz (j := 0) (t := 30) rfl rfl)
 obtain ⟨_, _, rfl, rfl, ⟨_, _, rfl, ⟨A0_1, c0_1, rfl, hc0_1, hr0_1⟩, ⟨_, _, rfl, ⟨_, _, rfl, rfl, ⟨_, _, rfl, rfl, rfl⟩⟩, rfl⟩⟩⟩ := hK0
 obtain ⟨⟨cl1⟩, rfl⟩ := okWide_agg Try.underlying30 (hval 1 30 v1 rfl rfl)
 have k1 := h1
 have lt1 : ∀ x ∈ p1, x.block < W.heap.size := by obtain ⟨m, hm⟩ := k1; exact DataW.trod_lt m _ _ _ hm
 obtain ⟨⟨a1_0, l1_1, ⟨a1_2, a1_3, a1_4⟩, a1_5⟩, hK1, ⟨w1_0, ⟨w1_1, y1_1, g1_1⟩, ⟨w1_2, w1_3, w1_4⟩, w1_5⟩⟩ : ∃ x : (Int × (List S52) × (Int × Int × Int) × Int), (Kd.pair (Kd.int .i64) (Kd.pair (Kd.slice 52 k52) (Kd.pair (Kd.pair (Kd.int .i64) (Kd.pair (Kd.int .i64) (Kd.int .i64))) (Kd.int .i64)))).K W x cl1 ∧ (((Lit.int .i64 x.1).wf = true) ∧ (x.2.1.length ≤ maxLen ∧ x.2.1.length * 104 ≤ 140737488351232 ∧ ∀ y ∈ x.2.1, g52 y) ∧ (((Lit.int .i64 x.2.2.1.1).wf = true) ∧ ((Lit.int .i64 x.2.2.1.2.1).wf = true) ∧ ((Lit.int .i64 x.2.2.1.2.2).wf = true)) ∧ ((Lit.int .i64 x.2.2.2).wf = true)) := by
  obtain ⟨fuel, hf⟩ := h1
  exact op30f H enc W fuel cl1 _ hf (weights_arg hsz (j := 1) (t := 30) rfl rfl)
 obtain ⟨_, _, rfl, rfl, ⟨_, _, rfl, ⟨A1_1, c1_1, rfl, hc1_1, hr1_1⟩, ⟨_, _, rfl, ⟨_, _, rfl, rfl, ⟨_, _, rfl, rfl, rfl⟩⟩, rfl⟩⟩⟩ := hK1
 clear hA0 hval0 hsz0 hsz
 obtain ⟨k, hk⟩ := Pure.WalPuts a0_0 l0_1 a0_2 a0_3 a0_4 a0_5 a1_0 l1_1 a1_2 a1_3 a1_4 a1_5 w0_0 w0_1 y0_1 g0_1 w0_2 w0_3 w0_4 w0_5 w1_0 w1_1 y1_1 g1_1 w1_2 w1_3 w1_4 w1_5
 refine ((PWalPuts.garnerlaw24_WalPuts.calls (k := k) (r := true) (w := W) (P0_1_ := fun _ => True) (hs0_1 := Kd.V_mk hc0_1 (fun W' hW => Kd.Heap.C (Kd.heap_iso _ (Kd.heap_pair (Kd.heap_int .i64) (Kd.heap_pair (Kd.heap_int .i64) (Kd.heap_pair (Kd.heap_int .i64) (Kd.heap_pair Kd.heap_string (Kd.heap_iso _ (Kd.heap_pair Kd.heap_bool (Kd.heap_pair (Kd.heap_slice 5 (Kd.heap_int .u8)) (Kd.heap_iso _ (Kd.heap_pair (Kd.heap_int .i64) (Kd.heap_pair (Kd.heap_int .i64) (Kd.heap_pair (Kd.heap_int .i64) (Kd.heap_int .u32))))))))))))) (fun k hk => hW k trivial hk) hr0_1)) (P1_1_ := fun _ => True) (hs1_1 := Kd.V_mk hc1_1 (fun W' hW => Kd.Heap.C (Kd.heap_iso _ (Kd.heap_pair (Kd.heap_int .i64) (Kd.heap_pair (Kd.heap_int .i64) (Kd.heap_pair (Kd.heap_int .i64) (Kd.heap_pair Kd.heap_string (Kd.heap_iso _ (Kd.heap_pair Kd.heap_bool (Kd.heap_pair (Kd.heap_slice 5 (Kd.heap_int .u8)) (Kd.heap_iso _ (Kd.heap_pair (Kd.heap_int .i64) (Kd.heap_pair (Kd.heap_int .i64) (Kd.heap_pair (Kd.heap_int .i64) (Kd.heap_int .u32))))))))))))) (fun k hk => hW k trivial hk) hr1_1)) (h := hk)).mono fun e W' he => ?_)
 obtain ⟨rfl, bel⟩ := he
 exact ⟨_, rfl, _, _, _, [], _, [], hW', trodAll_mk1 (shut_bool Try.underlying4 _), (trodAll_cons_mk (Below.trod laidOut (by kernel_rfl) (of_decide_eq_true (by kernel_rfl)) k0 bel lt0) (trodAll_cons_mk (Below.trod laidOut (by kernel_rfl) (of_decide_eq_true (by kernel_rfl)) k1 bel lt1) trodAll_mk0)), rfl, bel.frame _, fun h => by cases h⟩
theorem over : Rows.walPutsRow.holds Try.pinned (OpenSpec.ofChange Rows.walPutsSpec) :=
 OpenClaim.holds_of_wide 4 Try.f4 rfl rfl rfl rfl rfl rfl rfl ⟨rfl, rfl, rfl, rfl, rfl⟩ rfl rfl rfl rfl rfl (by kernel_rfl) Try.func4 (by kernel_rfl)
  (of_decide_eq_true (by kernel_rfl)) (by unfold Func.isWrapper; first | (rw [if_pos (by decide +kernel)]; kernel_rfl) | (rw [if_neg (by decide +kernel)]; exact ⟨rfl, rfl⟩))
  (fun os started H enc _ => lifted os started H enc)
theorem proved : Rows.WalPutsSaid := over
end Go.Proofs.Ytdanmjfkocjgjaa.walPuts
namespace Go.Proofs.Ytdanmjfkocjgjaa
/-- The row, under a short name, for the claim. -/
theorem walPuts_holds : Rows.WalPutsSaid := walPuts.proved
end Go.Proofs.Ytdanmjfkocjgjaa
