/- The law HardJoins: its row, out of the printed law's contract and the pure statement. -/
import Derived.Test.YthgkjkdbjnoikaaRows
import Derived.Test.YthgkjkdbjnoikaaStHardJoins
import Derived.Test.YthgkjkdbjnoikaaPureHardJoins
import Derived.WalkKit
import Derived.ProofKit
import Derived.OpenShut
import Derived.ShutString
import Derived.ChangeOld
import Derived.Below
import Derived.SizedLaws
namespace Go.Proofs.Ythgkjkdbjnoikaa.hardJoins
open Go.ChangeShapes Go.WideShapes Go.ChangeAt Go.RowKit Go.Proofs.YthgkjkdbjnoikaaW.PrintWords Go.Proofs.Ythgkjkdbjnoikaa.U
open Go.Proofs.Ythgkjkdbjnoikaa.PHardJoins Go.Proofs.Ythgkjkdbjnoikaa.StHardJoins
open Go.ChangeMaps (open_string shut_string)
set_option linter.unusedVariables false
theorem own : ownKnob Try.prog.godebug = none := by kernel_rfl
theorem laidOut : laidOutB Try.prog = true := by kernel_rfl
set_option maxRecDepth 100000 in
set_option maxHeartbeats 1000000 in
theorem lifted (os : Os) (started : os.Started) (H : Type) (enc : TypeId × Value → H) :
    ReturnsInHanded {} Try.checked os 6 .any (Rows.hardJoinsSpec.pre6 enc Try.prog Try.f6 Rows.hardJoinsRow.domain false) (Rows.hardJoinsSpec.post enc Try.prog Try.f6 false true false false) := by
  refine returnsInHanded_of_change_sized (C := Try.checked) own started (by kernel_rfl) Try.func6
    (ChangeSpec.witness6 (enc := enc) (C := Try.checked) false ⟨#[], #[.slice none 0 0, .slice none 0 0], []⟩ 8 (by kernel_rfl) (by kernel_rfl) (by kernel_rfl) (by kernel_rfl)) ?_
  intro W base args ds gs before hval0 hW hcnd hsz0 _
  have hval : ∀ (j : Nat) t v, Try.f6.params[j]? = some t → args[j]? = some v → Value.okWide Try.prog W .any base t v := hval0
  have hW' := hW
  obtain ⟨p, q, hA0, hV, rfl, hfz, hnd⟩ := hW
  have hA : DataW.TrodAll enc Try.prog W 0 (fun _ => true) true Try.f6.params.toList args.toList ds p := hA0
  rw [Try.params6] at hA hval
  obtain ⟨v0, vs0, d0, ds0, p0, q0, hargs, rfl, rfl, h0, r0⟩ := trodAll_cons hA
  obtain ⟨v1, vs1, d1, ds1, p1, q1, rfl, rfl, rfl, h1, r1⟩ := trodAll_cons r0
  obtain ⟨rfl, rfl, rfl⟩ := trodAll_nil r1
  obtain rfl : args = #[v0, v1] := by cases args; simp_all
  obtain ⟨rfl, rfl⟩ := trodVars_none hV
  obtain ⟨A0, len0, c0, rfl⟩ := okWide_slice Try.underlying44 (hval 0 44 v0 rfl rfl)
  have k0 := h0
  have lt0 : ∀ x ∈ p0, x.block < W.heap.size := by obtain ⟨m, hm⟩ := k0; exact DataW.trod_lt m _ _ _ hm
  obtain ⟨l0, w0, hc0, hr0, g0⟩ : ∃ xs : List S40, xs.length ≤ maxLen ∧ len0 = xs.length ∧ (xs.length ≤ c0 ∧ Kd.C k40 W A0 xs.length xs) ∧ ∀ y ∈ xs, g40 y := by
    obtain ⟨fuel, hf⟩ := h0
    obtain ⟨xs, e1, e2, e3, e4, e5⟩ := opens_row Try.underlying44 op40 (by kernel_rfl) hf
    exact ⟨xs, by omega, e1.symm, ⟨by omega, e4⟩, e5⟩
  subst hc0
  obtain ⟨A1, len1, c1, rfl⟩ := okWide_slice Try.underlying32 (hval 1 32 v1 rfl rfl)
  have k1 := h1
  have lt1 : ∀ x ∈ p1, x.block < W.heap.size := by obtain ⟨m, hm⟩ := k1; exact DataW.trod_lt m _ _ _ hm
  obtain ⟨l1, w1, hc1, hr1, g1⟩ : ∃ xs : List Int, xs.length ≤ maxLen ∧ len1 = xs.length ∧ (xs.length ≤ c1 ∧ Kd.C (Kd.int .u8) W A1 xs.length xs) ∧ ∀ y ∈ xs, (Lit.int .u8 y).wf = true := by
    obtain ⟨fuel, hf⟩ := h1
    obtain ⟨xs, e1, e2, e3, e4, e5⟩ := opens_row Try.underlying32 op5 (by kernel_rfl) hf
    exact ⟨xs, by omega, e1.symm, ⟨by omega, e4⟩, e5⟩
  subst hc1
  clear hA0 hval0
  obtain ⟨k, hk⟩ := Pure.HardJoins l0 l1 w0 g0 w1 g1
  refine ((PHardJoins.garnerlaw22_HardJoins.calls (k := k) (r := true) (w := W) (hr0 := hr0.2) (hc0 := hr0.1) (hr1 := hr1.2) (hc1 := hr1.1) (h := hk)).mono fun e W' he => ?_)
  obtain ⟨rfl, bel⟩ := he
  exact ⟨_, rfl, _, _, _, [], _, [], hW', trodAll_mk1 (shut_bool Try.underlying4 _), (trodAll_cons_mk (Below.trod laidOut (by kernel_rfl) (of_decide_eq_true (by kernel_rfl)) k0 bel lt0) (trodAll_cons_mk (Below.trod laidOut (by kernel_rfl) (of_decide_eq_true (by kernel_rfl)) k1 bel lt1) trodAll_mk0)), rfl, bel.frame _, fun h => by cases h⟩
theorem over : Rows.hardJoinsRow.holds Try.pinned (OpenSpec.ofChange Rows.hardJoinsSpec) :=
  OpenClaim.holds_of_wide 6 Try.f6 rfl rfl rfl rfl rfl rfl rfl ⟨rfl, rfl, rfl, rfl, rfl⟩ rfl rfl rfl rfl rfl (by kernel_rfl) Try.func6 (by kernel_rfl)
    (of_decide_eq_true (by kernel_rfl)) (by unfold Func.isWrapper; first | (rw [if_pos (by decide +kernel)]; kernel_rfl) | (rw [if_neg (by decide +kernel)]; exact ⟨rfl, rfl⟩))
    (fun os started H enc _ => lifted os started H enc)
theorem proved : Rows.HardJoinsSaid := over
end Go.Proofs.Ythgkjkdbjnoikaa.hardJoins
namespace Go.Proofs.Ythgkjkdbjnoikaa
/-- The row, under a short name, for the claim. -/
theorem hardJoins_holds : Rows.HardJoinsSaid := hardJoins.proved
end Go.Proofs.Ythgkjkdbjnoikaa
