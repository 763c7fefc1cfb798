/- The law EntryPuts: its row, out of the printed law's contract and the pure statement. -/
import Derived.Test.YtohocfimdpneoaaRows
import Derived.Test.YtohocfimdpneoaaStEntryPuts
import Derived.Test.YtohocfimdpneoaaPureEntryPuts
import Derived.WalkKit
import Derived.ProofKit
import Derived.OpenShut
import Derived.ShutString
import Derived.ChangeOld
import Derived.Below
import Derived.SizedLaws
namespace Go.Proofs.Ytohocfimdpneoaa.entryPuts
open Go.ChangeShapes Go.WideShapes Go.ChangeAt Go.RowKit Go.Proofs.YtohocfimdpneoaaW.PrintWords Go.Proofs.Ytohocfimdpneoaa.U
open Go.Proofs.Ytohocfimdpneoaa.PEntryPuts Go.Proofs.Ytohocfimdpneoaa.StEntryPuts
open Go.ChangeMaps (open_string shut_string)
set_option linter.unusedVariables false
theorem own : ownKnob Try.prog.godebug = none := by kernel_rfl
theorem laidOut : laidOutB Try.prog = true := by kernel_rfl
set_option maxRecDepth 100000 in
set_option maxHeartbeats 1000000 in
theorem lifted (os : Os) (started : os.Started) (H : Type) (enc : TypeId × Value → H) :
    ReturnsInHanded {} Try.checked os 11 .any (Rows.entryPutsSpec.pre6 enc Try.prog Try.f11 Rows.entryPutsRow.domain false) (Rows.entryPutsSpec.post enc Try.prog Try.f11 false true false false) := by
  refine returnsInHanded_of_change_sized (C := Try.checked) own started (by kernel_rfl) Try.func11
    (ChangeSpec.witness6 (enc := enc) (C := Try.checked) false ⟨#[], #[.slice none 0 0], []⟩ 8 (by kernel_rfl) (by kernel_rfl) (by kernel_rfl) (by kernel_rfl)) ?_
  intro W base args ds gs before hval0 hW hcnd hsz0 _
  have hsz : (DataW.weightsEach Try.prog (Try.f11.params.toList ++ Rows.entryPutsSpec.plain.varTypes Try.prog) (ds ++ gs)).all (· ≤ reachBytes) = true := hsz0
  have hval : ∀ (j : Nat) t v, Try.f11.params[j]? = some t → args[j]? = some v → Value.okWide Try.prog W .any base t v := hval0
  have hW' := hW
  obtain ⟨p, q, hA0, hV, rfl, hfz, hnd⟩ := hW
  have hA : DataW.TrodAll enc Try.prog W 0 (fun _ => true) true Try.f11.params.toList args.toList ds p := hA0
  rw [Try.params11] at hA hval hsz
  obtain ⟨v0, vs0, d0, ds0, p0, q0, hargs, rfl, rfl, h0, r0⟩ := trodAll_cons hA
  obtain ⟨rfl, rfl, rfl⟩ := trodAll_nil r0
  obtain rfl : args = #[v0] := by cases args; simp_all
  obtain ⟨rfl, rfl⟩ := trodVars_none hV
  obtain ⟨A0, len0, c0, rfl⟩ := okWide_slice Try.underlying72 (hval 0 72 v0 rfl rfl)
  have k0 := h0
  have lt0 : ∀ x ∈ p0, x.block < W.heap.size := by obtain ⟨m, hm⟩ := k0; exact DataW.trod_lt m _ _ _ hm
  obtain ⟨l0, w0, hc0, hr0, y0, g0⟩ : ∃ xs : List S78, xs.length ≤ maxLen ∧ len0 = xs.length ∧ (xs.length ≤ c0 ∧ Kd.C k78 W A0 xs.length xs) ∧ xs.length * 104 ≤ 140737488351232 ∧ ∀ y ∈ xs, g78 y := by
    obtain ⟨fuel, hf⟩ := h0
    obtain ⟨xs, e1, e2, e3, e4, e6, e5⟩ := opens_row Try.underlying72 op78 (by kernel_rfl) (by kernel_rfl) hf (weights_arg hsz (j := 0) (t := 72) rfl rfl)
    exact ⟨xs, by omega, e1.symm, ⟨by omega, e4⟩, e6, e5⟩
  subst hc0
  clear hA0 hval0 hsz0 hsz
  obtain ⟨k, hk⟩ := Pure.EntryPuts l0 w0 y0 g0
  refine ((PEntryPuts.garnerlaw06_EntryPuts.calls (k := k) (r := true) (w := W) (hr0 := hr0.2) (hc0 := hr0.1) (h := hk)).mono fun e W' he => ?_)
  obtain ⟨rfl, bel⟩ := he
  exact ⟨_, rfl, _, _, _, [], _, [], hW', trodAll_mk1 (shut_bool Try.underlying4 _), (trodAll_cons_mk (Below.trod laidOut (by kernel_rfl) (of_decide_eq_true (by kernel_rfl)) k0 bel lt0) trodAll_mk0), rfl, bel.frame _, fun h => by cases h⟩
theorem over : Rows.entryPutsRow.holds Try.pinned (OpenSpec.ofChange Rows.entryPutsSpec) :=
  OpenClaim.holds_of_wide 11 Try.f11 rfl rfl rfl rfl rfl rfl rfl ⟨rfl, rfl, rfl, rfl, rfl⟩ rfl rfl rfl rfl rfl (by kernel_rfl) Try.func11 (by kernel_rfl)
    (of_decide_eq_true (by kernel_rfl)) (by unfold Func.isWrapper; first | (rw [if_pos (by decide +kernel)]; kernel_rfl) | (rw [if_neg (by decide +kernel)]; exact ⟨rfl, rfl⟩))
    (fun os started H enc _ => lifted os started H enc)
theorem proved : Rows.EntryPutsSaid := over
end Go.Proofs.Ytohocfimdpneoaa.entryPuts
namespace Go.Proofs.Ytohocfimdpneoaa
/-- The row, under a short name, for the claim. -/
theorem entryPuts_holds : Rows.EntryPutsSaid := entryPuts.proved
end Go.Proofs.Ytohocfimdpneoaa
