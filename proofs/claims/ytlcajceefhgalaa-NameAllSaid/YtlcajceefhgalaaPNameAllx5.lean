/- What the law reaches, as plain Lean functions, and that the machine's calls answer just that. -/
import Derived.Test.YtlcajceefhgalaaPNameAllx0
import Derived.Test.YtlcajceefhgalaaPNameAllx2
import Derived.Test.YtlcajceefhgalaaPNameAllx3
import Derived.Test.YtlcajceefhgalaaPNameAllx4
namespace Go.Proofs.Ytlcajceefhgalaa.PNameAll
open Go.RowKit Go.Proofs.YtlcajceefhgalaaW.PrintWords Go.Proofs.YtlcajceefhgalaaW.PrintLast Go.Proofs.YtlcajceefhgalaaW.PrintMore
attribute [local go_sem] max2_int min2_int max_two min_two max_three min_three max_four min_four
set_option linter.unusedVariables false
set_option linter.unusedSimpArgs false
attribute [local go_sem] wrap64_l1 wrap64_l2 wrap64_l3 wrap64_l4 wrap64_l5
def garnerlaw07_NameAll.l0 : Nat → List ByteArray → Int → Int → Option (Bool)
 | 0, _, _, _ => none
 | k + 1, x0, x1, x5 => if x5 < (x0.length : Int) then (if 0 ≤ x5 then (if ((rdOf ByteArray.empty x0 x5).size : Int) > 100 then ((garnerlaw07_awake.f k).bind fun t129 => (some t129)) else (garnerlaw07_NameAll.l0 k x0 x1 (wrap64 (x5 + 1)))) else (none)) else ((name_All.f k x0 x1).bind fun t130 => ((garnerref07_All.f k x0 x1).bind fun t133 => ((garnerref03_Ints.f k t130 t133).bind fun t136 => (if t136 = true then ((garnerlaw07_awake.f k).bind fun t137 => (some t137)) else (some false)))))
def garnerlaw07_NameAll.f (k : Nat) (l0 : List ByteArray) (a1 : Int) : Option (Bool) := if (l0.length : Int) > 60 then ((garnerlaw07_awake.f k).bind fun t127 => (some t127)) else (garnerlaw07_NameAll.l0 k l0 a1 0)
theorem garnerlaw07_NameAll.mono_l : ∀ k, (∀ y0 y1 y2, LeO (garnerlaw07_NameAll.l0 k y0 y1 y2) (garnerlaw07_NameAll.l0 (k + 1) y0 y1 y2))
 | 0 => fun _ _ _ r h => by simp [garnerlaw07_NameAll.l0] at h
 | k + 1 => by
  have ih0 := garnerlaw07_NameAll.mono_l k
  ·intro y0 y1 y2
   unfold garnerlaw07_NameAll.l0
   repeat' first
   | (with_reducible exact ih0 _ _ _)
   | (with_reducible exact garnerlaw07_awake.mono _)
   | (with_reducible exact garnerref03_Ints.mono _ _ _)
   | (with_reducible exact garnerref07_All.mono _ _ _)
   | (with_reducible exact name_All.mono _ _ _)
   | (with_reducible exact LeO.refl _)
   | (with_reducible exact LeO.none _)
   | (with_reducible refine LeO.ite ?_ ?_)
   | (with_reducible refine LeO.bind ?_ (fun _ => ?_))
   | exact ih0 _ _ _
   | exact garnerlaw07_awake.mono _
   | exact garnerref03_Ints.mono _ _ _
   | exact garnerref07_All.mono _ _ _
   | exact name_All.mono _ _ _
   | exact LeO.none _
   | refine LeO.ite ?_ ?_
   | refine LeO.bind ?_ (fun _ => ?_)
theorem garnerlaw07_NameAll.mono : ∀ a0 a1 k, LeO (garnerlaw07_NameAll.f k a0 a1) (garnerlaw07_NameAll.f (k + 1) a0 a1) := by
 intro a0 a1 k
 have ih0 := garnerlaw07_NameAll.mono_l k
 unfold garnerlaw07_NameAll.f
 repeat' first
   | (with_reducible exact ih0 _ _ _)
   | (with_reducible exact garnerlaw07_awake.mono _)
   | (with_reducible exact garnerref03_Ints.mono _ _ _)
   | (with_reducible exact garnerref07_All.mono _ _ _)
   | (with_reducible exact name_All.mono _ _ _)
   | (with_reducible exact LeO.refl _)
   | (with_reducible exact LeO.none _)
   | (with_reducible refine LeO.ite ?_ ?_)
   | (with_reducible refine LeO.bind ?_ (fun _ => ?_))
   | exact ih0 _ _ _
   | exact garnerlaw07_awake.mono _
   | exact garnerref03_Ints.mono _ _ _
   | exact garnerref07_All.mono _ _ _
   | exact name_All.mono _ _ _
   | exact LeO.none _
   | refine LeO.ite ?_ ?_
   | refine LeO.bind ?_ (fun _ => ?_)
set_option maxHeartbeats 8000000 in
set_option maxRecDepth 100000 in
theorem garnerlaw07_NameAll.calls (k : Nat) (A0 : Option Addr) (c0 : Nat) (l0 : List ByteArray) (a1 : Int) (r : Bool) (w : World) (hr0 : Kd.C Kd.string w A0 l0.length l0) (hc0 : l0.length ≤ c0) (h : garnerlaw07_NameAll.f k l0 a1 = some r) :
  Calls Try.prog 3 #[.slice A0 l0.length c0, .int .i64 a1] w fun e w' => e = .returned (.bool r) ∧ Below w.heap.size w w' := by
 have HR0 := Am hr0
 have HC0 := Am hc0
 clear hr0 hc0
 have HB := Am (Below.refl w.heap.size w)
 have H : (if (l0.length : Int) > 60 then ((garnerlaw07_awake.f k).bind fun t127 => (some t127)) else (garnerlaw07_NameAll.l0 k l0 a1 0)) = some r := h
 clear h
 by_cases c3 : (l0.length : Int) > 60
 ·rw [if_pos c3] at H
  have c3b0 : decide (60 < (l0.length : Int)) = true := decide_eq_true c3
  have c3b1 : decide (60 < l0.length) = true := decide_eq_true (by omega)
  clear c3
  replace H := Option.bind_eq_some_iff.mp H
  obtain ⟨t127, A40, H⟩ := H
  replace H : (some t127) = some r := H
  have A4 := Am A40
  clear A40
  obtain rfl := Option.some.inj H
  go_enter Try.func3, Try.ntmps3
  go_wp2_with (first | ((with_reducible refine gate_callee (f := 4) rfl ?_); refine goesL_ (some 9) rfl rfl Try.func4 (by kernel_rfl) rfl #[] rfl pL ?_; (with_reducible refine (garnerlaw07_awake.calls k  t127 _ A4.out).mono ?_); rintro e w5 ⟨rfl, hb⟩; refine ⟨_, rfl, ?_⟩; replace HB := Am (below_step (pB HB.out) hb); (try clear hb); (try clear hb2); (try clear hk); (try clear hi)))
  go_ret
  exact ⟨pX, pB HB.out⟩
 rw [if_neg c3] at H
 have c3b0 : decide (60 < (l0.length : Int)) = false := decide_eq_false c3
 have c3b1 : decide (60 < l0.length) = false := decide_eq_false (by omega)
 clear c3
 have H' := Am H
 clear H
 go_enter Try.func3, Try.ntmps3
 go_wp2
 go_loopg [5] k (fun kq v5 w' => ∃ (Ab : Int), v5 = .int .i64 Ab ∧ Aside0 (garnerlaw07_NameAll.l0 kq l0 a1 Ab = some r) ∧ Aside0 (kq ≤ k) ∧ Aside0 (Below w.heap.size w w'))
 case atStart => exact ⟨(0), (by first | rfl | (simp; done) | (simp [*]; done)), H', ⟨Nat.le_refl _⟩, ⟨pB HB.out⟩⟩
 case round =>
  clear H'
  try clear p2
  try clear c3
  try clear c3b0
  try clear c3b1
  try clear c4
  obtain ⟨Ab, rfl, HA, HK1, HB⟩ := hrel
  cases gk with
  | zero => exact absurd HA.out (by simp [garnerlaw07_NameAll.l0])
  | succ k1 =>
   have H := HA.out
   clear HA
   simp only [garnerlaw07_NameAll.l0] at H
   by_cases c6 : Ab < (l0.length : Int)
   rotate_left
   ·rw [if_neg c6] at H
    have c6b0 : decide (Ab < (l0.length : Int)) = false := decide_eq_false c6
    clear c6
    replace H := Option.bind_eq_some_iff.mp H
    obtain ⟨t130, A110, H⟩ := H
    replace H : ((garnerref07_All.f k1 l0 a1).bind fun t133 => ((garnerref03_Ints.f k1 t130 t133).bind fun t136 => (if t136 = true then ((garnerlaw07_awake.f k1).bind fun t137 => (some t137)) else (some false)))) = some r := H
    have A11 := Am A110
    clear A110
    replace H := Option.bind_eq_some_iff.mp H
    obtain ⟨t133, A120, H⟩ := H
    replace H : ((garnerref03_Ints.f k1 t130 t133).bind fun t136 => (if t136 = true then ((garnerlaw07_awake.f k1).bind fun t137 => (some t137)) else (some false))) = some r := H
    have A12 := Am A120
    clear A120
    replace H := Option.bind_eq_some_iff.mp H
    obtain ⟨t136, A130, H⟩ := H
    replace H : (if t136 = true then ((garnerlaw07_awake.f k1).bind fun t137 => (some t137)) else (some false)) = some r := H
    have A13 := Am A130
    clear A130
    by_cases c14 : t136 = true
    rotate_left
    ·replace c14 := Bool.eq_false_iff.mpr c14
     subst c14
     have H1 : (some false) = some r := by rw [if_neg (show ¬ (false = true) by decide)] at H; exact H
     clear H
     have H := H1
     clear H1
     obtain rfl := Option.some.inj H
     go_wp2_with (first | ((with_reducible refine gate_callee (f := 6) rfl ?_); refine goesL_ (some 25) rfl rfl Try.func6 (by kernel_rfl) rfl #[.slice A0 l0.length c0, .int .i64 a1] rfl pL ?_; (with_reducible refine (name_All.calls k1 _ _ l0 a1 t130 _ ?Ac ?Ad A11.out).mono ?_); (case Ac => exact pC (Kd.C_below HR0.out HB.out)); (case Ad => exact HC0.out); rintro e w21 ⟨v131, rfl, ho0, hb⟩; refine ⟨_, rfl, ?_⟩; have Aa := Am (Kd.R_lower ho0 (below_size (pB HB.out))); replace HB := Am (below_step (pB HB.out) hb); (try clear hb); (try clear hb2); (try clear hk); (try clear hi); (try clear ho0)) | ((with_reducible refine gate_callee (f := 7) rfl ?_); refine goesL_ (some 28) rfl rfl Try.func7 (by kernel_rfl) rfl #[.slice A0 l0.length c0, .int .i64 a1] rfl pL ?_; (with_reducible refine (garnerref07_All.calls k1 _ _ l0 a1 t133 _ ?Ac ?Ad A12.out).mono ?_); (case Ac => exact pC (Kd.C_below HR0.out HB.out)); (case Ad => exact HC0.out); rintro e w22 ⟨v134, rfl, ho0, hb⟩; refine ⟨_, rfl, ?_⟩; have Ae := Am (Kd.R_lower (Kd.R_new' ho0 (Kd.R_lt (pR Aa.out))) (below_size (pB HB.out))); replace Aa := Am (Kd.R_elder' (pR Aa.out) (Kd.R_base ho0) hb); replace HB := Am (below_step (pB HB.out) hb); (try clear hb); (try clear hb2); (try clear hk); (try clear hi); (try clear ho0); obtain ⟨Aq, Ar, As⟩ := Kd.R_slice Aa.out; subst As; obtain ⟨At, Au, Av⟩ := Kd.R_slice Ae.out; subst Av) | ((with_reducible refine gate_callee (f := 5) rfl ?_); refine goesL_ (some 29) rfl rfl Try.func5 (by kernel_rfl) rfl #[.slice Aq t130.length Ar, .slice At t133.length Au] rfl pL ?_; (with_reducible refine (garnerref03_Ints.calls k1 _ _ t130 _ _ t133 false _ ?Ac ?Ad ?Ag ?Ah A13.out).mono ?_); (case Ac => exact pC (Kd.R_reads' Aa.out).2.2); (case Ad => exact (Kd.R_reads' Aa.out).2.1); (case Ag => exact pC (Kd.R_reads' Ae.out).2.2); (case Ah => exact (Kd.R_reads' Ae.out).2.1); rintro e w' ⟨rfl, ⟨nd, rfl⟩⟩; refine ⟨_, rfl, ?_⟩))
     go_ret
     exact ⟨pX, pB HB.out⟩
    subst c14
    have H1 : ((garnerlaw07_awake.f k1).bind fun t137 => (some t137)) = some r := by rw [if_pos rfl] at H; exact H
    clear H
    have H := H1
    clear H1
    replace H := Option.bind_eq_some_iff.mp H
    obtain ⟨t137, A150, H⟩ := H
    replace H : (some t137) = some r := H
    have A15 := Am A150
    clear A150
    obtain rfl := Option.some.inj H
    go_wp2_with (first | ((with_reducible refine gate_callee (f := 6) rfl ?_); refine goesL_ (some 25) rfl rfl Try.func6 (by kernel_rfl) rfl #[.slice A0 l0.length c0, .int .i64 a1] rfl pL ?_; (with_reducible refine (name_All.calls k1 _ _ l0 a1 t130 _ ?Ac ?Ad A11.out).mono ?_); (case Ac => exact pC (Kd.C_below HR0.out HB.out)); (case Ad => exact HC0.out); rintro e w16 ⟨v131, rfl, ho0, hb⟩; refine ⟨_, rfl, ?_⟩; have Aa := Am (Kd.R_lower ho0 (below_size (pB HB.out))); replace HB := Am (below_step (pB HB.out) hb); (try clear hb); (try clear hb2); (try clear hk); (try clear hi); (try clear ho0)) | ((with_reducible refine gate_callee (f := 7) rfl ?_); refine goesL_ (some 28) rfl rfl Try.func7 (by kernel_rfl) rfl #[.slice A0 l0.length c0, .int .i64 a1] rfl pL ?_; (with_reducible refine (garnerref07_All.calls k1 _ _ l0 a1 t133 _ ?Ac ?Ad A12.out).mono ?_); (case Ac => exact pC (Kd.C_below HR0.out HB.out)); (case Ad => exact HC0.out); rintro e w17 ⟨v134, rfl, ho0, hb⟩; refine ⟨_, rfl, ?_⟩; have Ae := Am (Kd.R_lower (Kd.R_new' ho0 (Kd.R_lt (pR Aa.out))) (below_size (pB HB.out))); replace Aa := Am (Kd.R_elder' (pR Aa.out) (Kd.R_base ho0) hb); replace HB := Am (below_step (pB HB.out) hb); (try clear hb); (try clear hb2); (try clear hk); (try clear hi); (try clear ho0); obtain ⟨Aj, Ak, Al⟩ := Kd.R_slice Aa.out; subst Al; obtain ⟨An, Ao, Ap⟩ := Kd.R_slice Ae.out; subst Ap) | ((with_reducible refine gate_callee (f := 5) rfl ?_); refine goesL_ (some 29) rfl rfl Try.func5 (by kernel_rfl) rfl #[.slice Aj t130.length Ak, .slice An t133.length Ao] rfl pL ?_; (with_reducible refine (garnerref03_Ints.calls k1 _ _ t130 _ _ t133 true _ ?Ac ?Ad ?Ag ?Ah A13.out).mono ?_); (case Ac => exact pC (Kd.R_reads' Aa.out).2.2); (case Ad => exact (Kd.R_reads' Aa.out).2.1); (case Ag => exact pC (Kd.R_reads' Ae.out).2.2); (case Ah => exact (Kd.R_reads' Ae.out).2.1); rintro e w' ⟨rfl, ⟨nd, rfl⟩⟩; refine ⟨_, rfl, ?_⟩) | (go_at_call 4; (with_reducible refine (garnerlaw07_awake.calls k1  t137 _ A15.out).mono ?_); rintro e w20 ⟨rfl, hb⟩; replace Aa := bRa Aa hb; replace Ae := bRa Ae hb; replace HB := Am (below_step (pB HB.out) hb); (try clear hb); (try clear hb2); (try clear hk); (try clear hi)))
    go_ret
    exact ⟨pX, pB HB.out⟩
   rw [if_pos c6] at H
   have c6b0 : decide (Ab < (l0.length : Int)) = true := decide_eq_true c6
   clear c6
   by_cases c7 : 0 ≤ Ab
   rotate_left
   ·rw [if_neg c7] at H
    exact absurd H (by simp)
   rw [if_pos c7] at H
   have c7b0 : decide (0 ≤ Ab) = true := decide_eq_true c7
   clear c7
   by_cases c8 : ((rdOf ByteArray.empty l0 Ab).size : Int) > 100
   rotate_left
   ·rw [if_neg c8] at H
    have c8b0 : decide (100 < ((rdOf ByteArray.empty l0 Ab).size : Int)) = false := decide_eq_false c8
    have c8b1 : decide (100 < (rdOf ByteArray.empty l0 Ab).size) = false := decide_eq_false (by omega)
    clear c8
    have H' := Am H
    clear H
    have p128 : 0 ≤ (Ab : Int) := of_decide_eq_true pS
    have q128 : Ab < (l0.length : Int) := of_decide_eq_true pS
    obtain ⟨Ai, e128, Af⟩ := Kd.at_string HR0.out Ab p128 q128
    cases e128
    replace Af := cU HB.out Af
    replace p128 := eq_true p128
    replace q128 := eq_true q128
    go_wp2
    go_roundg k1
    case measure => have := HK1.out; omega
    case rel => exact ⟨(wrap64 (Ab + 1)), (by first | rfl | (simp; done) | (simp [*]; done)), H', ⟨by have := HK1.out; omega⟩, ⟨pB HB.out⟩⟩
   rw [if_pos c8] at H
   have c8b0 : decide (100 < ((rdOf ByteArray.empty l0 Ab).size : Int)) = true := decide_eq_true c8
   have c8b1 : decide (100 < (rdOf ByteArray.empty l0 Ab).size) = true := decide_eq_true (by omega)
   clear c8
   replace H := Option.bind_eq_some_iff.mp H
   obtain ⟨t129, A90, H⟩ := H
   replace H : (some t129) = some r := H
   have A9 := Am A90
   clear A90
   obtain rfl := Option.some.inj H
   have p128 : 0 ≤ (Ab : Int) := of_decide_eq_true pS
   have q128 : Ab < (l0.length : Int) := of_decide_eq_true pS
   obtain ⟨Ai, e128, Af⟩ := Kd.at_string HR0.out Ab p128 q128
   cases e128
   replace Af := cU HB.out Af
   replace p128 := eq_true p128
   replace q128 := eq_true q128
   go_wp2_with (first | ((with_reducible refine gate_callee (f := 4) rfl ?_); refine goesL_ (some 22) rfl rfl Try.func4 (by kernel_rfl) rfl #[] rfl pL ?_; (with_reducible refine (garnerlaw07_awake.calls k1  t129 _ A9.out).mono ?_); rintro e w10 ⟨rfl, hb⟩; refine ⟨_, rfl, ?_⟩; replace HB := Am (below_step (pB HB.out) hb); (try clear hb); (try clear hb2); (try clear hk); (try clear hi)))
   go_ret
   exact ⟨pX, pB HB.out⟩
end Go.Proofs.Ytlcajceefhgalaa.PNameAll
