/- What the law reaches, as plain Lean functions, and that the machine's calls answer just that. -/
import Derived.Test.YtklpoeaoojgljaaPRelayFindsx0
import Derived.Test.YtklpoeaoojgljaaPRelayFindsx3
import Derived.Maps.OwnSet
namespace Go.Proofs.Ytklpoeaoojgljaa.PRelayFinds
open Go.RowKit Go.Proofs.YtklpoeaoojgljaaW.PrintWords Go.Proofs.YtklpoeaoojgljaaW.PrintLast Go.Proofs.YtklpoeaoojgljaaW.PrintMore
set_option linter.unusedVariables false
set_option linter.unusedSimpArgs false
section
attribute [local go_sem] max2_int min2_int max_two min_two max_three min_three max_four min_four
attribute [local go_sem] wrap64_l1 wrap64_l2 wrap64_l3 wrap64_l4 wrap64_l5
def garnerref03_Ints.l0 : Nat → List Int → List Int → Int → Option (Bool)
 | 0, _, _, _ => none
 | k + 1, x0, x1, x5 => if x5 < (x0.length : Int) then (if 0 ≤ x5 then (if x5 < (x1.length : Int) then (if (rd x0 x5) = (rd x1 x5) then (garnerref03_Ints.l0 k x0 x1 (wrap64 (x5 + 1))) else (some false)) else (none)) else (none)) else (some true)
def garnerref03_Ints.f (k : Nat) (l0 : List Int) (l1 : List Int) : Option (Bool) := if (l0.length : Int) = (l1.length : Int) then (garnerref03_Ints.l0 k l0 l1 0) else (some false)
theorem garnerref03_Ints.mono_l : ∀ k, (∀ y0 y1 y2, LeO (garnerref03_Ints.l0 k y0 y1 y2) (garnerref03_Ints.l0 (k + 1) y0 y1 y2))
 | 0 => fun _ _ _ r h => by simp [garnerref03_Ints.l0] at h
 | k + 1 => by
  have ih0 := garnerref03_Ints.mono_l k
  ·intro y0 y1 y2
   unfold garnerref03_Ints.l0
   repeat' first
   | (with_reducible exact ih0 _ _ _)
   | (with_reducible exact LeO.refl _)
   | (with_reducible exact LeO.none _)
   | (with_reducible refine LeO.ite ?_ ?_)
   | (with_reducible refine LeO.bind ?_ (fun _ => ?_))
   | exact ih0 _ _ _
   | exact LeO.none _
   | refine LeO.ite ?_ ?_
   | refine LeO.bind ?_ (fun _ => ?_)
theorem garnerref03_Ints.mono : ∀ a0 a1 k, LeO (garnerref03_Ints.f k a0 a1) (garnerref03_Ints.f (k + 1) a0 a1) := by
 intro a0 a1 k
 have ih0 := garnerref03_Ints.mono_l k
 unfold garnerref03_Ints.f
 repeat' first
   | (with_reducible exact ih0 _ _ _)
   | (with_reducible exact LeO.refl _)
   | (with_reducible exact LeO.none _)
   | (with_reducible refine LeO.ite ?_ ?_)
   | (with_reducible refine LeO.bind ?_ (fun _ => ?_))
   | exact ih0 _ _ _
   | exact LeO.none _
   | refine LeO.ite ?_ ?_
   | refine LeO.bind ?_ (fun _ => ?_)
set_option maxHeartbeats 8000000 in
set_option maxRecDepth 100000 in
theorem garnerref03_Ints.calls (k : Nat) (A0 : Option Addr) (c0 : Nat) (l0 : List Int) (A1 : Option Addr) (c1 : Nat) (l1 : List Int) (r : Bool) (w : World) (hr0 : Kd.C (Kd.int .i64) w A0 l0.length l0) (hc0 : l0.length ≤ c0) (hr1 : Kd.C (Kd.int .i64) w A1 l1.length l1) (hc1 : l1.length ≤ c1) (h : garnerref03_Ints.f k l0 l1 = some r) :
  Calls Try.prog 11 #[.slice A0 l0.length c0, .slice A1 l1.length c1] w fun e w' => e = .returned (.bool r) ∧ Drawn0 w w' := by
 have HR0 := Am hr0
 have HC0 := Am hc0
 clear hr0 hc0
 have HR1 := Am hr1
 have HC1 := Am hc1
 clear hr1 hc1
 have H : (if (l0.length : Int) = (l1.length : Int) then (garnerref03_Ints.l0 k l0 l1 0) else (some false)) = some r := h
 clear h
 by_cases c3 : (l0.length : Int) = (l1.length : Int)
 rotate_left
 ·rw [if_neg c3] at H
  have c3b0 : ((l0.length : Int) == (l1.length : Int)) = false := beq_eq_false_iff_ne.mpr c3
  have c3b1 : ((l0.length : Int) != (l1.length : Int)) = true := bne_iff_ne.mpr c3
  have c3b2 : (l0.length == l1.length) = false := by first | simpa using c3 | (simp at c3 ⊢; omega)
  obtain rfl := Option.some.inj H
  go_enter Try.func11, Try.ntmps11
  go_wp2
  repeat (go_quiet (fail); try go_wp2)
  go_ret
  exact ⟨by first | rfl | (simp; done) | (simp [*]; done), by repeat (first | exact Drawn0.refl _ | apply Drawn0.step)⟩
 rw [if_pos c3] at H
 have c3b0 : ((l0.length : Int) == (l1.length : Int)) = true := beq_iff_eq.mpr c3
 have c3b1 : ((l0.length : Int) != (l1.length : Int)) = false := bne_eq_false_iff_eq.mpr c3
 have c3b2 : (l0.length == l1.length) = true := by first | simpa using c3 | (simp at c3 ⊢; omega)
 clear c3
 have H' := Am H
 clear H
 go_enter Try.func11, Try.ntmps11
 go_wp2
 repeat (go_quiet (fail); try go_wp2)
 go_loopg [5] k (fun kq v5 w' => ∃ (Aa : Int), v5 = .int .i64 Aa ∧ Aside0 (garnerref03_Ints.l0 kq l0 l1 Aa = some r) ∧ Aside0 (kq ≤ k) ∧ Drawn0 w w')
 case atStart => exact ⟨(0), (by first | rfl | (simp; done) | (simp [*]; done)), H', ⟨Nat.le_refl _⟩, by repeat (first | exact Drawn0.refl _ | apply Drawn0.step)⟩
 case round =>
  clear H'
  try clear c1
  try clear p2
  try clear c3
  try clear c3b0
  try clear c3b1
  try clear c3b2
  obtain ⟨Aa, rfl, HA, HK1, ⟨m1, rfl⟩⟩ := hrel
  cases gk with
  | zero => exact absurd HA.out (by simp [garnerref03_Ints.l0])
  | succ k1 =>
   have H := HA.out
   clear HA
   simp only [garnerref03_Ints.l0] at H
   by_cases c4 : Aa < (l0.length : Int)
   rotate_left
   ·rw [if_neg c4] at H
    have c4b0 : decide (Aa < (l0.length : Int)) = false := decide_eq_false c4
    clear c4
    obtain rfl := Option.some.inj H
    go_wp2
    repeat (go_quiet (fail); try go_wp2)
    go_ret
    exact ⟨by first | rfl | (simp; done) | (simp [*]; done), by repeat (first | exact Drawn0.refl _ | apply Drawn0.step)⟩
   rw [if_pos c4] at H
   have c4b0 : decide (Aa < (l0.length : Int)) = true := decide_eq_true c4
   clear c4
   by_cases c5 : 0 ≤ Aa
   rotate_left
   ·rw [if_neg c5] at H
    exact absurd H (by simp)
   rw [if_pos c5] at H
   have c5b0 : decide (0 ≤ Aa) = true := decide_eq_true c5
   clear c5
   by_cases c6 : Aa < (l1.length : Int)
   rotate_left
   ·rw [if_neg c6] at H
    exact absurd H (by simp)
   rw [if_pos c6] at H
   have c6b0 : decide (Aa < (l1.length : Int)) = true := decide_eq_true c6
   clear c6
   by_cases c7 : (rd l0 Aa) = (rd l1 Aa)
   rotate_left
   ·rw [if_neg c7] at H
    have c7b0 : ((rd l0 Aa) == (rd l1 Aa)) = false := beq_eq_false_iff_ne.mpr c7
    have c7b1 : ((rd l0 Aa) != (rd l1 Aa)) = true := bne_iff_ne.mpr c7
    obtain rfl := Option.some.inj H
    have p150 : 0 ≤ (Aa : Int) := of_decide_eq_true pS
    have q150 : Aa < (l0.length : Int) := of_decide_eq_true pS
    obtain ⟨Ad, e150, Ab⟩ := Kd.at_int HR0.out Aa p150 q150
    cases e150
    replace p150 := eq_true p150
    replace q150 := eq_true q150
    have p151 : 0 ≤ (Aa : Int) := of_decide_eq_true pS
    have q151 : Aa < (l1.length : Int) := of_decide_eq_true pS
    obtain ⟨Ae, e151, Ac⟩ := Kd.at_int HR1.out Aa p151 q151
    cases e151
    replace p151 := eq_true p151
    replace q151 := eq_true q151
    go_wp2
    repeat (go_quiet (fail); try go_wp2)
    go_ret
    exact ⟨by first | rfl | (simp; done) | (simp [*]; done), by repeat (first | exact Drawn0.refl _ | apply Drawn0.step)⟩
   rw [if_pos c7] at H
   have c7b0 : ((rd l0 Aa) == (rd l1 Aa)) = true := beq_iff_eq.mpr c7
   have c7b1 : ((rd l0 Aa) != (rd l1 Aa)) = false := bne_eq_false_iff_eq.mpr c7
   clear c7
   have H' := Am H
   clear H
   have p150 : 0 ≤ (Aa : Int) := of_decide_eq_true pS
   have q150 : Aa < (l0.length : Int) := of_decide_eq_true pS
   obtain ⟨Ad, e150, Ab⟩ := Kd.at_int HR0.out Aa p150 q150
   cases e150
   replace p150 := eq_true p150
   replace q150 := eq_true q150
   have p151 : 0 ≤ (Aa : Int) := of_decide_eq_true pS
   have q151 : Aa < (l1.length : Int) := of_decide_eq_true pS
   obtain ⟨Ae, e151, Ac⟩ := Kd.at_int HR1.out Aa p151 q151
   cases e151
   replace p151 := eq_true p151
   replace q151 := eq_true q151
   go_wp2
   repeat (go_quiet (fail); try go_wp2)
   go_roundg k1
   case measure => have := HK1.out; omega
   case rel => exact ⟨(wrap64 (Aa + 1)), (by first | rfl | (simp; done) | (simp [*]; done)), H', ⟨by have := HK1.out; omega⟩, by repeat (first | exact Drawn0.refl _ | apply Drawn0.step)⟩
def cmp_isNaN_int.f (a0 : Int) : Option (Bool) := some (a0 != a0)
set_option maxHeartbeats 8000000 in
set_option maxRecDepth 100000 in
theorem cmp_isNaN_int.calls (a0 : Int) (r : Bool) (w : World) (h : cmp_isNaN_int.f a0 = some r) :
  Calls Try.prog 47 #[.int .i64 a0] w fun e w' => e = .returned (.bool r) ∧ Drawn0 w w' := by
 have H : (some (a0 != a0)) = some r := h
 clear h
 obtain rfl := Option.some.inj H
 go_enter Try.func47, Try.ntmps47
 go_wp2
 go_ret
 exact ⟨by first | rfl | (simp; done) | (simp [*]; done), by repeat (first | exact Drawn0.refl _ | apply Drawn0.step)⟩
def cmp_Less_int.f (a0 : Int) (a1 : Int) : Option (Bool) := (cmp_isNaN_int.f a0).bind fun t152 => (if t152 = true then ((cmp_isNaN_int.f a1).bind fun t153 => (if t153 = true then (some (decide (a0 < a1))) else (some true))) else (some (decide (a0 < a1))))
set_option maxHeartbeats 8000000 in
set_option maxRecDepth 100000 in
theorem cmp_Less_int.calls (a0 : Int) (a1 : Int) (r : Bool) (w : World) (h : cmp_Less_int.f a0 a1 = some r) :
  Calls Try.prog 37 #[.int .i64 a0, .int .i64 a1] w fun e w' => e = .returned (.bool r) ∧ Drawn0 w w' := by
 have H : ((cmp_isNaN_int.f a0).bind fun t152 => (if t152 = true then ((cmp_isNaN_int.f a1).bind fun t153 => (if t153 = true then (some (decide (a0 < a1))) else (some true))) else (some (decide (a0 < a1))))) = some r := h
 clear h
 replace H := Option.bind_eq_some_iff.mp H
 obtain ⟨t152, A30, H⟩ := H
 replace H : (if t152 = true then ((cmp_isNaN_int.f a1).bind fun t153 => (if t153 = true then (some (decide (a0 < a1))) else (some true))) else (some (decide (a0 < a1)))) = some r := H
 have A3 := Am A30
 clear A30
 by_cases c4 : t152 = true
 rotate_left
 ·replace c4 := Bool.eq_false_iff.mpr c4
  subst c4
  have H1 : (some (decide (a0 < a1))) = some r := by rw [if_neg (show ¬ (false = true) by decide)] at H; exact H
  clear H
  have H := H1
  clear H1
  obtain rfl := Option.some.inj H
  go_enter Try.func37, Try.ntmps37
  go_wp2_with (first | ((with_reducible refine gate_callee (f := 47) rfl ?_); refine goesL_ (some 6) rfl rfl Try.func47 (by kernel_rfl) rfl #[.int .i64 a0] rfl pL ?_; (with_reducible refine (cmp_isNaN_int.calls a0 false _ A3.out).mono ?_); rintro e w' ⟨rfl, ⟨nd, rfl⟩⟩; refine ⟨_, rfl, ?_⟩))
  go_ret
  exact ⟨by first | rfl | (simp; done) | (simp [*]; done), by repeat (first | exact Drawn0.refl _ | apply Drawn0.step)⟩
 subst c4
 have H1 : ((cmp_isNaN_int.f a1).bind fun t153 => (if t153 = true then (some (decide (a0 < a1))) else (some true))) = some r := by rw [if_pos rfl] at H; exact H
 clear H
 have H := H1
 clear H1
 replace H := Option.bind_eq_some_iff.mp H
 obtain ⟨t153, A50, H⟩ := H
 replace H : (if t153 = true then (some (decide (a0 < a1))) else (some true)) = some r := H
 have A5 := Am A50
 clear A50
 by_cases c6 : t153 = true
 ·subst c6
  have H1 : (some (decide (a0 < a1))) = some r := by rw [if_pos rfl] at H; exact H
  clear H
  have H := H1
  clear H1
  obtain rfl := Option.some.inj H
  go_enter Try.func37, Try.ntmps37
  go_wp2_with (first | ((with_reducible refine gate_callee (f := 47) rfl ?_); refine goesL_ (some 6) rfl rfl Try.func47 (by kernel_rfl) rfl #[.int .i64 a0] rfl pL ?_; (with_reducible refine (cmp_isNaN_int.calls a0 true _ A3.out).mono ?_); rintro e w' ⟨rfl, ⟨nd, rfl⟩⟩; refine ⟨_, rfl, ?_⟩) | (go_at_call 47; (with_reducible refine (cmp_isNaN_int.calls a1 true _ A5.out).mono ?_); rintro e w' ⟨rfl, ⟨nd, rfl⟩⟩))
  go_ret
  exact ⟨by first | rfl | (simp; done) | (simp [*]; done), by repeat (first | exact Drawn0.refl _ | apply Drawn0.step)⟩
 replace c6 := Bool.eq_false_iff.mpr c6
 subst c6
 have H1 : (some true) = some r := by rw [if_neg (show ¬ (false = true) by decide)] at H; exact H
 clear H
 have H := H1
 clear H1
 obtain rfl := Option.some.inj H
 go_enter Try.func37, Try.ntmps37
 go_wp2_with (first | ((with_reducible refine gate_callee (f := 47) rfl ?_); refine goesL_ (some 6) rfl rfl Try.func47 (by kernel_rfl) rfl #[.int .i64 a0] rfl pL ?_; (with_reducible refine (cmp_isNaN_int.calls a0 true _ A3.out).mono ?_); rintro e w' ⟨rfl, ⟨nd, rfl⟩⟩; refine ⟨_, rfl, ?_⟩) | (go_at_call 47; (with_reducible refine (cmp_isNaN_int.calls a1 false _ A5.out).mono ?_); rintro e w' ⟨rfl, ⟨nd, rfl⟩⟩))
 go_ret
 exact ⟨by first | rfl | (simp; done) | (simp [*]; done), by repeat (first | exact Drawn0.refl _ | apply Drawn0.step)⟩
def bits_Len32.f (a0 : Int) : Option (Int) := if a0 ≥ 65536 then (if (a0 / 65536) ≥ 256 then (if 0 ≤ (((a0 / 65536) / 256) % 256) then (if (((a0 / 65536) / 256) % 256) < 256 then (some (wrap64 (24 + (wrap64 (bt (⟨#[0, 1, 2, 2, 3, 3, 3, 3, 4, 4, 4, 4, 4, 4, 4, 4, 5, 5, 5, 5, 5, 5, 5, 5, 5, 5, 5, 5, 5, 5, 5, 5, 6, 6, 6, 6, 6, 6, 6, 6, 6, 6, 6, 6, 6, 6, 6, 6, 6, 6, 6, 6, 6, 6, 6, 6, 6, 6, 6, 6, 6, 6, 6, 6, 7, 7, 7, 7, 7, 7, 7, 7, 7, 7, 7, 7, 7, 7, 7, 7, 7, 7, 7, 7, 7, 7, 7, 7, 7, 7, 7, 7, 7, 7, 7, 7, 7, 7, 7, 7, 7, 7, 7, 7, 7, 7, 7, 7, 7, 7, 7, 7, 7, 7, 7, 7, 7, 7, 7, 7, 7, 7, 7, 7, 7, 7, 7, 7, 8, 8, 8, 8, 8, 8, 8, 8, 8, 8, 8, 8, 8, 8, 8, 8, 8, 8, 8, 8, 8, 8, 8, 8, 8, 8, 8, 8, 8, 8, 8, 8, 8, 8, 8, 8, 8, 8, 8, 8, 8, 8, 8, 8, 8, 8, 8, 8, 8, 8, 8, 8, 8, 8, 8, 8, 8, 8, 8, 8, 8, 8, 8, 8, 8, 8, 8, 8, 8, 8, 8, 8, 8, 8, 8, 8, 8, 8, 8, 8, 8, 8, 8, 8, 8, 8, 8, 8, 8, 8, 8, 8, 8, 8, 8, 8, 8, 8, 8, 8, 8, 8, 8, 8, 8, 8, 8, 8, 8, 8, 8, 8, 8, 8, 8, 8, 8, 8, 8, 8, 8, 8, 8, 8, 8, 8, 8, 8]⟩ : ByteArray) (((a0 / 65536) / 256) % 256)))))) else (none)) else (none)) else (if 0 ≤ ((a0 / 65536) % 256) then (if ((a0 / 65536) % 256) < 256 then (some (wrap64 (16 + (wrap64 (bt (⟨#[0, 1, 2, 2, 3, 3, 3, 3, 4, 4, 4, 4, 4, 4, 4, 4, 5, 5, 5, 5, 5, 5, 5, 5, 5, 5, 5, 5, 5, 5, 5, 5, 6, 6, 6, 6, 6, 6, 6, 6, 6, 6, 6, 6, 6, 6, 6, 6, 6, 6, 6, 6, 6, 6, 6, 6, 6, 6, 6, 6, 6, 6, 6, 6, 7, 7, 7, 7, 7, 7, 7, 7, 7, 7, 7, 7, 7, 7, 7, 7, 7, 7, 7, 7, 7, 7, 7, 7, 7, 7, 7, 7, 7, 7, 7, 7, 7, 7, 7, 7, 7, 7, 7, 7, 7, 7, 7, 7, 7, 7, 7, 7, 7, 7, 7, 7, 7, 7, 7, 7, 7, 7, 7, 7, 7, 7, 7, 7, 8, 8, 8, 8, 8, 8, 8, 8, 8, 8, 8, 8, 8, 8, 8, 8, 8, 8, 8, 8, 8, 8, 8, 8, 8, 8, 8, 8, 8, 8, 8, 8, 8, 8, 8, 8, 8, 8, 8, 8, 8, 8, 8, 8, 8, 8, 8, 8, 8, 8, 8, 8, 8, 8, 8, 8, 8, 8, 8, 8, 8, 8, 8, 8, 8, 8, 8, 8, 8, 8, 8, 8, 8, 8, 8, 8, 8, 8, 8, 8, 8, 8, 8, 8, 8, 8, 8, 8, 8, 8, 8, 8, 8, 8, 8, 8, 8, 8, 8, 8, 8, 8, 8, 8, 8, 8, 8, 8, 8, 8, 8, 8, 8, 8, 8, 8, 8, 8, 8, 8, 8, 8, 8, 8, 8, 8, 8, 8]⟩ : ByteArray) ((a0 / 65536) % 256)))))) else (none)) else (none))) else (if a0 ≥ 256 then (if 0 ≤ ((a0 / 256) % 256) then (if ((a0 / 256) % 256) < 256 then (some (wrap64 (8 + (wrap64 (bt (⟨#[0, 1, 2, 2, 3, 3, 3, 3, 4, 4, 4, 4, 4, 4, 4, 4, 5, 5, 5, 5, 5, 5, 5, 5, 5, 5, 5, 5, 5, 5, 5, 5, 6, 6, 6, 6, 6, 6, 6, 6, 6, 6, 6, 6, 6, 6, 6, 6, 6, 6, 6, 6, 6, 6, 6, 6, 6, 6, 6, 6, 6, 6, 6, 6, 7, 7, 7, 7, 7, 7, 7, 7, 7, 7, 7, 7, 7, 7, 7, 7, 7, 7, 7, 7, 7, 7, 7, 7, 7, 7, 7, 7, 7, 7, 7, 7, 7, 7, 7, 7, 7, 7, 7, 7, 7, 7, 7, 7, 7, 7, 7, 7, 7, 7, 7, 7, 7, 7, 7, 7, 7, 7, 7, 7, 7, 7, 7, 7, 8, 8, 8, 8, 8, 8, 8, 8, 8, 8, 8, 8, 8, 8, 8, 8, 8, 8, 8, 8, 8, 8, 8, 8, 8, 8, 8, 8, 8, 8, 8, 8, 8, 8, 8, 8, 8, 8, 8, 8, 8, 8, 8, 8, 8, 8, 8, 8, 8, 8, 8, 8, 8, 8, 8, 8, 8, 8, 8, 8, 8, 8, 8, 8, 8, 8, 8, 8, 8, 8, 8, 8, 8, 8, 8, 8, 8, 8, 8, 8, 8, 8, 8, 8, 8, 8, 8, 8, 8, 8, 8, 8, 8, 8, 8, 8, 8, 8, 8, 8, 8, 8, 8, 8, 8, 8, 8, 8, 8, 8, 8, 8, 8, 8, 8, 8, 8, 8, 8, 8, 8, 8, 8, 8, 8, 8, 8, 8]⟩ : ByteArray) ((a0 / 256) % 256)))))) else (none)) else (none)) else (if 0 ≤ ((a0) % 256) then (if ((a0) % 256) < 256 then (some (wrap64 (0 + (wrap64 (bt (⟨#[0, 1, 2, 2, 3, 3, 3, 3, 4, 4, 4, 4, 4, 4, 4, 4, 5, 5, 5, 5, 5, 5, 5, 5, 5, 5, 5, 5, 5, 5, 5, 5, 6, 6, 6, 6, 6, 6, 6, 6, 6, 6, 6, 6, 6, 6, 6, 6, 6, 6, 6, 6, 6, 6, 6, 6, 6, 6, 6, 6, 6, 6, 6, 6, 7, 7, 7, 7, 7, 7, 7, 7, 7, 7, 7, 7, 7, 7, 7, 7, 7, 7, 7, 7, 7, 7, 7, 7, 7, 7, 7, 7, 7, 7, 7, 7, 7, 7, 7, 7, 7, 7, 7, 7, 7, 7, 7, 7, 7, 7, 7, 7, 7, 7, 7, 7, 7, 7, 7, 7, 7, 7, 7, 7, 7, 7, 7, 7, 8, 8, 8, 8, 8, 8, 8, 8, 8, 8, 8, 8, 8, 8, 8, 8, 8, 8, 8, 8, 8, 8, 8, 8, 8, 8, 8, 8, 8, 8, 8, 8, 8, 8, 8, 8, 8, 8, 8, 8, 8, 8, 8, 8, 8, 8, 8, 8, 8, 8, 8, 8, 8, 8, 8, 8, 8, 8, 8, 8, 8, 8, 8, 8, 8, 8, 8, 8, 8, 8, 8, 8, 8, 8, 8, 8, 8, 8, 8, 8, 8, 8, 8, 8, 8, 8, 8, 8, 8, 8, 8, 8, 8, 8, 8, 8, 8, 8, 8, 8, 8, 8, 8, 8, 8, 8, 8, 8, 8, 8, 8, 8, 8, 8, 8, 8, 8, 8, 8, 8, 8, 8, 8, 8, 8, 8, 8, 8]⟩ : ByteArray) ((a0) % 256)))))) else (none)) else (none)))
set_option maxHeartbeats 8000000 in
set_option maxRecDepth 100000 in
theorem bits_Len32.calls (a0 : Int) (r : Int) (w : World) (h : bits_Len32.f a0 = some r) :
  Calls Try.prog 40 #[.int .u32 a0] w fun e w' => e = .returned (.int .i64 r) ∧ Drawn0 w w' := by
 have H : (if a0 ≥ 65536 then (if (a0 / 65536) ≥ 256 then (if 0 ≤ (((a0 / 65536) / 256) % 256) then (if (((a0 / 65536) / 256) % 256) < 256 then (some (wrap64 (24 + (wrap64 (bt (⟨#[0, 1, 2, 2, 3, 3, 3, 3, 4, 4, 4, 4, 4, 4, 4, 4, 5, 5, 5, 5, 5, 5, 5, 5, 5, 5, 5, 5, 5, 5, 5, 5, 6, 6, 6, 6, 6, 6, 6, 6, 6, 6, 6, 6, 6, 6, 6, 6, 6, 6, 6, 6, 6, 6, 6, 6, 6, 6, 6, 6, 6, 6, 6, 6, 7, 7, 7, 7, 7, 7, 7, 7, 7, 7, 7, 7, 7, 7, 7, 7, 7, 7, 7, 7, 7, 7, 7, 7, 7, 7, 7, 7, 7, 7, 7, 7, 7, 7, 7, 7, 7, 7, 7, 7, 7, 7, 7, 7, 7, 7, 7, 7, 7, 7, 7, 7, 7, 7, 7, 7, 7, 7, 7, 7, 7, 7, 7, 7, 8, 8, 8, 8, 8, 8, 8, 8, 8, 8, 8, 8, 8, 8, 8, 8, 8, 8, 8, 8, 8, 8, 8, 8, 8, 8, 8, 8, 8, 8, 8, 8, 8, 8, 8, 8, 8, 8, 8, 8, 8, 8, 8, 8, 8, 8, 8, 8, 8, 8, 8, 8, 8, 8, 8, 8, 8, 8, 8, 8, 8, 8, 8, 8, 8, 8, 8, 8, 8, 8, 8, 8, 8, 8, 8, 8, 8, 8, 8, 8, 8, 8, 8, 8, 8, 8, 8, 8, 8, 8, 8, 8, 8, 8, 8, 8, 8, 8, 8, 8, 8, 8, 8, 8, 8, 8, 8, 8, 8, 8, 8, 8, 8, 8, 8, 8, 8, 8, 8, 8, 8, 8, 8, 8, 8, 8, 8, 8]⟩ : ByteArray) (((a0 / 65536) / 256) % 256)))))) else (none)) else (none)) else (if 0 ≤ ((a0 / 65536) % 256) then (if ((a0 / 65536) % 256) < 256 then (some (wrap64 (16 + (wrap64 (bt (⟨#[0, 1, 2, 2, 3, 3, 3, 3, 4, 4, 4, 4, 4, 4, 4, 4, 5, 5, 5, 5, 5, 5, 5, 5, 5, 5, 5, 5, 5, 5, 5, 5, 6, 6, 6, 6, 6, 6, 6, 6, 6, 6, 6, 6, 6, 6, 6, 6, 6, 6, 6, 6, 6, 6, 6, 6, 6, 6, 6, 6, 6, 6, 6, 6, 7, 7, 7, 7, 7, 7, 7, 7, 7, 7, 7, 7, 7, 7, 7, 7, 7, 7, 7, 7, 7, 7, 7, 7, 7, 7, 7, 7, 7, 7, 7, 7, 7, 7, 7, 7, 7, 7, 7, 7, 7, 7, 7, 7, 7, 7, 7, 7, 7, 7, 7, 7, 7, 7, 7, 7, 7, 7, 7, 7, 7, 7, 7, 7, 8, 8, 8, 8, 8, 8, 8, 8, 8, 8, 8, 8, 8, 8, 8, 8, 8, 8, 8, 8, 8, 8, 8, 8, 8, 8, 8, 8, 8, 8, 8, 8, 8, 8, 8, 8, 8, 8, 8, 8, 8, 8, 8, 8, 8, 8, 8, 8, 8, 8, 8, 8, 8, 8, 8, 8, 8, 8, 8, 8, 8, 8, 8, 8, 8, 8, 8, 8, 8, 8, 8, 8, 8, 8, 8, 8, 8, 8, 8, 8, 8, 8, 8, 8, 8, 8, 8, 8, 8, 8, 8, 8, 8, 8, 8, 8, 8, 8, 8, 8, 8, 8, 8, 8, 8, 8, 8, 8, 8, 8, 8, 8, 8, 8, 8, 8, 8, 8, 8, 8, 8, 8, 8, 8, 8, 8, 8, 8]⟩ : ByteArray) ((a0 / 65536) % 256)))))) else (none)) else (none))) else (if a0 ≥ 256 then (if 0 ≤ ((a0 / 256) % 256) then (if ((a0 / 256) % 256) < 256 then (some (wrap64 (8 + (wrap64 (bt (⟨#[0, 1, 2, 2, 3, 3, 3, 3, 4, 4, 4, 4, 4, 4, 4, 4, 5, 5, 5, 5, 5, 5, 5, 5, 5, 5, 5, 5, 5, 5, 5, 5, 6, 6, 6, 6, 6, 6, 6, 6, 6, 6, 6, 6, 6, 6, 6, 6, 6, 6, 6, 6, 6, 6, 6, 6, 6, 6, 6, 6, 6, 6, 6, 6, 7, 7, 7, 7, 7, 7, 7, 7, 7, 7, 7, 7, 7, 7, 7, 7, 7, 7, 7, 7, 7, 7, 7, 7, 7, 7, 7, 7, 7, 7, 7, 7, 7, 7, 7, 7, 7, 7, 7, 7, 7, 7, 7, 7, 7, 7, 7, 7, 7, 7, 7, 7, 7, 7, 7, 7, 7, 7, 7, 7, 7, 7, 7, 7, 8, 8, 8, 8, 8, 8, 8, 8, 8, 8, 8, 8, 8, 8, 8, 8, 8, 8, 8, 8, 8, 8, 8, 8, 8, 8, 8, 8, 8, 8, 8, 8, 8, 8, 8, 8, 8, 8, 8, 8, 8, 8, 8, 8, 8, 8, 8, 8, 8, 8, 8, 8, 8, 8, 8, 8, 8, 8, 8, 8, 8, 8, 8, 8, 8, 8, 8, 8, 8, 8, 8, 8, 8, 8, 8, 8, 8, 8, 8, 8, 8, 8, 8, 8, 8, 8, 8, 8, 8, 8, 8, 8, 8, 8, 8, 8, 8, 8, 8, 8, 8, 8, 8, 8, 8, 8, 8, 8, 8, 8, 8, 8, 8, 8, 8, 8, 8, 8, 8, 8, 8, 8, 8, 8, 8, 8, 8, 8]⟩ : ByteArray) ((a0 / 256) % 256)))))) else (none)) else (none)) else (if 0 ≤ ((a0) % 256) then (if ((a0) % 256) < 256 then (some (wrap64 (0 + (wrap64 (bt (⟨#[0, 1, 2, 2, 3, 3, 3, 3, 4, 4, 4, 4, 4, 4, 4, 4, 5, 5, 5, 5, 5, 5, 5, 5, 5, 5, 5, 5, 5, 5, 5, 5, 6, 6, 6, 6, 6, 6, 6, 6, 6, 6, 6, 6, 6, 6, 6, 6, 6, 6, 6, 6, 6, 6, 6, 6, 6, 6, 6, 6, 6, 6, 6, 6, 7, 7, 7, 7, 7, 7, 7, 7, 7, 7, 7, 7, 7, 7, 7, 7, 7, 7, 7, 7, 7, 7, 7, 7, 7, 7, 7, 7, 7, 7, 7, 7, 7, 7, 7, 7, 7, 7, 7, 7, 7, 7, 7, 7, 7, 7, 7, 7, 7, 7, 7, 7, 7, 7, 7, 7, 7, 7, 7, 7, 7, 7, 7, 7, 8, 8, 8, 8, 8, 8, 8, 8, 8, 8, 8, 8, 8, 8, 8, 8, 8, 8, 8, 8, 8, 8, 8, 8, 8, 8, 8, 8, 8, 8, 8, 8, 8, 8, 8, 8, 8, 8, 8, 8, 8, 8, 8, 8, 8, 8, 8, 8, 8, 8, 8, 8, 8, 8, 8, 8, 8, 8, 8, 8, 8, 8, 8, 8, 8, 8, 8, 8, 8, 8, 8, 8, 8, 8, 8, 8, 8, 8, 8, 8, 8, 8, 8, 8, 8, 8, 8, 8, 8, 8, 8, 8, 8, 8, 8, 8, 8, 8, 8, 8, 8, 8, 8, 8, 8, 8, 8, 8, 8, 8, 8, 8, 8, 8, 8, 8, 8, 8, 8, 8, 8, 8, 8, 8, 8, 8, 8, 8]⟩ : ByteArray) ((a0) % 256)))))) else (none)) else (none)))) = some r := h
 clear h
 by_cases c2 : a0 ≥ 65536
 ·rw [if_pos c2] at H
  have c2b0 : decide (65536 ≤ a0) = true := decide_eq_true c2
  clear c2
  by_cases c3 : (a0 / 65536) ≥ 256
  ·rw [if_pos c3] at H
   have c3b0 : decide (256 ≤ (a0 / 65536)) = true := decide_eq_true c3
   clear c3
   obtain ⟨ji4, hji4⟩ : ∃ j_ : Int, (((a0 / 65536) / 256) % 256) = j_ := ⟨_, rfl⟩
   replace H : (if 0 ≤ (ji4) then (if (ji4) < 256 then (some (wrap64 (24 + (wrap64 (bt (⟨#[0, 1, 2, 2, 3, 3, 3, 3, 4, 4, 4, 4, 4, 4, 4, 4, 5, 5, 5, 5, 5, 5, 5, 5, 5, 5, 5, 5, 5, 5, 5, 5, 6, 6, 6, 6, 6, 6, 6, 6, 6, 6, 6, 6, 6, 6, 6, 6, 6, 6, 6, 6, 6, 6, 6, 6, 6, 6, 6, 6, 6, 6, 6, 6, 7, 7, 7, 7, 7, 7, 7, 7, 7, 7, 7, 7, 7, 7, 7, 7, 7, 7, 7, 7, 7, 7, 7, 7, 7, 7, 7, 7, 7, 7, 7, 7, 7, 7, 7, 7, 7, 7, 7, 7, 7, 7, 7, 7, 7, 7, 7, 7, 7, 7, 7, 7, 7, 7, 7, 7, 7, 7, 7, 7, 7, 7, 7, 7, 8, 8, 8, 8, 8, 8, 8, 8, 8, 8, 8, 8, 8, 8, 8, 8, 8, 8, 8, 8, 8, 8, 8, 8, 8, 8, 8, 8, 8, 8, 8, 8, 8, 8, 8, 8, 8, 8, 8, 8, 8, 8, 8, 8, 8, 8, 8, 8, 8, 8, 8, 8, 8, 8, 8, 8, 8, 8, 8, 8, 8, 8, 8, 8, 8, 8, 8, 8, 8, 8, 8, 8, 8, 8, 8, 8, 8, 8, 8, 8, 8, 8, 8, 8, 8, 8, 8, 8, 8, 8, 8, 8, 8, 8, 8, 8, 8, 8, 8, 8, 8, 8, 8, 8, 8, 8, 8, 8, 8, 8, 8, 8, 8, 8, 8, 8, 8, 8, 8, 8, 8, 8, 8, 8, 8, 8, 8, 8]⟩ : ByteArray) (ji4)))))) else (none)) else (none)) = some r := by first | (rw [hji4] at H; exact H) | (simp only [hji4] at H ⊢; exact H)
   by_cases c5 : 0 ≤ (ji4)
   rotate_left
   ·rw [if_neg c5] at H
    exact absurd H (by simp)
   rw [if_pos c5] at H
   have c5b0 : decide (0 ≤ (ji4)) = true := decide_eq_true c5
   clear c5
   by_cases c6 : (ji4) < 256
   rotate_left
   ·rw [if_neg c6] at H
    exact absurd H (by simp)
   rw [if_pos c6] at H
   have c6b0 : decide ((ji4) < 256) = true := decide_eq_true c6
   clear c6
   obtain rfl := Option.some.inj H
   have p7 : 0 ≤ ((ji4) : Int) := of_decide_eq_true pS
   have q7 : (ji4) < (256 : Int) := of_decide_eq_true pS
   have hx7 := bt_at (⟨#[0, 1, 2, 2, 3, 3, 3, 3, 4, 4, 4, 4, 4, 4, 4, 4, 5, 5, 5, 5, 5, 5, 5, 5, 5, 5, 5, 5, 5, 5, 5, 5, 6, 6, 6, 6, 6, 6, 6, 6, 6, 6, 6, 6, 6, 6, 6, 6, 6, 6, 6, 6, 6, 6, 6, 6, 6, 6, 6, 6, 6, 6, 6, 6, 7, 7, 7, 7, 7, 7, 7, 7, 7, 7, 7, 7, 7, 7, 7, 7, 7, 7, 7, 7, 7, 7, 7, 7, 7, 7, 7, 7, 7, 7, 7, 7, 7, 7, 7, 7, 7, 7, 7, 7, 7, 7, 7, 7, 7, 7, 7, 7, 7, 7, 7, 7, 7, 7, 7, 7, 7, 7, 7, 7, 7, 7, 7, 7, 8, 8, 8, 8, 8, 8, 8, 8, 8, 8, 8, 8, 8, 8, 8, 8, 8, 8, 8, 8, 8, 8, 8, 8, 8, 8, 8, 8, 8, 8, 8, 8, 8, 8, 8, 8, 8, 8, 8, 8, 8, 8, 8, 8, 8, 8, 8, 8, 8, 8, 8, 8, 8, 8, 8, 8, 8, 8, 8, 8, 8, 8, 8, 8, 8, 8, 8, 8, 8, 8, 8, 8, 8, 8, 8, 8, 8, 8, 8, 8, 8, 8, 8, 8, 8, 8, 8, 8, 8, 8, 8, 8, 8, 8, 8, 8, 8, 8, 8, 8, 8, 8, 8, 8, 8, 8, 8, 8, 8, 8, 8, 8, 8, 8, 8, 8, 8, 8, 8, 8, 8, 8, 8, 8, 8, 8, 8, 8]⟩ : ByteArray) (ji4)
   replace p7 := eq_true p7
   replace q7 := eq_true q7
   go_enter Try.func40, Try.ntmps40
   go_wp2
   go_ret
   exact ⟨by first | rfl | (simp; done) | (simp only [← hji4] <;> (first | rfl | simp)) | (simp [*]; done), by repeat (first | exact Drawn0.refl _ | apply Drawn0.step)⟩
  rw [if_neg c3] at H
  have c3b0 : decide (256 ≤ (a0 / 65536)) = false := decide_eq_false c3
  clear c3
  obtain ⟨ji8, hji8⟩ : ∃ j_ : Int, ((a0 / 65536) % 256) = j_ := ⟨_, rfl⟩
  replace H : (if 0 ≤ (ji8) then (if (ji8) < 256 then (some (wrap64 (16 + (wrap64 (bt (⟨#[0, 1, 2, 2, 3, 3, 3, 3, 4, 4, 4, 4, 4, 4, 4, 4, 5, 5, 5, 5, 5, 5, 5, 5, 5, 5, 5, 5, 5, 5, 5, 5, 6, 6, 6, 6, 6, 6, 6, 6, 6, 6, 6, 6, 6, 6, 6, 6, 6, 6, 6, 6, 6, 6, 6, 6, 6, 6, 6, 6, 6, 6, 6, 6, 7, 7, 7, 7, 7, 7, 7, 7, 7, 7, 7, 7, 7, 7, 7, 7, 7, 7, 7, 7, 7, 7, 7, 7, 7, 7, 7, 7, 7, 7, 7, 7, 7, 7, 7, 7, 7, 7, 7, 7, 7, 7, 7, 7, 7, 7, 7, 7, 7, 7, 7, 7, 7, 7, 7, 7, 7, 7, 7, 7, 7, 7, 7, 7, 8, 8, 8, 8, 8, 8, 8, 8, 8, 8, 8, 8, 8, 8, 8, 8, 8, 8, 8, 8, 8, 8, 8, 8, 8, 8, 8, 8, 8, 8, 8, 8, 8, 8, 8, 8, 8, 8, 8, 8, 8, 8, 8, 8, 8, 8, 8, 8, 8, 8, 8, 8, 8, 8, 8, 8, 8, 8, 8, 8, 8, 8, 8, 8, 8, 8, 8, 8, 8, 8, 8, 8, 8, 8, 8, 8, 8, 8, 8, 8, 8, 8, 8, 8, 8, 8, 8, 8, 8, 8, 8, 8, 8, 8, 8, 8, 8, 8, 8, 8, 8, 8, 8, 8, 8, 8, 8, 8, 8, 8, 8, 8, 8, 8, 8, 8, 8, 8, 8, 8, 8, 8, 8, 8, 8, 8, 8, 8]⟩ : ByteArray) (ji8)))))) else (none)) else (none)) = some r := by first | (rw [hji8] at H; exact H) | (simp only [hji8] at H ⊢; exact H)
  by_cases c9 : 0 ≤ (ji8)
  rotate_left
  ·rw [if_neg c9] at H
   exact absurd H (by simp)
  rw [if_pos c9] at H
  have c9b0 : decide (0 ≤ (ji8)) = true := decide_eq_true c9
  clear c9
  by_cases c10 : (ji8) < 256
  rotate_left
  ·rw [if_neg c10] at H
   exact absurd H (by simp)
  rw [if_pos c10] at H
  have c10b0 : decide ((ji8) < 256) = true := decide_eq_true c10
  clear c10
  obtain rfl := Option.some.inj H
  have p11 : 0 ≤ ((ji8) : Int) := of_decide_eq_true pS
  have q11 : (ji8) < (256 : Int) := of_decide_eq_true pS
  have hx11 := bt_at (⟨#[0, 1, 2, 2, 3, 3, 3, 3, 4, 4, 4, 4, 4, 4, 4, 4, 5, 5, 5, 5, 5, 5, 5, 5, 5, 5, 5, 5, 5, 5, 5, 5, 6, 6, 6, 6, 6, 6, 6, 6, 6, 6, 6, 6, 6, 6, 6, 6, 6, 6, 6, 6, 6, 6, 6, 6, 6, 6, 6, 6, 6, 6, 6, 6, 7, 7, 7, 7, 7, 7, 7, 7, 7, 7, 7, 7, 7, 7, 7, 7, 7, 7, 7, 7, 7, 7, 7, 7, 7, 7, 7, 7, 7, 7, 7, 7, 7, 7, 7, 7, 7, 7, 7, 7, 7, 7, 7, 7, 7, 7, 7, 7, 7, 7, 7, 7, 7, 7, 7, 7, 7, 7, 7, 7, 7, 7, 7, 7, 8, 8, 8, 8, 8, 8, 8, 8, 8, 8, 8, 8, 8, 8, 8, 8, 8, 8, 8, 8, 8, 8, 8, 8, 8, 8, 8, 8, 8, 8, 8, 8, 8, 8, 8, 8, 8, 8, 8, 8, 8, 8, 8, 8, 8, 8, 8, 8, 8, 8, 8, 8, 8, 8, 8, 8, 8, 8, 8, 8, 8, 8, 8, 8, 8, 8, 8, 8, 8, 8, 8, 8, 8, 8, 8, 8, 8, 8, 8, 8, 8, 8, 8, 8, 8, 8, 8, 8, 8, 8, 8, 8, 8, 8, 8, 8, 8, 8, 8, 8, 8, 8, 8, 8, 8, 8, 8, 8, 8, 8, 8, 8, 8, 8, 8, 8, 8, 8, 8, 8, 8, 8, 8, 8, 8, 8, 8, 8]⟩ : ByteArray) (ji8)
  replace p11 := eq_true p11
  replace q11 := eq_true q11
  go_enter Try.func40, Try.ntmps40
  go_wp2
  go_ret
  exact ⟨by first | rfl | (simp; done) | (simp only [← hji8] <;> (first | rfl | simp)) | (simp [*]; done), by repeat (first | exact Drawn0.refl _ | apply Drawn0.step)⟩
 rw [if_neg c2] at H
 have c2b0 : decide (65536 ≤ a0) = false := decide_eq_false c2
 clear c2
 by_cases c12 : a0 ≥ 256
 ·rw [if_pos c12] at H
  have c12b0 : decide (256 ≤ a0) = true := decide_eq_true c12
  clear c12
  obtain ⟨ji13, hji13⟩ : ∃ j_ : Int, ((a0 / 256) % 256) = j_ := ⟨_, rfl⟩
  replace H : (if 0 ≤ (ji13) then (if (ji13) < 256 then (some (wrap64 (8 + (wrap64 (bt (⟨#[0, 1, 2, 2, 3, 3, 3, 3, 4, 4, 4, 4, 4, 4, 4, 4, 5, 5, 5, 5, 5, 5, 5, 5, 5, 5, 5, 5, 5, 5, 5, 5, 6, 6, 6, 6, 6, 6, 6, 6, 6, 6, 6, 6, 6, 6, 6, 6, 6, 6, 6, 6, 6, 6, 6, 6, 6, 6, 6, 6, 6, 6, 6, 6, 7, 7, 7, 7, 7, 7, 7, 7, 7, 7, 7, 7, 7, 7, 7, 7, 7, 7, 7, 7, 7, 7, 7, 7, 7, 7, 7, 7, 7, 7, 7, 7, 7, 7, 7, 7, 7, 7, 7, 7, 7, 7, 7, 7, 7, 7, 7, 7, 7, 7, 7, 7, 7, 7, 7, 7, 7, 7, 7, 7, 7, 7, 7, 7, 8, 8, 8, 8, 8, 8, 8, 8, 8, 8, 8, 8, 8, 8, 8, 8, 8, 8, 8, 8, 8, 8, 8, 8, 8, 8, 8, 8, 8, 8, 8, 8, 8, 8, 8, 8, 8, 8, 8, 8, 8, 8, 8, 8, 8, 8, 8, 8, 8, 8, 8, 8, 8, 8, 8, 8, 8, 8, 8, 8, 8, 8, 8, 8, 8, 8, 8, 8, 8, 8, 8, 8, 8, 8, 8, 8, 8, 8, 8, 8, 8, 8, 8, 8, 8, 8, 8, 8, 8, 8, 8, 8, 8, 8, 8, 8, 8, 8, 8, 8, 8, 8, 8, 8, 8, 8, 8, 8, 8, 8, 8, 8, 8, 8, 8, 8, 8, 8, 8, 8, 8, 8, 8, 8, 8, 8, 8, 8]⟩ : ByteArray) (ji13)))))) else (none)) else (none)) = some r := by first | (rw [hji13] at H; exact H) | (simp only [hji13] at H ⊢; exact H)
  by_cases c14 : 0 ≤ (ji13)
  rotate_left
  ·rw [if_neg c14] at H
   exact absurd H (by simp)
  rw [if_pos c14] at H
  have c14b0 : decide (0 ≤ (ji13)) = true := decide_eq_true c14
  clear c14
  by_cases c15 : (ji13) < 256
  rotate_left
  ·rw [if_neg c15] at H
   exact absurd H (by simp)
  rw [if_pos c15] at H
  have c15b0 : decide ((ji13) < 256) = true := decide_eq_true c15
  clear c15
  obtain rfl := Option.some.inj H
  have p16 : 0 ≤ ((ji13) : Int) := of_decide_eq_true pS
  have q16 : (ji13) < (256 : Int) := of_decide_eq_true pS
  have hx16 := bt_at (⟨#[0, 1, 2, 2, 3, 3, 3, 3, 4, 4, 4, 4, 4, 4, 4, 4, 5, 5, 5, 5, 5, 5, 5, 5, 5, 5, 5, 5, 5, 5, 5, 5, 6, 6, 6, 6, 6, 6, 6, 6, 6, 6, 6, 6, 6, 6, 6, 6, 6, 6, 6, 6, 6, 6, 6, 6, 6, 6, 6, 6, 6, 6, 6, 6, 7, 7, 7, 7, 7, 7, 7, 7, 7, 7, 7, 7, 7, 7, 7, 7, 7, 7, 7, 7, 7, 7, 7, 7, 7, 7, 7, 7, 7, 7, 7, 7, 7, 7, 7, 7, 7, 7, 7, 7, 7, 7, 7, 7, 7, 7, 7, 7, 7, 7, 7, 7, 7, 7, 7, 7, 7, 7, 7, 7, 7, 7, 7, 7, 8, 8, 8, 8, 8, 8, 8, 8, 8, 8, 8, 8, 8, 8, 8, 8, 8, 8, 8, 8, 8, 8, 8, 8, 8, 8, 8, 8, 8, 8, 8, 8, 8, 8, 8, 8, 8, 8, 8, 8, 8, 8, 8, 8, 8, 8, 8, 8, 8, 8, 8, 8, 8, 8, 8, 8, 8, 8, 8, 8, 8, 8, 8, 8, 8, 8, 8, 8, 8, 8, 8, 8, 8, 8, 8, 8, 8, 8, 8, 8, 8, 8, 8, 8, 8, 8, 8, 8, 8, 8, 8, 8, 8, 8, 8, 8, 8, 8, 8, 8, 8, 8, 8, 8, 8, 8, 8, 8, 8, 8, 8, 8, 8, 8, 8, 8, 8, 8, 8, 8, 8, 8, 8, 8, 8, 8, 8, 8]⟩ : ByteArray) (ji13)
  replace p16 := eq_true p16
  replace q16 := eq_true q16
  go_enter Try.func40, Try.ntmps40
  go_wp2
  go_ret
  exact ⟨by first | rfl | (simp; done) | (simp only [← hji13] <;> (first | rfl | simp)) | (simp [*]; done), by repeat (first | exact Drawn0.refl _ | apply Drawn0.step)⟩
 rw [if_neg c12] at H
 have c12b0 : decide (256 ≤ a0) = false := decide_eq_false c12
 clear c12
 obtain ⟨ji17, hji17⟩ : ∃ j_ : Int, ((a0) % 256) = j_ := ⟨_, rfl⟩
 replace H : (if 0 ≤ (ji17) then (if (ji17) < 256 then (some (wrap64 (0 + (wrap64 (bt (⟨#[0, 1, 2, 2, 3, 3, 3, 3, 4, 4, 4, 4, 4, 4, 4, 4, 5, 5, 5, 5, 5, 5, 5, 5, 5, 5, 5, 5, 5, 5, 5, 5, 6, 6, 6, 6, 6, 6, 6, 6, 6, 6, 6, 6, 6, 6, 6, 6, 6, 6, 6, 6, 6, 6, 6, 6, 6, 6, 6, 6, 6, 6, 6, 6, 7, 7, 7, 7, 7, 7, 7, 7, 7, 7, 7, 7, 7, 7, 7, 7, 7, 7, 7, 7, 7, 7, 7, 7, 7, 7, 7, 7, 7, 7, 7, 7, 7, 7, 7, 7, 7, 7, 7, 7, 7, 7, 7, 7, 7, 7, 7, 7, 7, 7, 7, 7, 7, 7, 7, 7, 7, 7, 7, 7, 7, 7, 7, 7, 8, 8, 8, 8, 8, 8, 8, 8, 8, 8, 8, 8, 8, 8, 8, 8, 8, 8, 8, 8, 8, 8, 8, 8, 8, 8, 8, 8, 8, 8, 8, 8, 8, 8, 8, 8, 8, 8, 8, 8, 8, 8, 8, 8, 8, 8, 8, 8, 8, 8, 8, 8, 8, 8, 8, 8, 8, 8, 8, 8, 8, 8, 8, 8, 8, 8, 8, 8, 8, 8, 8, 8, 8, 8, 8, 8, 8, 8, 8, 8, 8, 8, 8, 8, 8, 8, 8, 8, 8, 8, 8, 8, 8, 8, 8, 8, 8, 8, 8, 8, 8, 8, 8, 8, 8, 8, 8, 8, 8, 8, 8, 8, 8, 8, 8, 8, 8, 8, 8, 8, 8, 8, 8, 8, 8, 8, 8, 8]⟩ : ByteArray) (ji17)))))) else (none)) else (none)) = some r := by first | (rw [hji17] at H; exact H) | (simp only [hji17] at H ⊢; exact H)
 by_cases c18 : 0 ≤ (ji17)
 rotate_left
 ·rw [if_neg c18] at H
  exact absurd H (by simp)
 rw [if_pos c18] at H
 have c18b0 : decide (0 ≤ (ji17)) = true := decide_eq_true c18
 clear c18
 by_cases c19 : (ji17) < 256
 rotate_left
 ·rw [if_neg c19] at H
  exact absurd H (by simp)
 rw [if_pos c19] at H
 have c19b0 : decide ((ji17) < 256) = true := decide_eq_true c19
 clear c19
 obtain rfl := Option.some.inj H
 have p20 : 0 ≤ ((ji17) : Int) := of_decide_eq_true pS
 have q20 : (ji17) < (256 : Int) := of_decide_eq_true pS
 have hx20 := bt_at (⟨#[0, 1, 2, 2, 3, 3, 3, 3, 4, 4, 4, 4, 4, 4, 4, 4, 5, 5, 5, 5, 5, 5, 5, 5, 5, 5, 5, 5, 5, 5, 5, 5, 6, 6, 6, 6, 6, 6, 6, 6, 6, 6, 6, 6, 6, 6, 6, 6, 6, 6, 6, 6, 6, 6, 6, 6, 6, 6, 6, 6, 6, 6, 6, 6, 7, 7, 7, 7, 7, 7, 7, 7, 7, 7, 7, 7, 7, 7, 7, 7, 7, 7, 7, 7, 7, 7, 7, 7, 7, 7, 7, 7, 7, 7, 7, 7, 7, 7, 7, 7, 7, 7, 7, 7, 7, 7, 7, 7, 7, 7, 7, 7, 7, 7, 7, 7, 7, 7, 7, 7, 7, 7, 7, 7, 7, 7, 7, 7, 8, 8, 8, 8, 8, 8, 8, 8, 8, 8, 8, 8, 8, 8, 8, 8, 8, 8, 8, 8, 8, 8, 8, 8, 8, 8, 8, 8, 8, 8, 8, 8, 8, 8, 8, 8, 8, 8, 8, 8, 8, 8, 8, 8, 8, 8, 8, 8, 8, 8, 8, 8, 8, 8, 8, 8, 8, 8, 8, 8, 8, 8, 8, 8, 8, 8, 8, 8, 8, 8, 8, 8, 8, 8, 8, 8, 8, 8, 8, 8, 8, 8, 8, 8, 8, 8, 8, 8, 8, 8, 8, 8, 8, 8, 8, 8, 8, 8, 8, 8, 8, 8, 8, 8, 8, 8, 8, 8, 8, 8, 8, 8, 8, 8, 8, 8, 8, 8, 8, 8, 8, 8, 8, 8, 8, 8, 8, 8]⟩ : ByteArray) (ji17)
 replace p20 := eq_true p20
 replace q20 := eq_true q20
 go_enter Try.func40, Try.ntmps40
 go_wp2
 go_ret
 exact ⟨by first | rfl | (simp; done) | (simp only [← hji17] <;> (first | rfl | simp)) | (simp [*]; done), by repeat (first | exact Drawn0.refl _ | apply Drawn0.step)⟩
def bits_Len64.j0 : Nat → Int → Int → Option (Int)
 | 0, _, _ => none
 | k + 1, x0, x2 => if x0 ≥ 65536 then (if (x0 / 65536) ≥ 256 then (if 0 ≤ (((x0 / 65536) / 256) % 256) then (if (((x0 / 65536) / 256) % 256) < 256 then (some (wrap64 ((wrap64 ((wrap64 (x2 + 16)) + 8)) + (wrap64 (bt (⟨#[0, 1, 2, 2, 3, 3, 3, 3, 4, 4, 4, 4, 4, 4, 4, 4, 5, 5, 5, 5, 5, 5, 5, 5, 5, 5, 5, 5, 5, 5, 5, 5, 6, 6, 6, 6, 6, 6, 6, 6, 6, 6, 6, 6, 6, 6, 6, 6, 6, 6, 6, 6, 6, 6, 6, 6, 6, 6, 6, 6, 6, 6, 6, 6, 7, 7, 7, 7, 7, 7, 7, 7, 7, 7, 7, 7, 7, 7, 7, 7, 7, 7, 7, 7, 7, 7, 7, 7, 7, 7, 7, 7, 7, 7, 7, 7, 7, 7, 7, 7, 7, 7, 7, 7, 7, 7, 7, 7, 7, 7, 7, 7, 7, 7, 7, 7, 7, 7, 7, 7, 7, 7, 7, 7, 7, 7, 7, 7, 8, 8, 8, 8, 8, 8, 8, 8, 8, 8, 8, 8, 8, 8, 8, 8, 8, 8, 8, 8, 8, 8, 8, 8, 8, 8, 8, 8, 8, 8, 8, 8, 8, 8, 8, 8, 8, 8, 8, 8, 8, 8, 8, 8, 8, 8, 8, 8, 8, 8, 8, 8, 8, 8, 8, 8, 8, 8, 8, 8, 8, 8, 8, 8, 8, 8, 8, 8, 8, 8, 8, 8, 8, 8, 8, 8, 8, 8, 8, 8, 8, 8, 8, 8, 8, 8, 8, 8, 8, 8, 8, 8, 8, 8, 8, 8, 8, 8, 8, 8, 8, 8, 8, 8, 8, 8, 8, 8, 8, 8, 8, 8, 8, 8, 8, 8, 8, 8, 8, 8, 8, 8, 8, 8, 8, 8, 8, 8]⟩ : ByteArray) (((x0 / 65536) / 256) % 256)))))) else (none)) else (none)) else (if 0 ≤ ((x0 / 65536) % 256) then (if ((x0 / 65536) % 256) < 256 then (some (wrap64 ((wrap64 (x2 + 16)) + (wrap64 (bt (⟨#[0, 1, 2, 2, 3, 3, 3, 3, 4, 4, 4, 4, 4, 4, 4, 4, 5, 5, 5, 5, 5, 5, 5, 5, 5, 5, 5, 5, 5, 5, 5, 5, 6, 6, 6, 6, 6, 6, 6, 6, 6, 6, 6, 6, 6, 6, 6, 6, 6, 6, 6, 6, 6, 6, 6, 6, 6, 6, 6, 6, 6, 6, 6, 6, 7, 7, 7, 7, 7, 7, 7, 7, 7, 7, 7, 7, 7, 7, 7, 7, 7, 7, 7, 7, 7, 7, 7, 7, 7, 7, 7, 7, 7, 7, 7, 7, 7, 7, 7, 7, 7, 7, 7, 7, 7, 7, 7, 7, 7, 7, 7, 7, 7, 7, 7, 7, 7, 7, 7, 7, 7, 7, 7, 7, 7, 7, 7, 7, 8, 8, 8, 8, 8, 8, 8, 8, 8, 8, 8, 8, 8, 8, 8, 8, 8, 8, 8, 8, 8, 8, 8, 8, 8, 8, 8, 8, 8, 8, 8, 8, 8, 8, 8, 8, 8, 8, 8, 8, 8, 8, 8, 8, 8, 8, 8, 8, 8, 8, 8, 8, 8, 8, 8, 8, 8, 8, 8, 8, 8, 8, 8, 8, 8, 8, 8, 8, 8, 8, 8, 8, 8, 8, 8, 8, 8, 8, 8, 8, 8, 8, 8, 8, 8, 8, 8, 8, 8, 8, 8, 8, 8, 8, 8, 8, 8, 8, 8, 8, 8, 8, 8, 8, 8, 8, 8, 8, 8, 8, 8, 8, 8, 8, 8, 8, 8, 8, 8, 8, 8, 8, 8, 8, 8, 8, 8, 8]⟩ : ByteArray) ((x0 / 65536) % 256)))))) else (none)) else (none))) else (if x0 ≥ 256 then (if 0 ≤ ((x0 / 256) % 256) then (if ((x0 / 256) % 256) < 256 then (some (wrap64 ((wrap64 (x2 + 8)) + (wrap64 (bt (⟨#[0, 1, 2, 2, 3, 3, 3, 3, 4, 4, 4, 4, 4, 4, 4, 4, 5, 5, 5, 5, 5, 5, 5, 5, 5, 5, 5, 5, 5, 5, 5, 5, 6, 6, 6, 6, 6, 6, 6, 6, 6, 6, 6, 6, 6, 6, 6, 6, 6, 6, 6, 6, 6, 6, 6, 6, 6, 6, 6, 6, 6, 6, 6, 6, 7, 7, 7, 7, 7, 7, 7, 7, 7, 7, 7, 7, 7, 7, 7, 7, 7, 7, 7, 7, 7, 7, 7, 7, 7, 7, 7, 7, 7, 7, 7, 7, 7, 7, 7, 7, 7, 7, 7, 7, 7, 7, 7, 7, 7, 7, 7, 7, 7, 7, 7, 7, 7, 7, 7, 7, 7, 7, 7, 7, 7, 7, 7, 7, 8, 8, 8, 8, 8, 8, 8, 8, 8, 8, 8, 8, 8, 8, 8, 8, 8, 8, 8, 8, 8, 8, 8, 8, 8, 8, 8, 8, 8, 8, 8, 8, 8, 8, 8, 8, 8, 8, 8, 8, 8, 8, 8, 8, 8, 8, 8, 8, 8, 8, 8, 8, 8, 8, 8, 8, 8, 8, 8, 8, 8, 8, 8, 8, 8, 8, 8, 8, 8, 8, 8, 8, 8, 8, 8, 8, 8, 8, 8, 8, 8, 8, 8, 8, 8, 8, 8, 8, 8, 8, 8, 8, 8, 8, 8, 8, 8, 8, 8, 8, 8, 8, 8, 8, 8, 8, 8, 8, 8, 8, 8, 8, 8, 8, 8, 8, 8, 8, 8, 8, 8, 8, 8, 8, 8, 8, 8, 8]⟩ : ByteArray) ((x0 / 256) % 256)))))) else (none)) else (none)) else (if 0 ≤ ((x0) % 256) then (if ((x0) % 256) < 256 then (some (wrap64 (x2 + (wrap64 (bt (⟨#[0, 1, 2, 2, 3, 3, 3, 3, 4, 4, 4, 4, 4, 4, 4, 4, 5, 5, 5, 5, 5, 5, 5, 5, 5, 5, 5, 5, 5, 5, 5, 5, 6, 6, 6, 6, 6, 6, 6, 6, 6, 6, 6, 6, 6, 6, 6, 6, 6, 6, 6, 6, 6, 6, 6, 6, 6, 6, 6, 6, 6, 6, 6, 6, 7, 7, 7, 7, 7, 7, 7, 7, 7, 7, 7, 7, 7, 7, 7, 7, 7, 7, 7, 7, 7, 7, 7, 7, 7, 7, 7, 7, 7, 7, 7, 7, 7, 7, 7, 7, 7, 7, 7, 7, 7, 7, 7, 7, 7, 7, 7, 7, 7, 7, 7, 7, 7, 7, 7, 7, 7, 7, 7, 7, 7, 7, 7, 7, 8, 8, 8, 8, 8, 8, 8, 8, 8, 8, 8, 8, 8, 8, 8, 8, 8, 8, 8, 8, 8, 8, 8, 8, 8, 8, 8, 8, 8, 8, 8, 8, 8, 8, 8, 8, 8, 8, 8, 8, 8, 8, 8, 8, 8, 8, 8, 8, 8, 8, 8, 8, 8, 8, 8, 8, 8, 8, 8, 8, 8, 8, 8, 8, 8, 8, 8, 8, 8, 8, 8, 8, 8, 8, 8, 8, 8, 8, 8, 8, 8, 8, 8, 8, 8, 8, 8, 8, 8, 8, 8, 8, 8, 8, 8, 8, 8, 8, 8, 8, 8, 8, 8, 8, 8, 8, 8, 8, 8, 8, 8, 8, 8, 8, 8, 8, 8, 8, 8, 8, 8, 8, 8, 8, 8, 8, 8, 8]⟩ : ByteArray) ((x0) % 256)))))) else (none)) else (none)))
def bits_Len64.f (k : Nat) (a0 : Int) : Option (Int) := if a0 ≥ 4294967296 then (bits_Len64.j0 k (a0 / 4294967296) 32) else (bits_Len64.j0 k a0 0)
theorem bits_Len64.mono_l : ∀ k, (∀ y0 y1, LeO (bits_Len64.j0 k y0 y1) (bits_Len64.j0 (k + 1) y0 y1))
 | 0 => fun _ _ r h => by simp [bits_Len64.j0] at h
 | k + 1 => by
  have ih0 := bits_Len64.mono_l k
  ·intro y0 y1
   unfold bits_Len64.j0
   repeat' first
   | (with_reducible exact ih0 _ _)
   | (with_reducible exact LeO.refl _)
   | (with_reducible exact LeO.none _)
   | (with_reducible refine LeO.ite ?_ ?_)
   | (with_reducible refine LeO.bind ?_ (fun _ => ?_))
   | exact ih0 _ _
   | exact LeO.none _
   | refine LeO.ite ?_ ?_
   | refine LeO.bind ?_ (fun _ => ?_)
theorem bits_Len64.mono : ∀ a0 k, LeO (bits_Len64.f k a0) (bits_Len64.f (k + 1) a0) := by
 intro a0 k
 have ih0 := bits_Len64.mono_l k
 unfold bits_Len64.f
 repeat' first
   | (with_reducible exact ih0 _ _)
   | (with_reducible exact LeO.refl _)
   | (with_reducible exact LeO.none _)
   | (with_reducible refine LeO.ite ?_ ?_)
   | (with_reducible refine LeO.bind ?_ (fun _ => ?_))
   | exact ih0 _ _
   | exact LeO.none _
   | refine LeO.ite ?_ ?_
   | refine LeO.bind ?_ (fun _ => ?_)
set_option maxHeartbeats 8000000 in
set_option maxRecDepth 100000 in
theorem bits_Len64.calls (k : Nat) (a0 : Int) (r : Int) (w : World) (h : bits_Len64.f k a0 = some r) :
  Calls Try.prog 41 #[.int .u64 a0] w fun e w' => e = .returned (.int .i64 r) ∧ Drawn0 w w' := by
 have H : (if a0 ≥ 4294967296 then (bits_Len64.j0 k (a0 / 4294967296) 32) else (bits_Len64.j0 k a0 0)) = some r := h
 clear h
 have HC2 := Am H
 clear H
 go_enter Try.func41, Try.ntmps41
 go_upto_if 4 with (fail)
 go_cut [0, 2] (fun v0 v2 wc => ∃ (kq : Nat) (Aa : Int) (Ab : Int), v0 = .int .u64 Aa ∧ v2 = .int .i64 Ab ∧ Aside0 (bits_Len64.j0 kq Aa Ab = some r) ∧ Aside0 (kq ≤ k) ∧ Drawn0 w wc)
 case first =>
  have H := HC2.out
  clear HC2
  by_cases c3 : a0 ≥ 4294967296
  ·rw [if_pos c3] at H
   have c3b0 : decide (4294967296 ≤ a0) = true := decide_eq_true c3
   clear c3
   (first | rw [c3b0] | (simp only [i64_w, i32_w]; rw [c3b0]) | skip)
   have H' := Am H
   clear H
   go_wp2
   go_meet
   case rel => exact ⟨_, (a0 / 4294967296), (32), (by first | rfl | (simp; done) | (simp [*]; done)), (by first | rfl | (simp; done) | (simp [*]; done)), H', ⟨by first | omega | exact Nat.le_refl _⟩, by repeat (first | exact Drawn0.refl _ | apply Drawn0.step)⟩
  rw [if_neg c3] at H
  have c3b0 : decide (4294967296 ≤ a0) = false := decide_eq_false c3
  clear c3
  (first | rw [c3b0] | (simp only [i64_w, i32_w]; rw [c3b0]) | skip)
  have H' := Am H
  clear H
  go_wp2
  go_meet
  case rel => exact ⟨_, (a0), (0), (by first | rfl | (simp; done) | (simp [*]; done)), (by first | rfl | (simp; done) | (simp [*]; done)), H', ⟨by first | omega | exact Nat.le_refl _⟩, by repeat (first | exact Drawn0.refl _ | apply Drawn0.step)⟩
 case rest =>
  clear HC2
  try clear p2
  try clear c3
  try clear c3b0
  obtain ⟨kq, Aa, Ab, rfl, rfl, HA, HJ1, ⟨mc1, rfl⟩⟩ := hcut
  cases kq with
  | zero => exact absurd HA.out (by simp [bits_Len64.j0])
  | succ kj1 =>
   have H := HA.out
   clear HA
   simp only [bits_Len64.j0] at H
   by_cases c4 : Aa ≥ 65536
   ·rw [if_pos c4] at H
    have c4b0 : decide (65536 ≤ Aa) = true := decide_eq_true c4
    clear c4
    by_cases c5 : (Aa / 65536) ≥ 256
    ·rw [if_pos c5] at H
     have c5b0 : decide (256 ≤ (Aa / 65536)) = true := decide_eq_true c5
     clear c5
     obtain ⟨ji6, hji6⟩ : ∃ j_ : Int, (((Aa / 65536) / 256) % 256) = j_ := ⟨_, rfl⟩
     replace H : (if 0 ≤ (ji6) then (if (ji6) < 256 then (some (wrap64 ((wrap64 ((wrap64 (Ab + 16)) + 8)) + (wrap64 (bt (⟨#[0, 1, 2, 2, 3, 3, 3, 3, 4, 4, 4, 4, 4, 4, 4, 4, 5, 5, 5, 5, 5, 5, 5, 5, 5, 5, 5, 5, 5, 5, 5, 5, 6, 6, 6, 6, 6, 6, 6, 6, 6, 6, 6, 6, 6, 6, 6, 6, 6, 6, 6, 6, 6, 6, 6, 6, 6, 6, 6, 6, 6, 6, 6, 6, 7, 7, 7, 7, 7, 7, 7, 7, 7, 7, 7, 7, 7, 7, 7, 7, 7, 7, 7, 7, 7, 7, 7, 7, 7, 7, 7, 7, 7, 7, 7, 7, 7, 7, 7, 7, 7, 7, 7, 7, 7, 7, 7, 7, 7, 7, 7, 7, 7, 7, 7, 7, 7, 7, 7, 7, 7, 7, 7, 7, 7, 7, 7, 7, 8, 8, 8, 8, 8, 8, 8, 8, 8, 8, 8, 8, 8, 8, 8, 8, 8, 8, 8, 8, 8, 8, 8, 8, 8, 8, 8, 8, 8, 8, 8, 8, 8, 8, 8, 8, 8, 8, 8, 8, 8, 8, 8, 8, 8, 8, 8, 8, 8, 8, 8, 8, 8, 8, 8, 8, 8, 8, 8, 8, 8, 8, 8, 8, 8, 8, 8, 8, 8, 8, 8, 8, 8, 8, 8, 8, 8, 8, 8, 8, 8, 8, 8, 8, 8, 8, 8, 8, 8, 8, 8, 8, 8, 8, 8, 8, 8, 8, 8, 8, 8, 8, 8, 8, 8, 8, 8, 8, 8, 8, 8, 8, 8, 8, 8, 8, 8, 8, 8, 8, 8, 8, 8, 8, 8, 8, 8, 8]⟩ : ByteArray) (ji6)))))) else (none)) else (none)) = some r := by first | (rw [hji6] at H; exact H) | (simp only [hji6] at H ⊢; exact H)
     by_cases c7 : 0 ≤ (ji6)
     rotate_left
     ·rw [if_neg c7] at H
      exact absurd H (by simp)
     rw [if_pos c7] at H
     have c7b0 : decide (0 ≤ (ji6)) = true := decide_eq_true c7
     clear c7
     by_cases c8 : (ji6) < 256
     rotate_left
     ·rw [if_neg c8] at H
      exact absurd H (by simp)
     rw [if_pos c8] at H
     have c8b0 : decide ((ji6) < 256) = true := decide_eq_true c8
     clear c8
     obtain rfl := Option.some.inj H
     have p9 : 0 ≤ ((ji6) : Int) := of_decide_eq_true pS
     have q9 : (ji6) < (256 : Int) := of_decide_eq_true pS
     have hx9 := bt_at (⟨#[0, 1, 2, 2, 3, 3, 3, 3, 4, 4, 4, 4, 4, 4, 4, 4, 5, 5, 5, 5, 5, 5, 5, 5, 5, 5, 5, 5, 5, 5, 5, 5, 6, 6, 6, 6, 6, 6, 6, 6, 6, 6, 6, 6, 6, 6, 6, 6, 6, 6, 6, 6, 6, 6, 6, 6, 6, 6, 6, 6, 6, 6, 6, 6, 7, 7, 7, 7, 7, 7, 7, 7, 7, 7, 7, 7, 7, 7, 7, 7, 7, 7, 7, 7, 7, 7, 7, 7, 7, 7, 7, 7, 7, 7, 7, 7, 7, 7, 7, 7, 7, 7, 7, 7, 7, 7, 7, 7, 7, 7, 7, 7, 7, 7, 7, 7, 7, 7, 7, 7, 7, 7, 7, 7, 7, 7, 7, 7, 8, 8, 8, 8, 8, 8, 8, 8, 8, 8, 8, 8, 8, 8, 8, 8, 8, 8, 8, 8, 8, 8, 8, 8, 8, 8, 8, 8, 8, 8, 8, 8, 8, 8, 8, 8, 8, 8, 8, 8, 8, 8, 8, 8, 8, 8, 8, 8, 8, 8, 8, 8, 8, 8, 8, 8, 8, 8, 8, 8, 8, 8, 8, 8, 8, 8, 8, 8, 8, 8, 8, 8, 8, 8, 8, 8, 8, 8, 8, 8, 8, 8, 8, 8, 8, 8, 8, 8, 8, 8, 8, 8, 8, 8, 8, 8, 8, 8, 8, 8, 8, 8, 8, 8, 8, 8, 8, 8, 8, 8, 8, 8, 8, 8, 8, 8, 8, 8, 8, 8, 8, 8, 8, 8, 8, 8, 8, 8]⟩ : ByteArray) (ji6)
     replace p9 := eq_true p9
     replace q9 := eq_true q9
     go_wp2
     go_ret
     exact ⟨by first | rfl | (simp; done) | (simp only [← hji6] <;> (first | rfl | simp)) | (simp [*]; done), by repeat (first | exact Drawn0.refl _ | apply Drawn0.step)⟩
    rw [if_neg c5] at H
    have c5b0 : decide (256 ≤ (Aa / 65536)) = false := decide_eq_false c5
    clear c5
    obtain ⟨ji10, hji10⟩ : ∃ j_ : Int, ((Aa / 65536) % 256) = j_ := ⟨_, rfl⟩
    replace H : (if 0 ≤ (ji10) then (if (ji10) < 256 then (some (wrap64 ((wrap64 (Ab + 16)) + (wrap64 (bt (⟨#[0, 1, 2, 2, 3, 3, 3, 3, 4, 4, 4, 4, 4, 4, 4, 4, 5, 5, 5, 5, 5, 5, 5, 5, 5, 5, 5, 5, 5, 5, 5, 5, 6, 6, 6, 6, 6, 6, 6, 6, 6, 6, 6, 6, 6, 6, 6, 6, 6, 6, 6, 6, 6, 6, 6, 6, 6, 6, 6, 6, 6, 6, 6, 6, 7, 7, 7, 7, 7, 7, 7, 7, 7, 7, 7, 7, 7, 7, 7, 7, 7, 7, 7, 7, 7, 7, 7, 7, 7, 7, 7, 7, 7, 7, 7, 7, 7, 7, 7, 7, 7, 7, 7, 7, 7, 7, 7, 7, 7, 7, 7, 7, 7, 7, 7, 7, 7, 7, 7, 7, 7, 7, 7, 7, 7, 7, 7, 7, 8, 8, 8, 8, 8, 8, 8, 8, 8, 8, 8, 8, 8, 8, 8, 8, 8, 8, 8, 8, 8, 8, 8, 8, 8, 8, 8, 8, 8, 8, 8, 8, 8, 8, 8, 8, 8, 8, 8, 8, 8, 8, 8, 8, 8, 8, 8, 8, 8, 8, 8, 8, 8, 8, 8, 8, 8, 8, 8, 8, 8, 8, 8, 8, 8, 8, 8, 8, 8, 8, 8, 8, 8, 8, 8, 8, 8, 8, 8, 8, 8, 8, 8, 8, 8, 8, 8, 8, 8, 8, 8, 8, 8, 8, 8, 8, 8, 8, 8, 8, 8, 8, 8, 8, 8, 8, 8, 8, 8, 8, 8, 8, 8, 8, 8, 8, 8, 8, 8, 8, 8, 8, 8, 8, 8, 8, 8, 8]⟩ : ByteArray) (ji10)))))) else (none)) else (none)) = some r := by first | (rw [hji10] at H; exact H) | (simp only [hji10] at H ⊢; exact H)
    by_cases c11 : 0 ≤ (ji10)
    rotate_left
    ·rw [if_neg c11] at H
     exact absurd H (by simp)
    rw [if_pos c11] at H
    have c11b0 : decide (0 ≤ (ji10)) = true := decide_eq_true c11
    clear c11
    by_cases c12 : (ji10) < 256
    rotate_left
    ·rw [if_neg c12] at H
     exact absurd H (by simp)
    rw [if_pos c12] at H
    have c12b0 : decide ((ji10) < 256) = true := decide_eq_true c12
    clear c12
    obtain rfl := Option.some.inj H
    have p13 : 0 ≤ ((ji10) : Int) := of_decide_eq_true pS
    have q13 : (ji10) < (256 : Int) := of_decide_eq_true pS
    have hx13 := bt_at (⟨#[0, 1, 2, 2, 3, 3, 3, 3, 4, 4, 4, 4, 4, 4, 4, 4, 5, 5, 5, 5, 5, 5, 5, 5, 5, 5, 5, 5, 5, 5, 5, 5, 6, 6, 6, 6, 6, 6, 6, 6, 6, 6, 6, 6, 6, 6, 6, 6, 6, 6, 6, 6, 6, 6, 6, 6, 6, 6, 6, 6, 6, 6, 6, 6, 7, 7, 7, 7, 7, 7, 7, 7, 7, 7, 7, 7, 7, 7, 7, 7, 7, 7, 7, 7, 7, 7, 7, 7, 7, 7, 7, 7, 7, 7, 7, 7, 7, 7, 7, 7, 7, 7, 7, 7, 7, 7, 7, 7, 7, 7, 7, 7, 7, 7, 7, 7, 7, 7, 7, 7, 7, 7, 7, 7, 7, 7, 7, 7, 8, 8, 8, 8, 8, 8, 8, 8, 8, 8, 8, 8, 8, 8, 8, 8, 8, 8, 8, 8, 8, 8, 8, 8, 8, 8, 8, 8, 8, 8, 8, 8, 8, 8, 8, 8, 8, 8, 8, 8, 8, 8, 8, 8, 8, 8, 8, 8, 8, 8, 8, 8, 8, 8, 8, 8, 8, 8, 8, 8, 8, 8, 8, 8, 8, 8, 8, 8, 8, 8, 8, 8, 8, 8, 8, 8, 8, 8, 8, 8, 8, 8, 8, 8, 8, 8, 8, 8, 8, 8, 8, 8, 8, 8, 8, 8, 8, 8, 8, 8, 8, 8, 8, 8, 8, 8, 8, 8, 8, 8, 8, 8, 8, 8, 8, 8, 8, 8, 8, 8, 8, 8, 8, 8, 8, 8, 8, 8]⟩ : ByteArray) (ji10)
    replace p13 := eq_true p13
    replace q13 := eq_true q13
    go_wp2
    go_ret
    exact ⟨by first | rfl | (simp; done) | (simp only [← hji10] <;> (first | rfl | simp)) | (simp [*]; done), by repeat (first | exact Drawn0.refl _ | apply Drawn0.step)⟩
   rw [if_neg c4] at H
   have c4b0 : decide (65536 ≤ Aa) = false := decide_eq_false c4
   clear c4
   by_cases c14 : Aa ≥ 256
   ·rw [if_pos c14] at H
    have c14b0 : decide (256 ≤ Aa) = true := decide_eq_true c14
    clear c14
    obtain ⟨ji15, hji15⟩ : ∃ j_ : Int, ((Aa / 256) % 256) = j_ := ⟨_, rfl⟩
    replace H : (if 0 ≤ (ji15) then (if (ji15) < 256 then (some (wrap64 ((wrap64 (Ab + 8)) + (wrap64 (bt (⟨#[0, 1, 2, 2, 3, 3, 3, 3, 4, 4, 4, 4, 4, 4, 4, 4, 5, 5, 5, 5, 5, 5, 5, 5, 5, 5, 5, 5, 5, 5, 5, 5, 6, 6, 6, 6, 6, 6, 6, 6, 6, 6, 6, 6, 6, 6, 6, 6, 6, 6, 6, 6, 6, 6, 6, 6, 6, 6, 6, 6, 6, 6, 6, 6, 7, 7, 7, 7, 7, 7, 7, 7, 7, 7, 7, 7, 7, 7, 7, 7, 7, 7, 7, 7, 7, 7, 7, 7, 7, 7, 7, 7, 7, 7, 7, 7, 7, 7, 7, 7, 7, 7, 7, 7, 7, 7, 7, 7, 7, 7, 7, 7, 7, 7, 7, 7, 7, 7, 7, 7, 7, 7, 7, 7, 7, 7, 7, 7, 8, 8, 8, 8, 8, 8, 8, 8, 8, 8, 8, 8, 8, 8, 8, 8, 8, 8, 8, 8, 8, 8, 8, 8, 8, 8, 8, 8, 8, 8, 8, 8, 8, 8, 8, 8, 8, 8, 8, 8, 8, 8, 8, 8, 8, 8, 8, 8, 8, 8, 8, 8, 8, 8, 8, 8, 8, 8, 8, 8, 8, 8, 8, 8, 8, 8, 8, 8, 8, 8, 8, 8, 8, 8, 8, 8, 8, 8, 8, 8, 8, 8, 8, 8, 8, 8, 8, 8, 8, 8, 8, 8, 8, 8, 8, 8, 8, 8, 8, 8, 8, 8, 8, 8, 8, 8, 8, 8, 8, 8, 8, 8, 8, 8, 8, 8, 8, 8, 8, 8, 8, 8, 8, 8, 8, 8, 8, 8]⟩ : ByteArray) (ji15)))))) else (none)) else (none)) = some r := by first | (rw [hji15] at H; exact H) | (simp only [hji15] at H ⊢; exact H)
    by_cases c16 : 0 ≤ (ji15)
    rotate_left
    ·rw [if_neg c16] at H
     exact absurd H (by simp)
    rw [if_pos c16] at H
    have c16b0 : decide (0 ≤ (ji15)) = true := decide_eq_true c16
    clear c16
    by_cases c17 : (ji15) < 256
    rotate_left
    ·rw [if_neg c17] at H
     exact absurd H (by simp)
    rw [if_pos c17] at H
    have c17b0 : decide ((ji15) < 256) = true := decide_eq_true c17
    clear c17
    obtain rfl := Option.some.inj H
    have p18 : 0 ≤ ((ji15) : Int) := of_decide_eq_true pS
    have q18 : (ji15) < (256 : Int) := of_decide_eq_true pS
    have hx18 := bt_at (⟨#[0, 1, 2, 2, 3, 3, 3, 3, 4, 4, 4, 4, 4, 4, 4, 4, 5, 5, 5, 5, 5, 5, 5, 5, 5, 5, 5, 5, 5, 5, 5, 5, 6, 6, 6, 6, 6, 6, 6, 6, 6, 6, 6, 6, 6, 6, 6, 6, 6, 6, 6, 6, 6, 6, 6, 6, 6, 6, 6, 6, 6, 6, 6, 6, 7, 7, 7, 7, 7, 7, 7, 7, 7, 7, 7, 7, 7, 7, 7, 7, 7, 7, 7, 7, 7, 7, 7, 7, 7, 7, 7, 7, 7, 7, 7, 7, 7, 7, 7, 7, 7, 7, 7, 7, 7, 7, 7, 7, 7, 7, 7, 7, 7, 7, 7, 7, 7, 7, 7, 7, 7, 7, 7, 7, 7, 7, 7, 7, 8, 8, 8, 8, 8, 8, 8, 8, 8, 8, 8, 8, 8, 8, 8, 8, 8, 8, 8, 8, 8, 8, 8, 8, 8, 8, 8, 8, 8, 8, 8, 8, 8, 8, 8, 8, 8, 8, 8, 8, 8, 8, 8, 8, 8, 8, 8, 8, 8, 8, 8, 8, 8, 8, 8, 8, 8, 8, 8, 8, 8, 8, 8, 8, 8, 8, 8, 8, 8, 8, 8, 8, 8, 8, 8, 8, 8, 8, 8, 8, 8, 8, 8, 8, 8, 8, 8, 8, 8, 8, 8, 8, 8, 8, 8, 8, 8, 8, 8, 8, 8, 8, 8, 8, 8, 8, 8, 8, 8, 8, 8, 8, 8, 8, 8, 8, 8, 8, 8, 8, 8, 8, 8, 8, 8, 8, 8, 8]⟩ : ByteArray) (ji15)
    replace p18 := eq_true p18
    replace q18 := eq_true q18
    go_wp2
    go_ret
    exact ⟨by first | rfl | (simp; done) | (simp only [← hji15] <;> (first | rfl | simp)) | (simp [*]; done), by repeat (first | exact Drawn0.refl _ | apply Drawn0.step)⟩
   rw [if_neg c14] at H
   have c14b0 : decide (256 ≤ Aa) = false := decide_eq_false c14
   clear c14
   obtain ⟨ji19, hji19⟩ : ∃ j_ : Int, ((Aa) % 256) = j_ := ⟨_, rfl⟩
   replace H : (if 0 ≤ (ji19) then (if (ji19) < 256 then (some (wrap64 (Ab + (wrap64 (bt (⟨#[0, 1, 2, 2, 3, 3, 3, 3, 4, 4, 4, 4, 4, 4, 4, 4, 5, 5, 5, 5, 5, 5, 5, 5, 5, 5, 5, 5, 5, 5, 5, 5, 6, 6, 6, 6, 6, 6, 6, 6, 6, 6, 6, 6, 6, 6, 6, 6, 6, 6, 6, 6, 6, 6, 6, 6, 6, 6, 6, 6, 6, 6, 6, 6, 7, 7, 7, 7, 7, 7, 7, 7, 7, 7, 7, 7, 7, 7, 7, 7, 7, 7, 7, 7, 7, 7, 7, 7, 7, 7, 7, 7, 7, 7, 7, 7, 7, 7, 7, 7, 7, 7, 7, 7, 7, 7, 7, 7, 7, 7, 7, 7, 7, 7, 7, 7, 7, 7, 7, 7, 7, 7, 7, 7, 7, 7, 7, 7, 8, 8, 8, 8, 8, 8, 8, 8, 8, 8, 8, 8, 8, 8, 8, 8, 8, 8, 8, 8, 8, 8, 8, 8, 8, 8, 8, 8, 8, 8, 8, 8, 8, 8, 8, 8, 8, 8, 8, 8, 8, 8, 8, 8, 8, 8, 8, 8, 8, 8, 8, 8, 8, 8, 8, 8, 8, 8, 8, 8, 8, 8, 8, 8, 8, 8, 8, 8, 8, 8, 8, 8, 8, 8, 8, 8, 8, 8, 8, 8, 8, 8, 8, 8, 8, 8, 8, 8, 8, 8, 8, 8, 8, 8, 8, 8, 8, 8, 8, 8, 8, 8, 8, 8, 8, 8, 8, 8, 8, 8, 8, 8, 8, 8, 8, 8, 8, 8, 8, 8, 8, 8, 8, 8, 8, 8, 8, 8]⟩ : ByteArray) (ji19)))))) else (none)) else (none)) = some r := by first | (rw [hji19] at H; exact H) | (simp only [hji19] at H ⊢; exact H)
   by_cases c20 : 0 ≤ (ji19)
   rotate_left
   ·rw [if_neg c20] at H
    exact absurd H (by simp)
   rw [if_pos c20] at H
   have c20b0 : decide (0 ≤ (ji19)) = true := decide_eq_true c20
   clear c20
   by_cases c21 : (ji19) < 256
   rotate_left
   ·rw [if_neg c21] at H
    exact absurd H (by simp)
   rw [if_pos c21] at H
   have c21b0 : decide ((ji19) < 256) = true := decide_eq_true c21
   clear c21
   obtain rfl := Option.some.inj H
   have p22 : 0 ≤ ((ji19) : Int) := of_decide_eq_true pS
   have q22 : (ji19) < (256 : Int) := of_decide_eq_true pS
   have hx22 := bt_at (⟨#[0, 1, 2, 2, 3, 3, 3, 3, 4, 4, 4, 4, 4, 4, 4, 4, 5, 5, 5, 5, 5, 5, 5, 5, 5, 5, 5, 5, 5, 5, 5, 5, 6, 6, 6, 6, 6, 6, 6, 6, 6, 6, 6, 6, 6, 6, 6, 6, 6, 6, 6, 6, 6, 6, 6, 6, 6, 6, 6, 6, 6, 6, 6, 6, 7, 7, 7, 7, 7, 7, 7, 7, 7, 7, 7, 7, 7, 7, 7, 7, 7, 7, 7, 7, 7, 7, 7, 7, 7, 7, 7, 7, 7, 7, 7, 7, 7, 7, 7, 7, 7, 7, 7, 7, 7, 7, 7, 7, 7, 7, 7, 7, 7, 7, 7, 7, 7, 7, 7, 7, 7, 7, 7, 7, 7, 7, 7, 7, 8, 8, 8, 8, 8, 8, 8, 8, 8, 8, 8, 8, 8, 8, 8, 8, 8, 8, 8, 8, 8, 8, 8, 8, 8, 8, 8, 8, 8, 8, 8, 8, 8, 8, 8, 8, 8, 8, 8, 8, 8, 8, 8, 8, 8, 8, 8, 8, 8, 8, 8, 8, 8, 8, 8, 8, 8, 8, 8, 8, 8, 8, 8, 8, 8, 8, 8, 8, 8, 8, 8, 8, 8, 8, 8, 8, 8, 8, 8, 8, 8, 8, 8, 8, 8, 8, 8, 8, 8, 8, 8, 8, 8, 8, 8, 8, 8, 8, 8, 8, 8, 8, 8, 8, 8, 8, 8, 8, 8, 8, 8, 8, 8, 8, 8, 8, 8, 8, 8, 8, 8, 8, 8, 8, 8, 8, 8, 8]⟩ : ByteArray) (ji19)
   replace p22 := eq_true p22
   replace q22 := eq_true q22
   go_wp2
   go_ret
   exact ⟨by first | rfl | (simp; done) | (simp only [← hji19] <;> (first | rfl | simp)) | (simp [*]; done), by repeat (first | exact Drawn0.refl _ | apply Drawn0.step)⟩
def bits_Len.f (k : Nat) (a0 : Int) : Option (Int) := (bits_Len64.f k a0).bind fun t154 => (some t154)
theorem bits_Len.mono : ∀ a0 k, LeO (bits_Len.f k a0) (bits_Len.f (k + 1) a0) := by
 intro a0 k
 unfold bits_Len.f
 repeat' first
   | (with_reducible exact bits_Len64.mono _ _)
   | (with_reducible exact LeO.refl _)
   | (with_reducible exact LeO.none _)
   | (with_reducible refine LeO.ite ?_ ?_)
   | (with_reducible refine LeO.bind ?_ (fun _ => ?_))
   | exact bits_Len64.mono _ _
   | exact LeO.none _
   | refine LeO.ite ?_ ?_
   | refine LeO.bind ?_ (fun _ => ?_)
set_option maxHeartbeats 8000000 in
set_option maxRecDepth 100000 in
theorem bits_Len.calls (k : Nat) (a0 : Int) (r : Int) (w : World) (h : bits_Len.f k a0 = some r) :
  Calls Try.prog 30 #[.int .u64 a0] w fun e w' => e = .returned (.int .i64 r) ∧ Drawn0 w w' := by
 have H : ((bits_Len64.f k a0).bind fun t154 => (some t154)) = some r := h
 clear h
 replace H := Option.bind_eq_some_iff.mp H
 obtain ⟨t154, A20, H⟩ := H
 replace H : (some t154) = some r := H
 have A2 := Am A20
 clear A20
 obtain rfl := Option.some.inj H
 go_enter Try.func30, Try.ntmps30
 go_wp2_with (first | ((with_reducible refine gate_callee (f := 41) rfl ?_); refine goesL_ (some 7) rfl rfl Try.func41 (by kernel_rfl) rfl #[.int .u64 a0] rfl pL ?_; (with_reducible refine (bits_Len64.calls k a0 t154 _ A2.out).mono ?_); rintro e w' ⟨rfl, ⟨nd, rfl⟩⟩; refine ⟨_, rfl, ?_⟩))
 go_ret
 exact ⟨by first | rfl | (simp; done) | (simp [*]; done), by repeat (first | exact Drawn0.refl _ | apply Drawn0.step)⟩
end
section
attribute [local go_sem] max2_int min2_int max_two min_two max_three min_three max_four min_four
attribute [local go_sem] wrap64_l1 wrap64_l2 wrap64_l3 wrap64_l4 wrap64_l5
mutual
def garnerref21_Find.l0 : Nat → List (S35) → Int → Int → Int → Int → Int → Int → Option (Int × Int × Int × Int × Int × Bool)
 | 0, _, _, _, _, _, _, _ => none
 | k + 1, x0, x7, x8, x156000, x156001, x156002, x156003 => if 0 ≤ x7 then (if x7 < (x0.length : Int) then (if x8 < (((rd_T35 x0 x7).f1).length : Int) then (if 0 ≤ x8 then (if ((rd_T37 ((rd_T35 x0 x7).f1) x8).f0) = x156001 then (if ((rd_T37 ((rd_T35 x0 x7).f1) x8).f1.f2) = x156002 then (if ((rd_T37 ((rd_T35 x0 x7).f1) x8).f1.f3) = x156003 then (if 0 ≤ (wrap64 (x7 + 1)) then (if (wrap64 (x7 + 1)) ≤ (x0.length : Int) then ((garnerref21_Find.f k (x0.drop ((wrap64 (x7 + 1)) : Int).toNat) ((rd_T37 ((rd_T35 x0 x7).f1) x8).f1.f0) ((rd_T37 ((rd_T35 x0 x7).f1) x8).f1.f1) ((rd_T37 ((rd_T35 x0 x7).f1) x8).f1.f2) ((rd_T37 ((rd_T35 x0 x7).f1) x8).f1.f3)).bind fun bt166 => (some (bt166.1, bt166.2.1, bt166.2.2.1, bt166.2.2.2.1, wrap64 (bt166.2.2.2.2.1 + 1), bt166.2.2.2.2.2))) else (none)) else (none)) else (garnerref21_Find.l0 k x0 x7 (wrap64 (x8 + 1)) x156000 x156001 x156002 x156003)) else (garnerref21_Find.l0 k x0 x7 (wrap64 (x8 + 1)) x156000 x156001 x156002 x156003)) else (garnerref21_Find.l0 k x0 x7 (wrap64 (x8 + 1)) x156000 x156001 x156002 x156003)) else (none)) else (some (0, 0, 0, 0, 0, false))) else (none)) else (none)
def garnerref21_Find.f : Nat → List (S35) → Int → Int → Int → Int → Option (Int × Int × Int × Int × Int × Bool)
 | 0, _, _, _, _, _ => none
 | k + 1, l0, a1_0, a1_1, a1_2, a1_3 => (garnerref21_at.f k l0 a1_0).bind fun t157 => (if t157 < 0 then (some (a1_0, a1_1, a1_2, a1_3, 0, true)) else (garnerref21_Find.l0 k l0 t157 0 a1_0 a1_1 a1_2 a1_3))
end
theorem garnerref21_Find.mono_l : ∀ k, (∀ y0 y1 y2 y3 y4, LeO (garnerref21_Find.f k y0 y1 y2 y3 y4) (garnerref21_Find.f (k + 1) y0 y1 y2 y3 y4)) ∧ (∀ y0 y1 y2 y3 y4 y5 y6, LeO (garnerref21_Find.l0 k y0 y1 y2 y3 y4 y5 y6) (garnerref21_Find.l0 (k + 1) y0 y1 y2 y3 y4 y5 y6))
 | 0 => ⟨fun _ _ _ _ _ r h => by simp [garnerref21_Find.f] at h, fun _ _ _ _ _ _ _ r h => by simp [garnerref21_Find.l0] at h⟩
 | k + 1 => by
  obtain ⟨ih0, ih1⟩ := garnerref21_Find.mono_l k
  refine ⟨?_, ?_⟩
  ·intro y0 y1 y2 y3 y4
   unfold garnerref21_Find.f
   repeat' first
   | (with_reducible exact ih0 _ _ _ _ _)
   | (with_reducible exact ih1 _ _ _ _ _ _ _)
   | (with_reducible exact garnerref21_at.mono _ _ _)
   | (with_reducible exact LeO.refl _)
   | (with_reducible exact LeO.none _)
   | (with_reducible refine LeO.ite ?_ ?_)
   | (with_reducible refine LeO.bind ?_ (fun _ => ?_))
   | exact ih0 _ _ _ _ _
   | exact ih1 _ _ _ _ _ _ _
   | exact garnerref21_at.mono _ _ _
   | exact LeO.none _
   | refine LeO.ite ?_ ?_
   | refine LeO.bind ?_ (fun _ => ?_)
  ·intro y0 y1 y2 y3 y4 y5 y6
   unfold garnerref21_Find.l0
   repeat' first
   | (with_reducible exact ih0 _ _ _ _ _)
   | (with_reducible exact ih1 _ _ _ _ _ _ _)
   | (with_reducible exact garnerref21_at.mono _ _ _)
   | (with_reducible exact LeO.refl _)
   | (with_reducible exact LeO.none _)
   | (with_reducible refine LeO.ite ?_ ?_)
   | (with_reducible refine LeO.bind ?_ (fun _ => ?_))
   | exact ih0 _ _ _ _ _
   | exact ih1 _ _ _ _ _ _ _
   | exact garnerref21_at.mono _ _ _
   | exact LeO.none _
   | refine LeO.ite ?_ ?_
   | refine LeO.bind ?_ (fun _ => ?_)
theorem garnerref21_Find.mono : ∀ a0 a1 a2 a3 a4 k, LeO (garnerref21_Find.f k a0 a1 a2 a3 a4) (garnerref21_Find.f (k + 1) a0 a1 a2 a3 a4) := by
 intro a0 a1 a2 a3 a4 k
 obtain ⟨ih0, ih1⟩ := garnerref21_Find.mono_l k
 exact ih0 a0 a1 a2 a3 a4
def garnerref21_Find.T9 : Bool × List (List Nat × List Nat) := (true, [([], []), ([], []), ([1], [1]), ([0, 2], [0, 2]), ([], []), ([4], [4]), ([3, 5], [3, 5]), ([6], [6]), ([7], [7]), ([7], [7]), ([7], [7]), ([], []), ([11, 8, 6, 0, 1, 2, 3, 4, 5, 6, 7, 8, 11], [8, 11]), ([9, 12, 0, 1, 2, 3, 4, 5, 6, 7, 8, 9, 11, 12], [9]), ([10, 13, 0, 1, 2, 3, 4, 5, 6, 7, 8, 9, 10, 11, 12, 13], [10])])
def garnerref21_Find.B9 : List Nat := [0, 0, 2, 7, 0, 16, 63, 127, 255, 255, 255, 0, 2559, 7167, 16383]
theorem garnerref21_Find.tab9 : rtab .any (opsOf Try.f13 9) = garnerref21_Find.T9 := by kernel_rfl
theorem garnerref21_Find.bits9 : waitsOk garnerref21_Find.T9.2 garnerref21_Find.B9 = true := by kernel_rfl
set_option maxHeartbeats 8000000 in
set_option maxRecDepth 100000 in
theorem garnerref21_Find.calls (k : Nat) : ∀ (A0 : Option Addr) (c0 : Nat) (l0 : List (S35)) (a1_0 : Int) (a1_1 : Int) (a1_2 : Int) (a1_3 : Int) (r1 : Int) (r2 : Int) (r3 : Int) (r4 : Int) (r5 : Int) (r6 : Bool) (w : World) (hr0 : Kd.C k35 w A0 l0.length l0) (hc0 : l0.length ≤ c0) (h : garnerref21_Find.f k l0 a1_0 a1_1 a1_2 a1_3 = some (r1, r2, r3, r4, r5, r6)),
  Calls Try.prog 13 #[.slice A0 l0.length c0, .agg #[.int .i64 a1_0, .int .i64 a1_1, .int .i64 a1_2, .int .u32 a1_3]] w fun e w' => e = .returned (.tuple #[.agg #[.int .i64 r1, .int .i64 r2, .int .i64 r3, .int .u32 r4], .int .i64 r5, .bool r6]) ∧ Below w.heap.size w w' := by
 induction k using Nat.strongRecOn with
 | _ k ih =>
 intro A0 c0 l0 a1_0 a1_1 a1_2 a1_3 r1 r2 r3 r4 r5 r6 w hr0 hc0 h
 cases k with
 | zero => exact absurd h (by simp [garnerref21_Find.f])
 | succ k =>
 simp only [garnerref21_Find.f] at h
 have hu25 := Try.underlying25
 have hu37 := Try.underlying37
 have HR0 := Am hr0
 have HC0 := Am hc0
 clear hr0 hc0
 have HB := Am (Below.refl w.heap.size w)
 have H := h
 clear h
 replace H := Option.bind_eq_some_iff.mp H
 obtain ⟨t157, A30, H⟩ := H
 have A3 := Am A30
 clear A30
 by_cases c4 : t157 < 0
 ·rw [if_pos c4] at H
  have c4b0 : decide (t157 < 0) = true := decide_eq_true c4
  clear c4
  simp only [Option.some.injEq, Prod.mk.injEq] at H
  obtain ⟨rfl, rfl, rfl, rfl, rfl, rfl⟩ := H
  go_enter Try.func13, Try.ntmps13
  go_wp2_with (first | ((with_reducible refine gate_dst (N := 3) rfl ?_); refine box_event ?hg (N := 3) ?hd (cs := #[.int .i64 a1_0, .int .i64 a1_1, .int .i64 a1_2, .int .u32 a1_3]) (t := 25) ?hr ?_; (case hd => rfl); (case hg => rfl); (case hr => first | (go_simp; done) | (go_simp; rfl)); intro Aj hg w5 hbox hb; have Ac := Am (hbox); have Bp := Am ((by rw [hg]; exact (below_size (pB HB.out)) : w.heap.size ≤ Aj)); replace HB := Am (below_step (pB HB.out) hb); have Ah := Bp; clear hb hbox hg) | ((with_reducible refine gate_dst (N := 4) rfl ?_); refine box_event ?hg (N := 4) ?hd (cs := #[.int .i64 0, .int .i64 0, .int .i64 0, .int .u32 0]) (t := 25) ?hr ?_; (case hd => rfl); (case hg => rfl); (case hr => first | (go_simp; done) | (go_simp; rfl)); intro Ai hg w6 hbox hb; have Ae := Am (hbox); have Bq := Am ((by rw [hg]; exact (below_size (pE HB.out Ah.out)) : w.heap.size ≤ Ai)); replace HB := Am (below_step (pE HB.out Ah.out) hb); have Ak := Bq; have Av := Am ((by rw [hg]; exact Nat.ne_of_lt (kL Ac.out) : Aj ≠ Ai)); have Aw := Am ((by rw [hg]; exact Nat.ne_of_gt (kL Ac.out) : Ai ≠ Aj)); replace Ac := kBa Ac hb; clear hb hbox hg; have hnb7 := Av.out; have hnc7 := Aw.out; obtain ⟨B1, B2, B3, B4⟩ := bc4 Ac.out; obtain ⟨B5, B6, B7, B8⟩ := bf4 Ac.out) | ((with_reducible refine gate_callee (f := 23) rfl ?_); refine goesL_ (some 16) rfl rfl Try.func23 (by kernel_rfl) rfl #[.slice A0 l0.length c0, .int .i64 a1_0] rfl pL ?_; (with_reducible refine (garnerref21_at.calls k _ _ l0 a1_0 t157 _ ?Bd ?Be A3.out).mono ?_); (case Bd => exact pC (Kd.C_below HR0.out HB.out)); (case Be => exact HC0.out); rintro e w' ⟨rfl, ⟨nd, rfl⟩⟩; refine ⟨_, rfl, ?_⟩; (try (rw [drewN_self w6]; generalize hq_ : World.drewN w6 _ = w6; replace Ac : Aside0 (w6.heap[Aj]? = some (.cells #[.int .i64 a1_0, .int .i64 a1_1, .int .i64 a1_2, .int .u32 a1_3] 25 (0, 0))) := ⟨by rw [← hq_]; exact (pK Ac.out)⟩; replace Ae : Aside0 (w6.heap[Ai]? = some (.cells #[.int .i64 0, .int .i64 0, .int .i64 0, .int .u32 0] 25 (0, 0))) := ⟨by rw [← hq_]; exact (pK Ae.out)⟩; replace HB : Aside0 (Below w.heap.size w w6) := ⟨by rw [← hq_]; exact (pE2 HB.out Ah.out Ak.out)⟩; clear hq_)); obtain ⟨B9, Ca, Cb, Cc⟩ := bc4 Ae.out; obtain ⟨Cd, Ce, Cf, Cg⟩ := bf4 Ae.out; obtain ⟨B1, B2, B3, B4⟩ := bc4 Ac.out; obtain ⟨B5, B6, B7, B8⟩ := bf4 Ac.out))
  refine bodyPost_ret (results_ctt rfl _ _ Ai 25 #[.int .i64 a1_0, .int .i64 a1_1, .int .i64 a1_2, .int .u32 a1_3] (0, 0) _ rfl (kX0 Ae.out) Try.underlying25 rfl (by kernel_rfl)) rfl ?_
  exact ⟨pX, pE2 HB.out Ah.out Ak.out⟩
 rw [if_neg c4] at H
 have c4b0 : decide (t157 < 0) = false := decide_eq_false c4
 clear c4
 have H' := Am H
 clear H
 go_enter Try.func13, Try.ntmps13
 go_wp2_with (first | ((with_reducible refine gate_dst (N := 3) rfl ?_); refine box_event ?hg (N := 3) ?hd (cs := #[.int .i64 a1_0, .int .i64 a1_1, .int .i64 a1_2, .int .u32 a1_3]) (t := 25) ?hr ?_; (case hd => rfl); (case hg => rfl); (case hr => first | (go_simp; done) | (go_simp; rfl)); intro Aj hg w10 hbox hb; have Ac := Am (hbox); have Bp := Am ((by rw [hg]; exact (below_size (pB HB.out)) : w.heap.size ≤ Aj)); replace HB := Am (below_step (pB HB.out) hb); have Ah := Bp; clear hb hbox hg) | ((with_reducible refine gate_dst (N := 4) rfl ?_); refine box_event ?hg (N := 4) ?hd (cs := #[.int .i64 0, .int .i64 0, .int .i64 0, .int .u32 0]) (t := 25) ?hr ?_; (case hd => rfl); (case hg => rfl); (case hr => first | (go_simp; done) | (go_simp; rfl)); intro Ai hg w11 hbox hb; have Ae := Am (hbox); have Bq := Am ((by rw [hg]; exact (below_size (pE HB.out Ah.out)) : w.heap.size ≤ Ai)); replace HB := Am (below_step (pE HB.out Ah.out) hb); have Ak := Bq; have Av := Am ((by rw [hg]; exact Nat.ne_of_lt (kL Ac.out) : Aj ≠ Ai)); have Aw := Am ((by rw [hg]; exact Nat.ne_of_gt (kL Ac.out) : Ai ≠ Aj)); replace Ac := kBa Ac hb; clear hb hbox hg; have hnb12 := Av.out; have hnc12 := Aw.out; obtain ⟨Bs, Bt, Bu, Bv⟩ := bc4 Ac.out; obtain ⟨Bw, Bx, By, Bz⟩ := bf4 Ac.out) | ((with_reducible refine gate_callee (f := 23) rfl ?_); refine goesL_ (some 16) rfl rfl Try.func23 (by kernel_rfl) rfl #[.slice A0 l0.length c0, .int .i64 a1_0] rfl pL ?_; (with_reducible refine (garnerref21_at.calls k _ _ l0 a1_0 t157 _ ?Bd ?Be A3.out).mono ?_); (case Bd => exact pC (Kd.C_below HR0.out HB.out)); (case Be => exact HC0.out); rintro e w' ⟨rfl, ⟨nd, rfl⟩⟩; refine ⟨_, rfl, ?_⟩))
 go_loopg [8] k (fun kq v8 w' => ∃ (Aa : Int) (Ax : Int) (Ay : Int) (Az : Int) (A1 : Int), v8 = .int .i64 Aa ∧ Aside0 (garnerref21_Find.l0 kq l0 t157 Aa a1_0 a1_1 a1_2 a1_3 = some (r1, r2, r3, r4, r5, r6)) ∧ Aside0 (kq ≤ k) ∧ Aside0 (w'.heap[Aj]? = some (.cells #[.int .i64 a1_0, .int .i64 a1_1, .int .i64 a1_2, .int .u32 a1_3] 25 (0, 0))) ∧ Aside0 (w'.heap[Ai]? = some (.cells #[.int .i64 Ax, .int .i64 Ay, .int .i64 Az, .int .u32 A1] 25 (0, 0))) ∧ Aside0 (Below w.heap.size w w'))
 case atStart => exact ⟨(0), (0), (0), (0), (0), (by first | rfl | (simp; done) | (simp [*]; done)), H', ⟨Nat.le_refl _⟩, ⟨pK Ac.out⟩, ⟨pK Ae.out⟩, ⟨pE2 HB.out Ah.out Ak.out⟩⟩
 case round =>
  clear H'
  try clear c1
  try clear c2
  try clear p2
  try clear c4
  try clear c4b0
  try clear c7
  try clear c12
  try clear c13
  try clear Bs Bt Bu Bv
  try clear B1 B2 B3 B4
  try clear B9 Ca Cb Cc
  try clear Bw Bx By Bz
  try clear B5 B6 B7 B8
  try clear Cd Ce Cf Cg
  obtain ⟨Aa, Ax, Ay, Az, A1, rfl, HA, HK1, Ac, Ae, HB⟩ := hrel
  cases gk with
  | zero => exact absurd HA.out (by simp [garnerref21_Find.l0])
  | succ k1 =>
   have H := HA.out
   clear HA
   simp only [garnerref21_Find.l0] at H
   by_cases c14 : 0 ≤ t157
   rotate_left
   ·rw [if_neg c14] at H
    exact absurd H (by simp)
   rw [if_pos c14] at H
   have c14b0 : decide (0 ≤ t157) = true := decide_eq_true c14
   clear c14
   by_cases c15 : t157 < (l0.length : Int)
   rotate_left
   ·rw [if_neg c15] at H
    exact absurd H (by simp)
   rw [if_pos c15] at H
   have c15b0 : decide (t157 < (l0.length : Int)) = true := decide_eq_true c15
   clear c15
   by_cases c16 : Aa < (((rd_T35 l0 t157).f1).length : Int)
   rotate_left
   ·rw [if_neg c16] at H
    have c16b0 : decide (Aa < (((rd_T35 l0 t157).f1).length : Int)) = false := decide_eq_false c16
    clear c16
    simp only [Option.some.injEq, Prod.mk.injEq] at H
    obtain ⟨rfl, rfl, rfl, rfl, rfl, rfl⟩ := H
    have p158 : 0 ≤ (t157 : Int) := of_decide_eq_true pS
    have q158 : t157 < (l0.length : Int) := of_decide_eq_true pS
    obtain ⟨A8, Bg, c158_1, e158, Ba, Bb, Ap, Aq⟩ := at_T35u HR0.out t157 p158 q158 HB.out
    cases e158
    have A7 := Am Aq
    have Bc := Am Ap
    clear Aq Ap
    replace p158 := eq_true p158
    replace q158 := eq_true q158
    have hnb64 := Aw.out
    have hnc64 := Av.out
    obtain ⟨_, _, _, _⟩ := bc4 Ae.out
    obtain ⟨_, _, _, _⟩ := bf4 Ae.out
    go_wp2
    refine bodyPost_ret (results_ctt rfl _ _ Ai 25 #[.int .i64 0, .int .i64 0, .int .i64 0, .int .u32 0] (0, 0) _ rfl (kX0 Ae.out) Try.underlying25 rfl (by kernel_rfl)) rfl ?_
    exact ⟨pX, pE2 HB.out Ah.out Ak.out⟩
   rw [if_pos c16] at H
   have c16b0 : decide (Aa < (((rd_T35 l0 t157).f1).length : Int)) = true := decide_eq_true c16
   clear c16
   by_cases c17 : 0 ≤ Aa
   rotate_left
   ·rw [if_neg c17] at H
    exact absurd H (by simp)
   rw [if_pos c17] at H
   have c17b0 : decide (0 ≤ Aa) = true := decide_eq_true c17
   clear c17
   by_cases c18 : ((rd_T37 ((rd_T35 l0 t157).f1) Aa).f0) = a1_1
   rotate_left
   ·rw [if_neg c18] at H
    have c18b0 : (((rd_T37 ((rd_T35 l0 t157).f1) Aa).f0) == a1_1) = false := beq_eq_false_iff_ne.mpr c18
    have c18b1 : (((rd_T37 ((rd_T35 l0 t157).f1) Aa).f0) != a1_1) = true := bne_iff_ne.mpr c18
    have H' := Am H
    clear H
    have p158 : 0 ≤ (t157 : Int) := of_decide_eq_true pS
    have q158 : t157 < (l0.length : Int) := of_decide_eq_true pS
    obtain ⟨A8, Bg, c158_1, e158, Ba, Bb, Ap, Aq⟩ := at_T35u HR0.out t157 p158 q158 HB.out
    cases e158
    have A7 := Am Aq
    have Bc := Am Ap
    clear Aq Ap
    replace p158 := eq_true p158
    replace q158 := eq_true q158
    have p160 : 0 ≤ (Aa : Int) := of_decide_eq_true pS
    have q160 : Aa < (((rd_T35 l0 t157).f1).length : Int) := of_decide_eq_true pS
    obtain ⟨Br, e160, Bh, Bi, Bj, Bk, Bl⟩ := at_T37u A7.out Aa p160 q160 HB.out
    cases e160
    replace p160 := eq_true p160
    replace q160 := eq_true q160
    go_wp2_with (first | ((with_reducible refine gate_dst (N := 9) rfl ?_); refine box_event ?hg (N := 9) ?hd (cs := #[.int .i64 0, .int .i64 0, .int .i64 0, .int .i64 0, .int .u32 0]) (t := 37) ?hr ?_; (case hd => rfl); (case hg => rfl); (case hr => first | (go_simp; done) | (go_simp; rfl)); intro Ab hg w58 hbox hb; have Ad := Am (hbox); have Bf := Am ((by rw [hg]; exact (below_size (pE2 HB.out Ah.out Ak.out)) : w.heap.size ≤ Ab)); replace HB := Am (below_step (pE2 HB.out Ah.out Ak.out) hb); have A2 := Bf; have Al := Am ((by rw [hg]; exact Nat.ne_of_lt (kL Ac.out) : Aj ≠ Ab)); have A4 := Am ((by rw [hg]; exact Nat.ne_of_gt (kL Ac.out) : Ab ≠ Aj)); replace Ac := kBa Ac hb; have An := Am ((by rw [hg]; exact Nat.ne_of_lt (kL Ae.out) : Ai ≠ Ab)); have A5 := Am ((by rw [hg]; exact Nat.ne_of_gt (kL Ae.out) : Ab ≠ Ai)); replace Ae := kBa Ae hb; clear hb hbox hg; have hnb59 := A4.out; have hnc59 := Al.out; have hnb60 := A5.out; have hnc60 := An.out; obtain ⟨_, _, _, _, _⟩ := bc5 Ad.out; obtain ⟨_, _, _, _, _⟩ := bf5 Ad.out; have hnb62 := Av.out; have hnc62 := Aw.out; obtain ⟨_, _, _, _⟩ := bc4 Ac.out; obtain ⟨_, _, _, _⟩ := bf4 Ac.out))
    go_roundg k1
    case measure => have := HK1.out; omega
    case rel => exact ⟨(wrap64 (Aa + 1)), (Ax), (Ay), (Az), (A1), (by first | rfl | (simp; done) | (simp [*]; done)), H', ⟨by have := HK1.out; omega⟩, ⟨kX1 Ac.out Al.out⟩, ⟨kX1 Ae.out An.out⟩, ⟨pE3 HB.out Ah.out Ak.out A2.out⟩⟩
   rw [if_pos c18] at H
   have c18b0 : (((rd_T37 ((rd_T35 l0 t157).f1) Aa).f0) == a1_1) = true := beq_iff_eq.mpr c18
   have c18b1 : (((rd_T37 ((rd_T35 l0 t157).f1) Aa).f0) != a1_1) = false := bne_eq_false_iff_eq.mpr c18
   clear c18
   by_cases c19 : ((rd_T37 ((rd_T35 l0 t157).f1) Aa).f1.f2) = a1_2
   rotate_left
   ·rw [if_neg c19] at H
    have c19b0 : (((rd_T37 ((rd_T35 l0 t157).f1) Aa).f1.f2) == a1_2) = false := beq_eq_false_iff_ne.mpr c19
    have c19b1 : (((rd_T37 ((rd_T35 l0 t157).f1) Aa).f1.f2) != a1_2) = true := bne_iff_ne.mpr c19
    have H' := Am H
    clear H
    have p158 : 0 ≤ (t157 : Int) := of_decide_eq_true pS
    have q158 : t157 < (l0.length : Int) := of_decide_eq_true pS
    obtain ⟨A8, Bg, c158_1, e158, Ba, Bb, Ap, Aq⟩ := at_T35u HR0.out t157 p158 q158 HB.out
    cases e158
    have A7 := Am Aq
    have Bc := Am Ap
    clear Aq Ap
    replace p158 := eq_true p158
    replace q158 := eq_true q158
    have p160 : 0 ≤ (Aa : Int) := of_decide_eq_true pS
    have q160 : Aa < (((rd_T35 l0 t157).f1).length : Int) := of_decide_eq_true pS
    obtain ⟨Br, e160, Bh, Bi, Bj, Bk, Bl⟩ := at_T37u A7.out Aa p160 q160 HB.out
    cases e160
    replace p160 := eq_true p160
    replace q160 := eq_true q160
    go_wp2_with (first | ((with_reducible refine gate_dst (N := 9) rfl ?_); refine box_event ?hg (N := 9) ?hd (cs := #[.int .i64 0, .int .i64 0, .int .i64 0, .int .i64 0, .int .u32 0]) (t := 37) ?hr ?_; (case hd => rfl); (case hg => rfl); (case hr => first | (go_simp; done) | (go_simp; rfl)); intro Ab hg w52 hbox hb; have Ad := Am (hbox); have Bf := Am ((by rw [hg]; exact (below_size (pE2 HB.out Ah.out Ak.out)) : w.heap.size ≤ Ab)); replace HB := Am (below_step (pE2 HB.out Ah.out Ak.out) hb); have A2 := Bf; have Al := Am ((by rw [hg]; exact Nat.ne_of_lt (kL Ac.out) : Aj ≠ Ab)); have A4 := Am ((by rw [hg]; exact Nat.ne_of_gt (kL Ac.out) : Ab ≠ Aj)); replace Ac := kBa Ac hb; have An := Am ((by rw [hg]; exact Nat.ne_of_lt (kL Ae.out) : Ai ≠ Ab)); have A5 := Am ((by rw [hg]; exact Nat.ne_of_gt (kL Ae.out) : Ab ≠ Ai)); replace Ae := kBa Ae hb; clear hb hbox hg; have hnb53 := A4.out; have hnc53 := Al.out; have hnb54 := A5.out; have hnc54 := An.out; obtain ⟨_, _, _, _, _⟩ := bc5 Ad.out; obtain ⟨_, _, _, _, _⟩ := bf5 Ad.out; have hnb56 := Av.out; have hnc56 := Aw.out; obtain ⟨_, _, _, _⟩ := bc4 Ac.out; obtain ⟨_, _, _, _⟩ := bf4 Ac.out))
    go_roundg k1
    case measure => have := HK1.out; omega
    case rel => exact ⟨(wrap64 (Aa + 1)), (Ax), (Ay), (Az), (A1), (by first | rfl | (simp; done) | (simp [*]; done)), H', ⟨by have := HK1.out; omega⟩, ⟨kX1 Ac.out Al.out⟩, ⟨kX1 Ae.out An.out⟩, ⟨pE3 HB.out Ah.out Ak.out A2.out⟩⟩
   rw [if_pos c19] at H
   have c19b0 : (((rd_T37 ((rd_T35 l0 t157).f1) Aa).f1.f2) == a1_2) = true := beq_iff_eq.mpr c19
   have c19b1 : (((rd_T37 ((rd_T35 l0 t157).f1) Aa).f1.f2) != a1_2) = false := bne_eq_false_iff_eq.mpr c19
   clear c19
   by_cases c20 : ((rd_T37 ((rd_T35 l0 t157).f1) Aa).f1.f3) = a1_3
   rotate_left
   ·rw [if_neg c20] at H
    have c20b0 : (((rd_T37 ((rd_T35 l0 t157).f1) Aa).f1.f3) == a1_3) = false := beq_eq_false_iff_ne.mpr c20
    have c20b1 : (((rd_T37 ((rd_T35 l0 t157).f1) Aa).f1.f3) != a1_3) = true := bne_iff_ne.mpr c20
    have H' := Am H
    clear H
    have p158 : 0 ≤ (t157 : Int) := of_decide_eq_true pS
    have q158 : t157 < (l0.length : Int) := of_decide_eq_true pS
    obtain ⟨A8, Bg, c158_1, e158, Ba, Bb, Ap, Aq⟩ := at_T35u HR0.out t157 p158 q158 HB.out
    cases e158
    have A7 := Am Aq
    have Bc := Am Ap
    clear Aq Ap
    replace p158 := eq_true p158
    replace q158 := eq_true q158
    have p160 : 0 ≤ (Aa : Int) := of_decide_eq_true pS
    have q160 : Aa < (((rd_T35 l0 t157).f1).length : Int) := of_decide_eq_true pS
    obtain ⟨Br, e160, Bh, Bi, Bj, Bk, Bl⟩ := at_T37u A7.out Aa p160 q160 HB.out
    cases e160
    replace p160 := eq_true p160
    replace q160 := eq_true q160
    go_wp2_with (first | ((with_reducible refine gate_dst (N := 9) rfl ?_); refine box_event ?hg (N := 9) ?hd (cs := #[.int .i64 0, .int .i64 0, .int .i64 0, .int .i64 0, .int .u32 0]) (t := 37) ?hr ?_; (case hd => rfl); (case hg => rfl); (case hr => first | (go_simp; done) | (go_simp; rfl)); intro Ab hg w46 hbox hb; have Ad := Am (hbox); have Bf := Am ((by rw [hg]; exact (below_size (pE2 HB.out Ah.out Ak.out)) : w.heap.size ≤ Ab)); replace HB := Am (below_step (pE2 HB.out Ah.out Ak.out) hb); have A2 := Bf; have Al := Am ((by rw [hg]; exact Nat.ne_of_lt (kL Ac.out) : Aj ≠ Ab)); have A4 := Am ((by rw [hg]; exact Nat.ne_of_gt (kL Ac.out) : Ab ≠ Aj)); replace Ac := kBa Ac hb; have An := Am ((by rw [hg]; exact Nat.ne_of_lt (kL Ae.out) : Ai ≠ Ab)); have A5 := Am ((by rw [hg]; exact Nat.ne_of_gt (kL Ae.out) : Ab ≠ Ai)); replace Ae := kBa Ae hb; clear hb hbox hg; have hnb47 := A4.out; have hnc47 := Al.out; have hnb48 := A5.out; have hnc48 := An.out; obtain ⟨_, _, _, _, _⟩ := bc5 Ad.out; obtain ⟨_, _, _, _, _⟩ := bf5 Ad.out; have hnb50 := Av.out; have hnc50 := Aw.out; obtain ⟨_, _, _, _⟩ := bc4 Ac.out; obtain ⟨_, _, _, _⟩ := bf4 Ac.out))
    go_roundg k1
    case measure => have := HK1.out; omega
    case rel => exact ⟨(wrap64 (Aa + 1)), (Ax), (Ay), (Az), (A1), (by first | rfl | (simp; done) | (simp [*]; done)), H', ⟨by have := HK1.out; omega⟩, ⟨kX1 Ac.out Al.out⟩, ⟨kX1 Ae.out An.out⟩, ⟨pE3 HB.out Ah.out Ak.out A2.out⟩⟩
   rw [if_pos c20] at H
   have c20b0 : (((rd_T37 ((rd_T35 l0 t157).f1) Aa).f1.f3) == a1_3) = true := beq_iff_eq.mpr c20
   have c20b1 : (((rd_T37 ((rd_T35 l0 t157).f1) Aa).f1.f3) != a1_3) = false := bne_eq_false_iff_eq.mpr c20
   clear c20
   obtain ⟨ji21, hji21⟩ : ∃ j_ : Int, (wrap64 (t157 + 1)) = j_ := ⟨_, rfl⟩
   replace H : (if 0 ≤ (ji21) then (if (ji21) ≤ (l0.length : Int) then ((garnerref21_Find.f k1 (l0.drop ((ji21) : Int).toNat) ((rd_T37 ((rd_T35 l0 t157).f1) Aa).f1.f0) ((rd_T37 ((rd_T35 l0 t157).f1) Aa).f1.f1) ((rd_T37 ((rd_T35 l0 t157).f1) Aa).f1.f2) ((rd_T37 ((rd_T35 l0 t157).f1) Aa).f1.f3)).bind fun bt166 => (some (bt166.1, bt166.2.1, bt166.2.2.1, bt166.2.2.2.1, wrap64 (bt166.2.2.2.2.1 + 1), bt166.2.2.2.2.2))) else (none)) else (none)) = some (r1, r2, r3, r4, r5, r6) := by first | (rw [hji21] at H; exact H) | (simp only [hji21] at H ⊢; exact H)
   have hji21w : (IntKind.i64.wrap (t157 + 1)) = ji21 := (i64_w _).trans hji21
   by_cases c22 : 0 ≤ (ji21)
   rotate_left
   ·rw [if_neg c22] at H
    exact absurd H (by simp)
   rw [if_pos c22] at H
   have c22b0 := eq_true c22
   have c22b1 : decide (0 ≤ (ji21)) = true := decide_eq_true c22
   clear c22
   by_cases c23 : (ji21) ≤ (l0.length : Int)
   rotate_left
   ·rw [if_neg c23] at H
    exact absurd H (by simp)
   rw [if_pos c23] at H
   have c23b0 := eq_true c23
   have c23b1 : decide ((ji21) ≤ (l0.length : Int)) = true := decide_eq_true c23
   clear c23
   obtain ⟨y162, hy162⟩ : ∃ y_ : List (S35), y_ = (l0.drop ((ji21) : Int).toNat) := ⟨_, rfl⟩
   replace H : ((garnerref21_Find.f k1 y162 ((rd_T37 ((rd_T35 l0 t157).f1) Aa).f1.f0) ((rd_T37 ((rd_T35 l0 t157).f1) Aa).f1.f1) ((rd_T37 ((rd_T35 l0 t157).f1) Aa).f1.f2) ((rd_T37 ((rd_T35 l0 t157).f1) Aa).f1.f3)).bind fun bt166 => (some (bt166.1, bt166.2.1, bt166.2.2.1, bt166.2.2.2.1, wrap64 (bt166.2.2.2.2.1 + 1), bt166.2.2.2.2.2))) = some (r1, r2, r3, r4, r5, r6) := by first | (rw [hy162]; with_reducible exact H) | (have H2_ := (Option.bind_some _ _).symm.trans H; rw [hy162]; with_reducible exact H2_) | (have H2_ := (Option.bind_some _ _).symm.trans H; with_reducible exact H2_) | with_reducible exact H | (rw [hy162]; exact H) | exact H
   have Ny162 := Am hy162
   clear hy162
   replace H := Option.bind_eq_some_iff.mp H
   obtain ⟨⟨t166, t167, t168, t169, t170, t171⟩, A240, H⟩ := H
   replace H : (some (t166, t167, t168, t169, wrap64 (t170 + 1), t171)) = some (r1, r2, r3, r4, r5, r6) := H
   have A24 := Am A240
   clear A240
   simp only [Option.some.injEq, Prod.mk.injEq] at H
   obtain ⟨rfl, rfl, rfl, rfl, rfl, rfl⟩ := H
   have p158 : 0 ≤ (t157 : Int) := of_decide_eq_true pS
   have q158 : t157 < (l0.length : Int) := of_decide_eq_true pS
   obtain ⟨A8, Bg, c158_1, e158, Ba, Bb, Ap, Aq⟩ := at_T35u HR0.out t157 p158 q158 HB.out
   cases e158
   have A7 := Am Aq
   have Bc := Am Ap
   clear Aq Ap
   replace p158 := eq_true p158
   replace q158 := eq_true q158
   have p160 : 0 ≤ (Aa : Int) := of_decide_eq_true pS
   have q160 : Aa < (((rd_T35 l0 t157).f1).length : Int) := of_decide_eq_true pS
   obtain ⟨Br, e160, Bh, Bi, Bj, Bk, Bl⟩ := at_T37u A7.out Aa p160 q160 HB.out
   cases e160
   replace p160 := eq_true p160
   replace q160 := eq_true q160
   try go_wp2_with (first | ((with_reducible refine gate_dst (N := 9) rfl ?_); refine box_event ?hg (N := 9) ?hd (cs := #[.int .i64 0, .int .i64 0, .int .i64 0, .int .i64 0, .int .u32 0]) (t := 37) ?hr ?_; (case hd => rfl); (case hg => rfl); (case hr => first | (go_simp; done) | (go_simp; rfl)); intro Ab hg w25 hbox hb; have Ad := Am (hbox); have Bf := Am ((by rw [hg]; exact (below_size (pE2 HB.out Ah.out Ak.out)) : w.heap.size ≤ Ab)); replace HB := Am (below_step (pE2 HB.out Ah.out Ak.out) hb); have A2 := Bf; have Al := Am ((by rw [hg]; exact Nat.ne_of_lt (kL Ac.out) : Aj ≠ Ab)); have A4 := Am ((by rw [hg]; exact Nat.ne_of_gt (kL Ac.out) : Ab ≠ Aj)); replace Ac := kBa Ac hb; have An := Am ((by rw [hg]; exact Nat.ne_of_lt (kL Ae.out) : Ai ≠ Ab)); have A5 := Am ((by rw [hg]; exact Nat.ne_of_gt (kL Ae.out) : Ab ≠ Ai)); replace Ae := kBa Ae hb; clear hb hbox hg; have hnb26 := A4.out; have hnc26 := Al.out; have hnb27 := A5.out; have hnc27 := An.out; obtain ⟨_, _, _, _, _⟩ := bc5 Ad.out; obtain ⟨_, _, _, _, _⟩ := bf5 Ad.out; have hnb29 := Av.out; have hnc29 := Aw.out; obtain ⟨_, _, _, _⟩ := bc4 Ac.out; obtain ⟨_, _, _, _⟩ := bf4 Ac.out))
   have n0_ : Aside0 ((((((w25.setCell ⟨Ab, 0, none⟩ (.int .i64 ((rd_T37 ((rd_T35 l0 t157).f1) Aa).f0))).setCell ⟨Ab, 1, none⟩ (.int .i64 ((rd_T37 ((rd_T35 l0 t157).f1) Aa).f1.f0))).setCell ⟨Ab, 2, none⟩ (.int .i64 ((rd_T37 ((rd_T35 l0 t157).f1) Aa).f1.f1))).setCell ⟨Ab, 3, none⟩ (.int .i64 ((rd_T37 ((rd_T35 l0 t157).f1) Aa).f1.f2))).setCell ⟨Ab, 4, none⟩ (.int .u32 ((rd_T37 ((rd_T35 l0 t157).f1) Aa).f1.f3))).heap[Aj]? = some (.cells #[.int .i64 a1_0, .int .i64 a1_1, .int .i64 a1_2, .int .u32 a1_3] 25 (0, 0))) := ⟨kX1 Ac.out Al.out⟩
   have n1_ : Aside0 ((((((w25.setCell ⟨Ab, 0, none⟩ (.int .i64 ((rd_T37 ((rd_T35 l0 t157).f1) Aa).f0))).setCell ⟨Ab, 1, none⟩ (.int .i64 ((rd_T37 ((rd_T35 l0 t157).f1) Aa).f1.f0))).setCell ⟨Ab, 2, none⟩ (.int .i64 ((rd_T37 ((rd_T35 l0 t157).f1) Aa).f1.f1))).setCell ⟨Ab, 3, none⟩ (.int .i64 ((rd_T37 ((rd_T35 l0 t157).f1) Aa).f1.f2))).setCell ⟨Ab, 4, none⟩ (.int .u32 ((rd_T37 ((rd_T35 l0 t157).f1) Aa).f1.f3))).heap[Ai]? = some (.cells #[.int .i64 Ax, .int .i64 Ay, .int .i64 Az, .int .u32 A1] 25 (0, 0))) := ⟨kX1 Ae.out An.out⟩
   have n2_ : Aside0 ((((((w25.setCell ⟨Ab, 0, none⟩ (.int .i64 ((rd_T37 ((rd_T35 l0 t157).f1) Aa).f0))).setCell ⟨Ab, 1, none⟩ (.int .i64 ((rd_T37 ((rd_T35 l0 t157).f1) Aa).f1.f0))).setCell ⟨Ab, 2, none⟩ (.int .i64 ((rd_T37 ((rd_T35 l0 t157).f1) Aa).f1.f1))).setCell ⟨Ab, 3, none⟩ (.int .i64 ((rd_T37 ((rd_T35 l0 t157).f1) Aa).f1.f2))).setCell ⟨Ab, 4, none⟩ (.int .u32 ((rd_T37 ((rd_T35 l0 t157).f1) Aa).f1.f3))).heap[Ab]? = some (.cells #[.int .i64 ((rd_T37 ((rd_T35 l0 t157).f1) Aa).f0), .int .i64 ((rd_T37 ((rd_T35 l0 t157).f1) Aa).f1.f0), .int .i64 ((rd_T37 ((rd_T35 l0 t157).f1) Aa).f1.f1), .int .i64 ((rd_T37 ((rd_T35 l0 t157).f1) Aa).f1.f2), .int .u32 ((rd_T37 ((rd_T35 l0 t157).f1) Aa).f1.f3)] 37 (0, 0))) := ⟨kX0 Ad.out⟩
   have n3_ : Aside0 (Below w.heap.size w (((((w25.setCell ⟨Ab, 0, none⟩ (.int .i64 ((rd_T37 ((rd_T35 l0 t157).f1) Aa).f0))).setCell ⟨Ab, 1, none⟩ (.int .i64 ((rd_T37 ((rd_T35 l0 t157).f1) Aa).f1.f0))).setCell ⟨Ab, 2, none⟩ (.int .i64 ((rd_T37 ((rd_T35 l0 t157).f1) Aa).f1.f1))).setCell ⟨Ab, 3, none⟩ (.int .i64 ((rd_T37 ((rd_T35 l0 t157).f1) Aa).f1.f2))).setCell ⟨Ab, 4, none⟩ (.int .u32 ((rd_T37 ((rd_T35 l0 t157).f1) Aa).f1.f3)))) := ⟨pE3 HB.out Ah.out Ak.out A2.out⟩
   (try clear Ac)
   (try clear Ae)
   (try clear Ad)
   (try clear HB)
   generalize (((((w25.setCell ⟨Ab, 0, none⟩ (.int .i64 ((rd_T37 ((rd_T35 l0 t157).f1) Aa).f0))).setCell ⟨Ab, 1, none⟩ (.int .i64 ((rd_T37 ((rd_T35 l0 t157).f1) Aa).f1.f0))).setCell ⟨Ab, 2, none⟩ (.int .i64 ((rd_T37 ((rd_T35 l0 t157).f1) Aa).f1.f1))).setCell ⟨Ab, 3, none⟩ (.int .i64 ((rd_T37 ((rd_T35 l0 t157).f1) Aa).f1.f2))).setCell ⟨Ab, 4, none⟩ (.int .u32 ((rd_T37 ((rd_T35 l0 t157).f1) Aa).f1.f3))) = w31 at n0_ n1_ n2_ n3_ ⊢
   have Ac := n0_
   have Ae := n1_
   have Ad := n2_
   have HB := n3_
   clear n0_ n1_ n2_ n3_
   replace Ac := kDa Ac
   replace Ae := kDa Ae
   replace Ad := kDa Ad
   replace HB := bDa HB
   have q33 : ((ji21) : Int) ≤ ((l0.length : Int) : Int) := of_decide_eq_true pS
   obtain ⟨i033, hi033, _, B0, _⟩ := info_parts info35
   have Bm : l0.length ≤ c0 := HC0.out
   have Ci : Kd.C k35 _ (some A8) l0.length l0 := HR0.out
   have q033 : (0 : Int) ≤ ((ji21) : Int) := of_decide_eq_true pS
   have Ch := cut_from (P := Try.prog) 30 35 .i64 Try.underlying30 hi033 2 B0 (some A8) l0.length c0 (ji21) q033 q33
   have Bo := Kd.C_drop (m := ((ji21) : Int).toNat) (c := c0) Ci (by omega) Bm
   obtain ⟨A33, hA33⟩ : ∃ AX_, AX_ = (if c0 = ((ji21) : Int).toNat then (some A8) else ((some A8) : Option Addr).map (·.add (((ji21) : Int).toNat * 2))) := ⟨_, rfl⟩
   obtain ⟨c33, hc33⟩ : ∃ cX_, cX_ = c0 - ((ji21) : Int).toNat := ⟨_, rfl⟩
   have hy33 : y162.length = l0.length - ((ji21) : Int).toNat := (by rw [Ny162.out, List.length_drop] <;> omega)
   rw [show (l0).drop ((ji21) : Int).toNat = y162 from Ny162.out.symm] at Bo
   replace Bo : Kd.C k35 _ A33 y162.length y162 := (by rw [hA33]; exact Bo)
   rw [← hy33, ← hA33, ← hc33] at Ch
   have HR165 := Am Bo
   have HC165 := Am (show y162.length ≤ c33 from by rw [hy33, hc33]; exact Nat.sub_le_sub_right Bm _)
   clear Bo Ci Bm hi033 B0 hc33
   have KY33 := Am hy33
   have KA33 := Am hA33
   clear hy33 hA33
   replace q33 := eq_true q33
   refine start_ (n := 15) (S := fun w' => w'.cell? ⟨Ab, 0, none⟩ = some (.int .i64 ((rd_T37 ((rd_T35 l0 t157).f1) Aa).f0)) ∧ w'.cell? ⟨Ab, 1, none⟩ = some (.int .i64 ((rd_T37 ((rd_T35 l0 t157).f1) Aa).f1.f0)) ∧ w'.cell? ⟨Ab, 2, none⟩ = some (.int .i64 ((rd_T37 ((rd_T35 l0 t157).f1) Aa).f1.f1)) ∧ w'.cell? ⟨Ab, 3, none⟩ = some (.int .i64 ((rd_T37 ((rd_T35 l0 t157).f1) Aa).f1.f2)) ∧ w'.cell? ⟨Ab, 4, none⟩ = some (.int .u32 ((rd_T37 ((rd_T35 l0 t157).f1) Aa).f1.f3))) (ds := []) #[false, false, false, false, false, false, false, false, false, false, false, false, false, false, false] (by kernel_rfl) rfl rfl ⟨(blk_cell Ad.out 0).trans rfl, (blk_cell Ad.out 1).trans rfl, (blk_cell Ad.out 2).trans rfl, (blk_cell Ad.out 3).trans rfl, (blk_cell Ad.out 4).trans rfl⟩ (fun hHeld => ?_); refine with_tabW garnerref21_Find.tab9 garnerref21_Find.bits9 (fun HT_ HW_ => ?_)
   generalize w31.drew = w32 at Ac Ae Ad HB HR165 hHeld ⊢
   refine pui 0 60 15 1 HT_ ?_
   refine pui 1 61 15 3 HT_ ?_
   refine pui 2 62 15 7 HT_ ?_
   refine pui 3 63 15 15 HT_ ?_
   refine pui 4 64 15 31 HT_ ?_
   refine tki 5 65 15 63 HT_ HW_ hHeld ?_
   refine join_ (σ := Nat) 3 #[true, true, true, true, true, true, true, true, true, true, true, true, false, false, false] (fun s_ => [(66, .tuple #[.agg #[.int .i64 t166, .int .i64 t167, .int .i64 t168, .int .u32 t169], .int .i64 t170, .bool t171]), (10, .pointer (some ⟨s_, 0, none⟩)), (59, .tuple #[.agg #[.int .i64 t166, .int .i64 t167, .int .i64 t168, .int .u32 t169], .int .i64 t170, .bool t171]), (67, .agg #[.int .i64 t166, .int .i64 t167, .int .i64 t168, .int .u32 t169]), (68, .int .i64 t170), (69, .bool t171)]) (fun s_ w' => (w'.cell? ⟨Ab, 0, none⟩ = some (.int .i64 ((rd_T37 ((rd_T35 l0 t157).f1) Aa).f0)) ∧ w'.cell? ⟨Ab, 1, none⟩ = some (.int .i64 ((rd_T37 ((rd_T35 l0 t157).f1) Aa).f1.f0)) ∧ w'.cell? ⟨Ab, 2, none⟩ = some (.int .i64 ((rd_T37 ((rd_T35 l0 t157).f1) Aa).f1.f1)) ∧ w'.cell? ⟨Ab, 3, none⟩ = some (.int .i64 ((rd_T37 ((rd_T35 l0 t157).f1) Aa).f1.f2)) ∧ w'.cell? ⟨Ab, 4, none⟩ = some (.int .u32 ((rd_T37 ((rd_T35 l0 t157).f1) Aa).f1.f3))) ∧ (w'.heap[Aj]? = some (.cells #[.int .i64 a1_0, .int .i64 a1_1, .int .i64 a1_2, .int .u32 a1_3] 25 (0, 0))) ∧ (w'.heap[Ai]? = some (.cells #[.int .i64 Ax, .int .i64 Ay, .int .i64 Az, .int .u32 A1] 25 (0, 0))) ∧ (w'.heap[Ab]? = some (.cells #[.int .i64 ((rd_T37 ((rd_T35 l0 t157).f1) Aa).f0), .int .i64 ((rd_T37 ((rd_T35 l0 t157).f1) Aa).f1.f0), .int .i64 ((rd_T37 ((rd_T35 l0 t157).f1) Aa).f1.f1), .int .i64 ((rd_T37 ((rd_T35 l0 t157).f1) Aa).f1.f2), .int .u32 ((rd_T37 ((rd_T35 l0 t157).f1) Aa).f1.f3)] 37 (0, 0))) ∧ (w'.heap[s_]? = some (.cells #[.int .i64 0, .int .i64 0, .int .i64 0, .int .u32 0] 25 (0, 0))) ∧ (w.heap.size ≤ s_) ∧ (w.heap.size ≤ s_) ∧ (Aj ≠ s_) ∧ (s_ ≠ Aj) ∧ (Ai ≠ s_) ∧ (s_ ≠ Ai) ∧ (Ab ≠ s_) ∧ (s_ ≠ Ab) ∧ (Below w.heap.size w w')) ?_ ?_
   rotate_left
   ·intro hCont
    refine two_ (i := 6) (j := 11) (Ni := some 66) (Nj := some 10) (bw 15 127) #[true, true, true, true, true, true, false, false, false, false, false, true, false, false, false] rfl rfl rfl rfl (two_of HT_.out (by kernel_rfl)) (by decide) (by decide) (fun K hK => ?_) (fun K hK => ?_)
    ·skip
     refine goes_ Try.func13 (by kernel_rfl) rfl #[.slice A33 y162.length c33, .agg #[.int .i64 ((rd_T37 ((rd_T35 l0 t157).f1) Aa).f1.f0), .int .i64 ((rd_T37 ((rd_T35 l0 t157).f1) Aa).f1.f1), .int .i64 ((rd_T37 ((rd_T35 l0 t157).f1) Aa).f1.f2), .int .u32 ((rd_T37 ((rd_T35 l0 t157).f1) Aa).f1.f3)]] (by rfl) rfl rfl pL ?_
     with_reducible refine (ih k1 (by have := HK1.out; omega) _ _ y162 ((rd_T37 ((rd_T35 l0 t157).f1) Aa).f1.f0) ((rd_T37 ((rd_T35 l0 t157).f1) Aa).f1.f1) ((rd_T37 ((rd_T35 l0 t157).f1) Aa).f1.f2) ((rd_T37 ((rd_T35 l0 t157).f1) Aa).f1.f3) t166 t167 t168 t169 t170 t171 _ ?Bd ?Be A24.out).mono ?_
     (case Bd => exact pC (Kd.C_below HR165.out HB.out))
     (case Be => exact HC165.out)
     rintro e w34 ⟨rfl, hb⟩
     refine ⟨_, rfl, ?_⟩
     replace Ac := kBa Ac hb
     replace Ae := kBa Ae hb
     replace Ad := kBa Ad hb
     replace HB := Am (below_step (pE3 HB.out Ah.out Ak.out A2.out) hb)
     (try clear hb)
     (try clear hb2)
     (try clear hk)
     (try clear hi)
     refine hK.out _ _ ⟨(blk_cell Ad.out 0).trans rfl, (blk_cell Ad.out 1).trans rfl, (blk_cell Ad.out 2).trans rfl, (blk_cell Ad.out 3).trans rfl, (blk_cell Ad.out 4).trans rfl⟩ (fun hHeld => ?_)
     clear hK K
     refine norm_ (a' := ?_) ?_ ?_
     rotate_left
     ·show Act.put _ (some 66) _ = _
      simp only [Act.put, List.setIfInBounds_toArray, List.set_cons_zero, List.set_cons_succ, i64_w, i32_w]
      rfl
     refine pui 7 59 15 255 HT_ ?_
     refine pui 8 67 15 511 HT_ ?_
     refine pui 9 68 15 1023 HT_ ?_
     refine pui 10 69 15 2047 HT_ ?_
     refine onei 11 10 15 4095 HT_ (fun K hK => ?_)
     refine box_step ?hg (N := 10) ?hd (cs := #[.int .i64 0, .int .i64 0, .int .i64 0, .int .u32 0]) (t := 25) ?hr ?_; (case hd => rfl); (case hg => rfl); (case hr => first | (go_simp; done) | (go_simp; rfl))
     intro Ag hg w35 hbox hb
     have A6 := Am (hbox)
     have Bn := Am ((by rw [hg]; exact (below_size (pE3 HB.out Ah.out Ak.out A2.out)) : w.heap.size ≤ Ag))
     have A9 := Am ((by rw [hg]; exact (below_size (pE3 HB.out Ah.out Ak.out A2.out)) : w.heap.size ≤ Ag))
     replace HB := Am (below_step (pE3 HB.out Ah.out Ak.out A2.out) hb)
     have Ar := Am ((by rw [hg]; exact Nat.ne_of_lt (kL Ac.out) : Aj ≠ Ag))
     have As := Am ((by rw [hg]; exact Nat.ne_of_gt (kL Ac.out) : Ag ≠ Aj))
     replace Ac := kBa Ac hb
     have Ao := Am ((by rw [hg]; exact Nat.ne_of_lt (kL Ae.out) : Ai ≠ Ag))
     have At := Am ((by rw [hg]; exact Nat.ne_of_gt (kL Ae.out) : Ag ≠ Ai))
     replace Ae := kBa Ae hb
     have Af := Am ((by rw [hg]; exact Nat.ne_of_lt (kL Ad.out) : Ab ≠ Ag))
     have Au := Am ((by rw [hg]; exact Nat.ne_of_gt (kL Ad.out) : Ag ≠ Ab))
     replace Ad := kBa Ad hb
     clear hb hbox hg
     refine hK.out _ _ ⟨(blk_cell Ad.out 0).trans rfl, (blk_cell Ad.out 1).trans rfl, (blk_cell Ad.out 2).trans rfl, (blk_cell Ad.out 3).trans rfl, (blk_cell Ad.out 4).trans rfl⟩ (fun hHeld => ?_)
     clear hK K
     refine norm_ (a' := ?_) ?_ ?_
     rotate_left
     ·show Act.put _ (some 10) _ = _
      simp only [Act.put, List.setIfInBounds_toArray, List.set_cons_zero, List.set_cons_succ, i64_w, i32_w]
      rfl
     exact norm_ (by simp only [putAll, Act.put, List.setIfInBounds_toArray, List.set_cons_zero, List.set_cons_succ]) (hCont (Ag) _ ⟨hHeld, (pK Ac.out), (pK Ae.out), (pK Ad.out), (pK A6.out), Bn.out, A9.out, Ar.out, As.out, Ao.out, At.out, Af.out, Au.out, (pE4 HB.out Ah.out Ak.out A2.out A9.out)⟩)
    skip
    refine box_step ?hg (N := 10) ?hd (cs := #[.int .i64 0, .int .i64 0, .int .i64 0, .int .u32 0]) (t := 25) ?hr ?_; (case hd => rfl); (case hg => rfl); (case hr => first | (go_simp; done) | (go_simp; rfl))
    intro Ag hg w34 hbox hb
    have A6 := Am (hbox)
    have Bn := Am ((by rw [hg]; exact (below_size (pE3 HB.out Ah.out Ak.out A2.out)) : w.heap.size ≤ Ag))
    have A9 := Am ((by rw [hg]; exact (below_size (pE3 HB.out Ah.out Ak.out A2.out)) : w.heap.size ≤ Ag))
    replace HB := Am (below_step (pE3 HB.out Ah.out Ak.out A2.out) hb)
    have Ar := Am ((by rw [hg]; exact Nat.ne_of_lt (kL Ac.out) : Aj ≠ Ag))
    have As := Am ((by rw [hg]; exact Nat.ne_of_gt (kL Ac.out) : Ag ≠ Aj))
    replace Ac := kBa Ac hb
    have Ao := Am ((by rw [hg]; exact Nat.ne_of_lt (kL Ae.out) : Ai ≠ Ag))
    have At := Am ((by rw [hg]; exact Nat.ne_of_gt (kL Ae.out) : Ag ≠ Ai))
    replace Ae := kBa Ae hb
    have Af := Am ((by rw [hg]; exact Nat.ne_of_lt (kL Ad.out) : Ab ≠ Ag))
    have Au := Am ((by rw [hg]; exact Nat.ne_of_gt (kL Ad.out) : Ag ≠ Ab))
    replace Ad := kBa Ad hb
    clear hb hbox hg
    refine hK.out _ _ ⟨(blk_cell Ad.out 0).trans rfl, (blk_cell Ad.out 1).trans rfl, (blk_cell Ad.out 2).trans rfl, (blk_cell Ad.out 3).trans rfl, (blk_cell Ad.out 4).trans rfl⟩ (fun hHeld => ?_)
    clear hK K
    refine norm_ (a' := ?_) ?_ ?_
    rotate_left
    ·show Act.put _ (some 10) _ = _
     simp only [Act.put, List.setIfInBounds_toArray, List.set_cons_zero, List.set_cons_succ, i64_w, i32_w]
     rfl
    refine onei 6 66 15 2175 HT_ (fun K hK => ?_)
    refine goes_ Try.func13 (by kernel_rfl) rfl #[.slice A33 y162.length c33, .agg #[.int .i64 ((rd_T37 ((rd_T35 l0 t157).f1) Aa).f1.f0), .int .i64 ((rd_T37 ((rd_T35 l0 t157).f1) Aa).f1.f1), .int .i64 ((rd_T37 ((rd_T35 l0 t157).f1) Aa).f1.f2), .int .u32 ((rd_T37 ((rd_T35 l0 t157).f1) Aa).f1.f3)]] (by rfl) rfl rfl pL ?_
    with_reducible refine (ih k1 (by have := HK1.out; omega) _ _ y162 ((rd_T37 ((rd_T35 l0 t157).f1) Aa).f1.f0) ((rd_T37 ((rd_T35 l0 t157).f1) Aa).f1.f1) ((rd_T37 ((rd_T35 l0 t157).f1) Aa).f1.f2) ((rd_T37 ((rd_T35 l0 t157).f1) Aa).f1.f3) t166 t167 t168 t169 t170 t171 _ ?Bd ?Be A24.out).mono ?_
    (case Bd => exact pC (Kd.C_below HR165.out HB.out))
    (case Be => exact HC165.out)
    rintro e w35 ⟨rfl, hb⟩
    refine ⟨_, rfl, ?_⟩
    replace Ac := kBa Ac hb
    replace Ae := kBa Ae hb
    replace Ad := kBa Ad hb
    replace A6 := kBa A6 hb
    replace HB := Am (below_step (pE4 HB.out Ah.out Ak.out A2.out A9.out) hb)
    (try clear hb)
    (try clear hb2)
    (try clear hk)
    (try clear hi)
    refine hK.out _ _ ⟨(blk_cell Ad.out 0).trans rfl, (blk_cell Ad.out 1).trans rfl, (blk_cell Ad.out 2).trans rfl, (blk_cell Ad.out 3).trans rfl, (blk_cell Ad.out 4).trans rfl⟩ (fun hHeld => ?_)
    clear hK K
    refine norm_ (a' := ?_) ?_ ?_
    rotate_left
    ·show Act.put _ (some 66) _ = _
     simp only [Act.put, List.setIfInBounds_toArray, List.set_cons_zero, List.set_cons_succ, i64_w, i32_w]
     rfl
    refine pui 7 59 15 2303 HT_ ?_
    refine pui 8 67 15 2559 HT_ ?_
    refine pui 9 68 15 3071 HT_ ?_
    refine pui 10 69 15 4095 HT_ ?_
    exact norm_ (by simp only [putAll, Act.put, List.setIfInBounds_toArray, List.set_cons_zero, List.set_cons_succ]) (hCont (Ag) _ ⟨hHeld, (pK Ac.out), (pK Ae.out), (pK Ad.out), (pK A6.out), Bn.out, A9.out, Ar.out, As.out, Ao.out, At.out, Af.out, Au.out, (pE4 HB.out Ah.out Ak.out A2.out A9.out)⟩)
   rintro Ag w36 ⟨hS_, h0_, h1_, h2_, h3_, h4_, h5_, h6_, h7_, h8_, h9_, h10_, h11_, h12_⟩
   replace Ac : Aside0 (w36.heap[Aj]? = some (.cells #[.int .i64 a1_0, .int .i64 a1_1, .int .i64 a1_2, .int .u32 a1_3] 25 (0, 0))) := ⟨h0_⟩
   replace Ae : Aside0 (w36.heap[Ai]? = some (.cells #[.int .i64 Ax, .int .i64 Ay, .int .i64 Az, .int .u32 A1] 25 (0, 0))) := ⟨h1_⟩
   replace Ad : Aside0 (w36.heap[Ab]? = some (.cells #[.int .i64 ((rd_T37 ((rd_T35 l0 t157).f1) Aa).f0), .int .i64 ((rd_T37 ((rd_T35 l0 t157).f1) Aa).f1.f0), .int .i64 ((rd_T37 ((rd_T35 l0 t157).f1) Aa).f1.f1), .int .i64 ((rd_T37 ((rd_T35 l0 t157).f1) Aa).f1.f2), .int .u32 ((rd_T37 ((rd_T35 l0 t157).f1) Aa).f1.f3)] 37 (0, 0))) := ⟨h2_⟩
   have A6 : Aside0 (w36.heap[Ag]? = some (.cells #[.int .i64 0, .int .i64 0, .int .i64 0, .int .u32 0] 25 (0, 0))) := ⟨h3_⟩
   have Bn : Aside0 (w.heap.size ≤ Ag) := ⟨h4_⟩
   have A9 : Aside0 (w.heap.size ≤ Ag) := ⟨h5_⟩
   have Ar : Aside0 (Aj ≠ Ag) := ⟨h6_⟩
   have As : Aside0 (Ag ≠ Aj) := ⟨h7_⟩
   have Ao : Aside0 (Ai ≠ Ag) := ⟨h8_⟩
   have At : Aside0 (Ag ≠ Ai) := ⟨h9_⟩
   have Af : Aside0 (Ab ≠ Ag) := ⟨h10_⟩
   have Au : Aside0 (Ag ≠ Ab) := ⟨h11_⟩
   replace HB : Aside0 (Below w.heap.size w w36) := ⟨h12_⟩
   clear h0_ h1_ h2_ h3_ h4_ h5_ h6_ h7_ h8_ h9_ h10_ h11_ h12_
   have hHeld : w36.cell? ⟨Ab, 0, none⟩ = some (.int .i64 ((rd_T37 ((rd_T35 l0 t157).f1) Aa).f0)) ∧ w36.cell? ⟨Ab, 1, none⟩ = some (.int .i64 ((rd_T37 ((rd_T35 l0 t157).f1) Aa).f1.f0)) ∧ w36.cell? ⟨Ab, 2, none⟩ = some (.int .i64 ((rd_T37 ((rd_T35 l0 t157).f1) Aa).f1.f1)) ∧ w36.cell? ⟨Ab, 3, none⟩ = some (.int .i64 ((rd_T37 ((rd_T35 l0 t157).f1) Aa).f1.f2)) ∧ w36.cell? ⟨Ab, 4, none⟩ = some (.int .u32 ((rd_T37 ((rd_T35 l0 t157).f1) Aa).f1.f3)) := hS_
   refine norm_ (a' := ?_) ?_ ?_
   rotate_left
   ·simp only [putAll, Act.put, List.setIfInBounds_toArray, List.set_cons_zero, List.set_cons_succ]
    rfl
   refine one_ (i := 12) (N := none) (bw 15 8191) rfl rfl (one_of HT_.out (by kernel_rfl)) (by decide) (fun K hK => ?_)
   have hs37 : w36.cell? ⟨Ag, 0, none⟩ = some (.int .i64 0) := (blk_cell A6.out 0).trans rfl
   have hfs37 := blk_frozen A6.out 0
   have hns37_0 := Ar.out
   have hns37_1 := Ao.out
   have hns37_2 := Af.out
   have hms37_0 := As.out
   have hms37_1 := At.out
   have hms37_2 := Au.out
   have hs38 : w36.cell? ⟨Ag, 1, none⟩ = some (.int .i64 0) := (blk_cell A6.out 1).trans rfl
   have hfs38 := blk_frozen A6.out 1
   have hns38_0 := Ar.out
   have hns38_1 := Ao.out
   have hns38_2 := Af.out
   have hms38_0 := As.out
   have hms38_1 := At.out
   have hms38_2 := Au.out
   have hs39 : w36.cell? ⟨Ag, 2, none⟩ = some (.int .i64 0) := (blk_cell A6.out 2).trans rfl
   have hfs39 := blk_frozen A6.out 2
   have hns39_0 := Ar.out
   have hns39_1 := Ao.out
   have hns39_2 := Af.out
   have hms39_0 := As.out
   have hms39_1 := At.out
   have hms39_2 := Au.out
   have hs40 : w36.cell? ⟨Ag, 3, none⟩ = some (.int .u32 0) := (blk_cell A6.out 3).trans rfl
   have hfs40 := blk_frozen A6.out 3
   have hns40_0 := Ar.out
   have hns40_1 := Ao.out
   have hns40_2 := Af.out
   have hms40_0 := As.out
   have hms40_1 := At.out
   have hms40_2 := Au.out
   refine skip_ (w1 := ?_) (by rfl) rfl ?_ ?_
   rotate_left
   ·go_simp
    rfl
   refine hK.out _ _ ⟨(cX1 hHeld.1 Af.out), (cX1 hHeld.2.1 Af.out), (cX1 hHeld.2.2.1 Af.out), (cX1 hHeld.2.2.2.1 Af.out), (cX1 hHeld.2.2.2.2 Af.out)⟩ (fun hHeld => ?_)
   clear hK K
   refine pui 13 11 15 16383 HT_ ?_
   refine pui 14 12 15 32767 HT_ ?_
   refine done_ (done_of HT_.out (by kernel_rfl)) ?_
   have hnb41 := As.out
   have hnc41 := Ar.out
   have hnb42 := At.out
   have hnc42 := Ao.out
   have hnb43 := Au.out
   have hnc43 := Af.out
   obtain ⟨_, _, _, _⟩ := bc4 A6.out
   obtain ⟨_, _, _, _⟩ := bf4 A6.out
   obtain ⟨_, _, _, _⟩ := bc4 Ae.out
   obtain ⟨_, _, _, _⟩ := bf4 Ae.out
   try go_wp2
   refine bodyPost_ret (results_ctt rfl _ _ Ai 25 #[.int .i64 t166, .int .i64 t167, .int .i64 t168, .int .u32 t169] (0, 0) _ rfl (kX1 Ae.out Ao.out) Try.underlying25 rfl (by kernel_rfl)) rfl ?_
   exact ⟨by first | rfl | (simp [errW_none, errW_some] <;> rfl) | (simp only [← hji21]; first | rfl | (simp [errW_none, errW_some] <;> rfl)) | (simp [*, errW_none, errW_some] <;> rfl), pE4 HB.out Ah.out Ak.out A2.out A9.out⟩
end
section
def gat {α : Type} (k : Int) : List (Int × α) → Option α
 | [] => none
 | p :: r => if p.1 = k then some p.2 else gat k r
def gput {α : Type} (k : Int) (v : α) : List (Int × α) → List (Int × α)
 | [] => [(k, v)]
 | p :: r => if p.1 = k then (k, v) :: r else p :: gput k v r
def gdel {α : Type} (k : Int) : List (Int × α) → List (Int × α)
 | [] => []
 | p :: r => if p.1 = k then r else p :: gdel k r
theorem gat_map {α β : Type} (f : α → β) (k : Int) : ∀ g : List (Int × α), gat k (g.map fun p => (p.1, f p.2)) = (gat k g).map f
 | [] => rfl
 | p :: r => by
  simp only [List.map_cons, gat, gat_map f k r]
  split <;> rfl
theorem gput_map {α β : Type} (f : α → β) (k : Int) (v : α) : ∀ g : List (Int × α), gput k (f v) (g.map fun p => (p.1, f p.2)) = (gput k v g).map fun p => (p.1, f p.2)
 | [] => rfl
 | p :: r => by
  simp only [List.map_cons, gput, gput_map f k v r]
  split <;> rfl
theorem gdel_map {α β : Type} (f : α → β) (k : Int) : ∀ g : List (Int × α), gdel k (g.map fun p => (p.1, f p.2)) = (gdel k g).map fun p => (p.1, f p.2)
 | [] => rfl
 | p :: r => by
  simp only [List.map_cons, gdel, gdel_map f k r]
  split <;> rfl
theorem gat_mem {α : Type} {k : Int} {v : α} : ∀ {g : List (Int × α)}, gat k g = some v → (k, v) ∈ g
 | [], h => by simp [gat] at h
 | p :: r, h => by
  obtain ⟨a, b⟩ := p
  simp only [gat] at h
  split at h
  ·rename_i e
   cases h
   subst e
   exact List.mem_cons_self
  ·exact List.mem_cons_of_mem _ (gat_mem h)
theorem gput_mem {α : Type} {k : Int} {v : α} {p : Int × α} : ∀ {g : List (Int × α)}, p ∈ gput k v g → p = (k, v) ∨ p ∈ g
 | [], h => by simp [gput] at h; exact .inl h
 | q :: r, h => by
  simp only [gput] at h
  split at h
  ·rcases List.mem_cons.1 h with h | h
   ·exact .inl h
   ·exact .inr (List.mem_cons_of_mem _ h)
  ·rcases List.mem_cons.1 h with h | h
   ·exact .inr (h ▸ List.mem_cons_self)
   ·exact (gput_mem h).imp id (List.mem_cons_of_mem _)
theorem gdel_mem {α : Type} {k : Int} {p : Int × α} : ∀ {g : List (Int × α)}, p ∈ gdel k g → p ∈ g
 | [], h => by simp [gdel] at h
 | q :: r, h => by
  simp only [gdel] at h
  split at h
  ·exact List.mem_cons_of_mem _ h
  ·rcases List.mem_cons.1 h with h | h
   ·exact h ▸ List.mem_cons_self
   ·exact List.mem_cons_of_mem _ (gdel_mem h)
/-- Block m of w is a map whose entries are these, in the order of memory. -/
def IM (w : World) (m : Nat) (g : List (Int × Value)) : Prop := ∃ es c, w.heap[m]? = some (.map es c) ∧ es.toList.map (fun e => (e.key, e.val)) = g.map (fun p => (Value.int .i64 p.1, p.2)) ∧ MapKept.Stamped es c
theorem IM.lt {w : World} {m : Nat} {g : List (Int × Value)} (h : IM w m g) : m < w.heap.size := by
 obtain ⟨es, c, h, _⟩ := h
 exact (Array.getElem?_eq_some_iff.1 h).1
theorem IM.move {w w1 : World} {m : Nat} {g : List (Int × Value)} (h : IM w m g) (e : w1.heap[m]? = w.heap[m]?) : IM w1 m g := by
 obtain ⟨es, c, h, h2⟩ := h
 exact ⟨es, c, e.trans h, h2⟩
theorem IM.grown {w w1 : World} {m : Nat} {g : List (Int × Value)} {row : Option Nat} (h : IM w m g) (hg : w.grownBy w1 row) (hne : some m ≠ row) : IM w1 m g := h.move (hg.block m h.lt hne)
theorem IM.below {w w1 : World} {m : Nat} {g : List (Int × Value)} (h : IM w m g) (hg : Below w.heap.size w w1) : IM w1 m g := h.move (hg.block m h.lt)
theorem IM.made (w : World) : IM (w.alloc (.map #[] 0)) w.heap.size [] := ⟨#[], 0, (MapKept.heap_alloc w _).1, rfl, MapKept.stamped_empty 0⟩
theorem IM.chk {P : Program} {kt : TypeId} (hk : P.underlying kt = some (.int .i64)) (k : Int) (e : Bool) (W : World) : (Instr.checkKey e 10000 kt (.int .i64 k)).run P W = .ok () W := MapKept.run_checkKey hk (by simp [MapKept.IsKey]) e 9999
theorem IM.find (k : Int) : ∀ (l : List MapEntry) (g : List (Int × Value)) (i : Nat), l.map (fun e => (e.key, e.val)) = g.map (fun p => (Value.int .i64 p.1, p.2)) →
  (gat k g = none ∧ Instr.findNow (.int .i64) (.int .i64 k) l i = some none ∧ gdel k g = g ∧ (∀ u, gput k u g = g ++ [(k, u)]) ∧ ∀ x ∈ l, x.key ≠ .int .i64 k) ∨
  (∃ j v, gat k g = some v ∧ Instr.findNow (.int .i64) (.int .i64 k) l i = some (some (i + j, v)) ∧ j < l.length ∧ (l[j]?.map (·.key)) = some (.int .i64 k) ∧ (∀ u, gput k u g = g.set j (k, u)) ∧ gdel k g = g.eraseIdx j)
 | [], [], i, _ => .inl ⟨rfl, rfl, rfl, fun _ => rfl, fun x hx => by cases hx⟩
 | [], p :: r, i, h => by simp at h
 | e :: l, [], i, h => by simp at h
 | e :: l, (a, b) :: r, i, h => by
  simp only [List.map_cons, List.cons.injEq, Prod.mk.injEq] at h
  obtain ⟨⟨h1, h2⟩, h3⟩ := h
  by_cases hp : a = k
  ·subst hp
   exact .inr ⟨0, b, by simp [gat], by simp [Instr.findNow, h1, Instr.sameNow, h2], by simp, by simp [h1], fun u => by simp [gput], by simp [gdel]⟩
  ·have hb : (k == a) = false := by simp; exact fun e => hp e.symm
   rcases IM.find k l r (i + 1) h3 with ⟨q1, q2, q3, q4, q7⟩ | ⟨j, v, q1, q2, q3, q4, q5, q6⟩
   ·exact .inl ⟨by simp [gat, hp, q1], by simp [Instr.findNow, h1, Instr.sameNow, hb, q2], by simp [gdel, hp, q3], fun u => by simp [gput, hp, q4], fun x hx => by
     rcases List.mem_cons.1 hx with rfl | hx
     ·rw [h1]; intro e; cases e; exact hp rfl
     ·exact q7 x hx⟩
   ·exact .inr ⟨j + 1, v, by simp [gat, hp, q1], by simp [Instr.findNow, h1, Instr.sameNow, hb, q2]; omega, by simpa using q3, by simpa using q4, fun u => by simp [gput, hp, q5], by simp [gdel, hp, q6]⟩
section
variable {P : Program} {t kt et : TypeId} {w : World} {m : Nat} {g : List (Int × Value)}
theorem IM.turned {es : Array MapEntry} {c : Nat} (hb : w.heap[m]? = some (.map es c)) (o : Obj) : w.grownBy (ChangeMaps.setBlock w m o) (some m) :=
 ⟨rfl, rfl, rfl, by simp [ChangeMaps.setBlock], fun i _ hi => ChangeMaps.heap_setBlock_other hb _ (fun e => hi (by rw [e]))⟩
theorem IM.upd (ht : P.underlying t = some (.map kt et)) (hk : P.underlying kt = some (.int .i64)) (h : IM w m g) (k : Int) (v : Value) :
  ∃ w', (Instr.mapUpdate t (.map (some m)) (.int .i64 k) v).run P w = .ok () w' ∧ IM w' m (gput k v g) ∧ w.grownBy w' (some m) := by
 obtain ⟨es, c, hb, he, hst⟩ := h
 rcases IM.find k es.toList g 0 he with ⟨_, q2, _, q4, q7⟩ | ⟨j, u, _, q2, q3, q4, q5, _⟩
 ·refine ⟨ChangeMaps.setBlock w m (.map (es.push { key := .int .i64 k, val := v, born := c }) (c + 1)), ?_, ⟨_, _, ChangeMaps.heap_setBlock_same hb _, ?_, MapKept.stamped_push hst q7⟩, IM.turned hb _⟩
  ·simp [Instr.mapUpdate, run_underlying ht, run_underlying hk, MapKept.run_getObj_map hb, IM.chk hk, Instr.findKey, q2, MapKept.run_setObj_map _ hb, Result.andThen, ChangeMaps.setBlock]
  ·rw [q4]
   simp [he]
 ·obtain ⟨e0, hj⟩ : ∃ e0, es[j]? = some e0 := ⟨_, Array.getElem?_eq_getElem (by simpa using q3)⟩
  have hkey : e0.key = .int .i64 k := by simpa [hj] using q4
  refine ⟨ChangeMaps.setBlock w m (.map (es.modify j (fun e' => { e' with key := .int .i64 k, val := v })) c), ?_, ⟨_, _, ChangeMaps.heap_setBlock_same hb _, ?_, MapKept.stamped_modify hst j _ (fun _ _ => rfl) (fun e' _ he' => by rw [hj] at he'; cases he'; exact hkey.symm)⟩, IM.turned hb _⟩
  ·have hs : (Instr.keyThatStays (.int .i64 k) (.int .i64 k)).run P w = .ok (.int .i64 k) w := by simp [Instr.keyThatStays, Instr.sameBits]
   simp [Instr.mapUpdate, run_underlying ht, run_underlying hk, MapKept.run_getObj_map hb, IM.chk hk, Instr.findKey, q2, hj, hkey, hs, MapKept.run_setObj_map _ hb, Result.andThen, ChangeMaps.setBlock]
  ·rw [q5, Array.toList_modify, ChangeMaps.modify_eq_set _ _ _ e0 (by simpa using hj), List.map_set, he, List.map_set]
theorem IM.look (ht : P.underlying t = some (.map kt et)) (hk : P.underlying kt = some (.int .i64)) (h : IM w m g) (k : Int) (ok : Bool) (z : Value) (hz : (zeroValue et).run P w = .ok z w) :
  (Instr.lookup t (.map (some m)) (.int .i64 k) ok).run P w = .ok (if ok then .tuple #[(gat k g).getD z, .bool (gat k g).isSome] else (gat k g).getD z) w := by
 obtain ⟨es, c, hb, he, _⟩ := h
 rcases IM.find k es.toList g 0 he with ⟨q1, q2, _⟩ | ⟨j, u, q1, q2, q3, q4, q5, _⟩
 ·simp [Instr.lookup, run_underlying ht, run_underlying hk, MapKept.run_getObj_map hb, IM.chk hk, Instr.findKey, q2, q1, Result.andThen, hz]
 ·simp [Instr.lookup, run_underlying ht, run_underlying hk, MapKept.run_getObj_map hb, IM.chk hk, Instr.findKey, q2, q1, Result.andThen]
theorem IM.del (ht : P.underlying t = some (.map kt et)) (hk : P.underlying kt = some (.int .i64)) (h : IM w m g) (k : Int) (ty : TypeId) :
  ∃ w', (Builtin.delete_ #[t, kt] ty #[.map (some m), .int .i64 k]).run P w = .ok (.tuple #[]) w' ∧ IM w' m (gdel k g) ∧ w.grownBy w' (some m) := by
 obtain ⟨es, c, hb, he, hst⟩ := h
 rcases IM.find k es.toList g 0 he with ⟨_, q2, q3, _, _⟩ | ⟨j, u, _, q2, q3, q4, _, q6⟩
 ·refine ⟨ChangeMaps.setBlock w m (.map es c), ?_, ⟨_, _, ChangeMaps.heap_setBlock_same hb _, ?_, hst⟩, IM.turned hb _⟩
  ·simp [Builtin.delete_, run_underlying ht, run_underlying hk, MapKept.run_getObj_map hb, IM.chk hk, Instr.findKey, q2, MapKept.run_setObj_map _ hb, Result.andThen, ChangeMaps.setBlock]
  ·rw [q3, he]
 ·refine ⟨ChangeMaps.setBlock w m (.map (es.eraseIdxIfInBounds j) c), ?_, ⟨_, _, ChangeMaps.heap_setBlock_same hb _, ?_, MapKept.stamped_erase hst j⟩, IM.turned hb _⟩
  ·simp [Builtin.delete_, run_underlying ht, run_underlying hk, MapKept.run_getObj_map hb, IM.chk hk, Instr.findKey, q2, MapKept.run_setObj_map _ hb, Result.andThen, ChangeMaps.setBlock]
  ·have h1 : (es.eraseIdxIfInBounds j).toList = es.toList.eraseIdx j := by
    rw [Array.eraseIdxIfInBounds, dif_pos (by simpa using q3)]
    simp
   rw [q6, h1, ChangeMaps.map_eraseIdx, he, ← ChangeMaps.map_eraseIdx]
end
section
variable {P : Program} {ops : Array Oper} {rest : List Oper} {o : Oper} {a : Act} {Q : Exit → Act → World → Prop}
theorem wpUpd (w : World) (hg : o.guard = none) (m x v : Operand) (t : TypeId) (hop : o.op = Op.mapUpdate t m x v) {kt et : TypeId} (ht : P.underlying t = some (.map kt et)) (hk : P.underlying kt = some (.int .i64)) (M : Nat) (k : Int) (V : Value) (g : List (Int × Value))
  (hm : a.eval m = .map (some M)) (hx : a.eval x = .int .i64 k) (hv : a.eval v = V) (h : IM w M g) (hK : ∀ w', IM w' M (gput k V g) → w.grownBy w' (some M) → wpList P ops Q rest (a.put o.dst undef) w') : wpList P ops Q (o :: rest) a w := by
 refine wpList_plain hg fun K' hK' => ?_
 obtain ⟨w', hr, h1, h2⟩ := h.upd ht hk k V
 unfold Oper.wp
 simp [execOp, hop, hm, hx, hv, hr, Result.andThen]
 exact hK' _ _ (hK w' h1 h2)
theorem wpLook (w : World) (hg : o.guard = none) (m x : Operand) (t : TypeId) (ok : Bool) (hop : o.op = Op.lookup t m x ok) {kt et : TypeId} (ht : P.underlying t = some (.map kt et)) (hk : P.underlying kt = some (.int .i64)) (M : Nat) (k : Int) (g : List (Int × Value)) (z : Value)
  (hz : (zeroValue et).run P w = .ok z w) (hm : a.eval m = .map (some M)) (hx : a.eval x = .int .i64 k) (h : IM w M g)
  (hK : wpList P ops Q rest (a.put o.dst (if ok then .tuple #[(gat k g).getD z, .bool (gat k g).isSome] else (gat k g).getD z)) w) : wpList P ops Q (o :: rest) a w := by
 refine wpList_plain hg fun K' hK' => ?_
 unfold Oper.wp
 simp [execOp, hop, hm, hx, h.look ht hk k ok z hz, Result.andThen]
 exact hK' _ _ hK
theorem wpDel (w : World) (hg : o.guard = none) (m x : Operand) (t kt : TypeId) (hop : o.op = Op.call { callee := Callee.builtin Builtin.delete, args := #[m, x], argTypes := #[t, kt] }) {et : TypeId} (ht : P.underlying t = some (.map kt et)) (hk : P.underlying kt = some (.int .i64)) (M : Nat) (k : Int) (g : List (Int × Value))
  (hm : a.eval m = .map (some M)) (hx : a.eval x = .int .i64 k) (h : IM w M g) (hK : ∀ w', IM w' M (gdel k g) → w.grownBy w' (some M) → wpList P ops Q rest (a.put o.dst (.tuple #[])) w') : wpList P ops Q (o :: rest) a w := by
 refine wpList_plain hg fun K' hK' => ?_
 obtain ⟨w', hr, h1, h2⟩ := h.del ht hk k o.type
 unfold Oper.wp
 simp [execOp, hop, resolve, invoke, builtin, hm, hx, hr, Result.andThen]
 exact hK' _ _ (hK w' h1 h2)
end
end
section
def pt (x : S25) : Value := .agg #[.int .i64 x.f0, .int .i64 x.f1, .int .i64 x.f2, .int .u32 x.f3]
def IP (w : World) (m : Nat) (g : List (Int × S25)) : Prop := IM w m (g.map fun p => (p.1, pt p.2))
/-- Block b is a relay, its moves' map is block m, and the moves are these. -/
def Rl (w : World) (b m : Nat) (ms : List (Int × List (Int × S25))) : Prop :=
 w.heap[b]? = some (.cells #[.map (some m)] 61 (0, 0)) ∧ ∃ g : List (Int × (Nat × List (Int × S25))), IM w m (g.map fun p => (p.1, Value.map (some p.2.1))) ∧ (∀ p ∈ g, p.2.1 ≠ m ∧ IP w p.2.1 p.2.2) ∧ ms = g.map fun p => (p.1, p.2.2)
/-- Block m alone has turned; others are new. -/
def Tn (w w' : World) (m : Nat) : Prop := (∀ B, B ≤ w.heap.size → B ≤ m → Below B w w') ∧ ∀ k, k < w.heap.size → k ≠ m → w'.heap[k]? = w.heap[k]?
theorem Tn.of_below {w w' : World} {m : Nat} (h : Below w.heap.size w w') : Tn w w' m := ⟨fun B hB _ => h.mono hB, fun k hk _ => h.block k hk⟩
theorem Tn.trans {w w1 w2 : World} {m : Nat} (h : Tn w w1 m) (h2 : Tn w1 w2 m) : Tn w w2 m := by
 have hs := (h.1 0 (Nat.zero_le _) (Nat.zero_le _)).size
 by_cases e : w.heap.size ≤ w1.heap.size
 ·exact ⟨fun B hB hm => (h.1 B hB hm).trans (h2.1 B (by omega) hm), fun k hk hne => (h2.2 k (by omega) hne).trans (h.2 k hk hne)⟩
 ·exact absurd ((h.1 0 (Nat.zero_le _) (Nat.zero_le _)).size) (by omega)
theorem Tn.grown {w w' : World} {m : Nat} (h : w.grownBy w' (some m)) : Tn w w' m :=
 ⟨fun B hB hm => (Below.refl B w).grown h hB (fun k hk => by cases hk; exact hm), fun k hk hne => h.block k hk (fun e => hne (by cases e; rfl))⟩
section
variable {w w' : World} {b m : Nat} {ms : List (Int × List (Int × S25))}
theorem Rl.b_lt (h : Rl w b m ms) : b < w.heap.size := blk_lt h.1
theorem Rl.m_lt (h : Rl w b m ms) : m < w.heap.size := by
 obtain ⟨_, g, h2, _⟩ := h
 exact h2.lt
theorem Rl.ne (h : Rl w b m ms) : b ≠ m := by
 obtain ⟨h1, g, ⟨es, c, h2, _⟩, _⟩ := h
 rintro rfl
 rw [h1] at h2
 cases h2
theorem Rl.below (h : Rl w b m ms) (hb : Below w.heap.size w w') : Rl w' b m ms := by
 obtain ⟨h1, g, h2, h3, h4⟩ := h
 exact ⟨(hb.block b (blk_lt h1)).trans h1, g, h2.below hb, fun p hp => ⟨(h3 p hp).1, (h3 p hp).2.below hb⟩, h4⟩
/-- The moves' map has turned, and nothing else. -/
theorem Rl.turn (h : Rl w b m ms) (ht : Tn w w' m) {g : List (Int × (Nat × List (Int × S25)))} (h2 : IM w' m (g.map fun p => (p.1, Value.map (some p.2.1)))) (h3 : ∀ p ∈ g, p.2.1 ≠ m ∧ IP w' p.2.1 p.2.2) : Rl w' b m (g.map fun p => (p.1, p.2.2)) :=
 ⟨(ht.2 b h.b_lt h.ne).trans h.1, g, h2, h3, rfl⟩
end
theorem gdel_none {α : Type} {k : Int} : ∀ {g : List (Int × α)}, gat k g = none → gdel k g = g
 | [], _ => rfl
 | p :: r, h => by
  simp only [gat] at h
  split at h
  ·cases h
  ·rename_i hne
   simp only [gdel, if_neg hne, gdel_none h]
set_option maxHeartbeats 4000000 in
set_option maxRecDepth 100000 in
theorem relay_New (w : World) : Calls Try.prog 14 #[] w fun e w' => ∃ b m, e = .returned (.pointer (some ⟨b, 0, none⟩)) ∧ Rl w' b m [] ∧ w.heap.size ≤ m ∧ Below w.heap.size w w' := by
 have hmm : ∀ (t : TypeId) (w : World), (Instr.makeMap t none).run Try.prog w = .ok (.map (some w.heap.size)) (w.alloc (.map #[] 0)) := fun _ _ => rfl
 have hu61 := Try.underlying61
 go_enter Try.func14, Try.ntmps14
 go_wp2
 go_ret
 have hs : (w.alloc (.map #[] 0)).heap.size = w.heap.size + 1 := by simp
 refine ⟨w.heap.size + 1, w.heap.size, rfl, ⟨?_, [], ?_, (fun p hp => absurd hp List.not_mem_nil), rfl⟩, by omega, (((Below.refl _ _).alloc (Nat.le_refl _) _).alloc (by omega) _)⟩
 ·rw [← hs]; exact (MapKept.heap_alloc _ _).1
 ·exact (IM.made w).below ((Below.refl _ _).alloc (Nat.le_refl _) _)
set_option maxHeartbeats 4000000 in
set_option maxRecDepth 100000 in
theorem relay_is (w : World) (b m : Nat) (hb : w.heap[b]? = some (.cells #[.map (some m)] 61 (0, 0))) : Calls Try.prog 19 #[.pointer (some ⟨b, 0, none⟩)] w fun e w' => e = .returned (.bool true) ∧ w' = w := by
 have hu61 := Try.underlying61
 have hc : w.cell? ⟨b, 0, none⟩ = some (.map (some m)) := by simp [World.cell?, hb]
 have hne : ∀ (m : Nat) (W : World), (_root_.Go.binOp BinOp.neq 59 (.map (some m)) (.map none)).run Try.prog W = .ok (.bool true) W := fun m W => by kernel_rfl
 go_enter Try.func19, Try.ntmps19
 go_wp2
 go_ret
 exact ⟨rfl, rfl⟩
set_option maxHeartbeats 4000000 in
set_option maxRecDepth 100000 in
theorem relay_Drop (w : World) (b m : Nat) (ms : List (Int × List (Int × S25))) (seg : Int) (hR : Rl w b m ms) :
  Calls Try.prog 10 #[.pointer (some ⟨b, 0, none⟩), .int .i64 seg] w fun e w' => e = .returned (.int .i64 (if (gat seg ms).isSome then 0 else 3)) ∧ Rl w' b m (gdel seg ms) ∧ Tn w w' m := by
 have hu61 := Try.underlying61
 have hu59 := Try.underlying59
 have hu3 := Try.underlying3
 have HR := Am hR
 obtain ⟨hb, g, hm, hg, hms⟩ := hR
 have hc : w.cell? ⟨b, 0, none⟩ = some (.map (some m)) := by simp [World.cell?, hb]
 have hz : ∀ W : World, (zeroValue 58).run Try.prog W = .ok (.map none) W := fun W => by kernel_rfl
 have hl := hm.look hu59 hu3 seg false (.map none) (hz w)
 have hat : gat seg ms = (gat seg g).map (·.2) := by rw [hms]; exact gat_map (fun p : Nat × List (Int × S25) => p.2) seg g
 rw [gat_map (fun p : Nat × List (Int × S25) => Value.map (some p.1)) seg g] at hl
 cases hgs : gat seg g with
 | none =>
  rw [hgs] at hl hat
  simp only [Option.map_none, Option.getD_none, Bool.false_eq_true, if_false] at hl
  rw [show (if (gat seg ms).isSome = true then (0 : Int) else 3) = 3 from by rw [hat]; rfl, gdel_none (k := seg) (g := ms) hat]
  have HMS := Am hms
  clear hms hat
  have hne : ∀ (W : World), (_root_.Go.binOp BinOp.eql 58 (.map none) (.map none)).run Try.prog W = .ok (.bool true) W := fun W => by kernel_rfl
  go_enter Try.func10, Try.ntmps10
  go_wp2_with (go_at_call 19; refine (relay_is _ _ _ hb).mono ?_; rintro e w1 ⟨rfl, hw⟩; rw [hw])
  go_ret
  refine ⟨?_, ?_, Tn.of_below (Below.refl _ _)⟩
  ·rfl
  ·exact HR.out
 | some v =>
  rw [hgs] at hl hat
  simp only [Option.map_some, Option.getD_some, Bool.false_eq_true, if_false] at hl
  rw [show (if (gat seg ms).isSome = true then (0 : Int) else 3) = 0 from by rw [hat]; rfl]
  have HMS := Am hms
  clear hms hat
  have hne : ∀ (m : Nat) (W : World), (_root_.Go.binOp BinOp.eql 58 (.map (some m)) (.map none)).run Try.prog W = .ok (.bool false) W := fun m W => by kernel_rfl
  have HM := Am hm
  clear hm
  go_enter Try.func10, Try.ntmps10
  go_wp2_with (first | (go_at_call 19; refine (relay_is _ _ _ hb).mono ?_; rintro e w1 ⟨rfl, hw⟩; rw [hw]) | (at_delete; refine wpDel _ rfl _ _ 59 3 rfl hu59 hu3 m seg _ rfl rfl HM.out ?_; intro w1 hm1 hg1; have HM1 := Am hm1; have HG1 := Am hg1; clear hm1 hg1))
  go_ret
  have hT := Tn.grown HG1.out
  refine ⟨?_, ?_, hT⟩
  ·rfl
  ·have h1 := HM1.out
   rw [gdel_map (fun p : Nat × List (Int × S25) => Value.map (some p.1)) seg g] at h1
   have h2 := HR.out.turn hT h1 (fun p hp => ⟨(hg p (gdel_mem hp)).1, (hg p (gdel_mem hp)).2.move (hT.2 _ (hg p (gdel_mem hp)).2.lt (hg p (gdel_mem hp)).1)⟩)
   rw [HMS.out, gdel_map (fun p : Nat × List (Int × S25) => p.2) seg g]
   exact h2
def relay_ofs (l : List S37) : List (Int × S25) := l.foldl (fun g h => gput h.f0 h.f1 g) []
theorem relay_ofs_snoc (l : List S37) (i : Nat) (hi : i < l.length) : relay_ofs (l.take (i + 1)) = gput (rd_T37 l (i : Int)).f0 (rd_T37 l (i : Int)).f1 (relay_ofs (l.take i)) := by
 have e : rd_T37 l (i : Int) = l[i] := by simp [rd_T37, hi]
 rw [e]
 unfold relay_ofs
 rw [List.take_succ_eq_append_getElem hi, List.foldl_append]
 rfl
set_option maxHeartbeats 4000000 in
set_option maxRecDepth 100000 in
theorem relay_Set (w : World) (b m : Nat) (ms : List (Int × List (Int × S25))) (seg : Int) (A : Option Addr) (c : Nat) (l : List S37) (k : Nat) (r : Bool) (hR : Rl w b m ms) (hr : Kd.C k37 w A l.length l) (hc : l.length ≤ c) (h : relay_may.f k seg l = some r) :
  Calls Try.prog 15 #[.pointer (some ⟨b, 0, none⟩), .int .i64 seg, .slice A l.length c] w fun e w' => e = .returned (.int .i64 (if r then 0 else 1)) ∧ Rl w' b m (if r then gput seg (relay_ofs l) ms else ms) ∧ Tn w w' m := by
 have hu61 := Try.underlying61
 have hu59 := Try.underlying59
 have hu58 := Try.underlying58
 have hu37 := Try.underlying37
 have hu25 := Try.underlying25
 have hu3 := Try.underlying3
 have hmm : ∀ (t : TypeId) (w : World), (Instr.makeMap t none).run Try.prog w = .ok (.map (some w.heap.size)) (w.alloc (.map #[] 0)) := fun _ _ => rfl
 have HR := Am hR
 have HC := Am hr
 have HCC := Am hc
 have HM := Am h
 have hn : l.length ≤ 9223372036854775807 := Kd.C_max hr
 obtain ⟨hb, g, hm, hg, hms⟩ := hR
 have HB := Am hb
 have HG := Am hg
 have HMS := Am hms
 have HIM := Am hm
 clear hr hc h hm hg hms hb
 cases r with
 | false =>
  simp only [Bool.false_eq_true, if_false]
  go_enter Try.func15, Try.ntmps15
  go_wp2_with (first | (go_at_call 19; refine (relay_is _ _ _ HB.out).mono ?_; rintro e w1 ⟨rfl, hw⟩; rw [hw]) | (go_at_call 24; refine (relay_may.calls k _ _ _ l false _ HC.out HCC.out HM.out).mono ?_; rintro e w1 ⟨rfl, hB⟩; have HB1 := Am hB; clear hB))
  go_ret
  exact ⟨rfl, HR.out.below HB1.out, Tn.of_below HB1.out⟩
 | true =>
  simp only [if_true]
  go_enter Try.func15, Try.ntmps15
  go_wp2_with (first | (go_at_call 19; refine (relay_is _ _ _ HB.out).mono ?_; rintro e w1 ⟨rfl, hw⟩; rw [hw]) | (go_at_call 24; refine (relay_may.calls k _ _ _ l true _ HC.out HCC.out HM.out).mono ?_; rintro e w1 ⟨rfl, hB⟩; have HB1 := Am hB; clear hB))
  have hs1 := HB1.out.size
  have HB2 := Am (HB1.out.alloc hs1 (.map #[] 0))
  have HI2 := Am (IM.made w1)
  obtain ⟨X, hX⟩ : ∃ X, X = w1.heap.size := ⟨_, rfl⟩
  have HX := Am hX
  rw [← hX] at HI2 ⊢
  generalize w1.alloc (.map #[] 0) = w2 at HB2 HI2 ⊢
  clear hX
  go_loopw [22] (fun v22 wr => ∃ i : Nat, i ≤ l.length ∧ v22 = .int .i64 i ∧ Aside0 (IP wr X (relay_ofs (l.take i))) ∧ Aside0 (Below w.heap.size w wr)) (fun v22 _ => l.length - (intOf v22).toNat)
  case atStart => exact ⟨0, Nat.zero_le _, rfl, HI2, HB2⟩
  case round =>
   clear HB2 HI2
   obtain ⟨i, hi, rfl, HI, HB2⟩ := hrel
   by_cases hlt : i < l.length
   ·obtain ⟨ad, e0, h0, h1, h2, h3, h4⟩ := at_T37u HC.out (i : Int) (by omega) (by omega) HB2.out
    subst e0
    simp only [Int.toNat_natCast] at h0 h1 h2 h3 h4
    have hlt' : ((i : Int) < (l.length : Int)) := by omega
    have hsz := HB2.out.size
    obtain ⟨x, hx⟩ : ∃ x, x = rd_T37 l (i : Int) := ⟨_, rfl⟩
    rw [← hx] at h0 h1 h2 h3 h4
    have HX2 := Am hx
    clear hx
    go_wp2_with (first | (at_mapUpdate; refine wpUpd _ rfl _ _ _ 58 rfl hu58 hu3 X _ _ _ rfl rfl rfl (HI.out.below ((Below.refl _ _).alloc (Nat.le_refl _) _)) ?_; intro w3 hm3 hg3; have HI3 := Am hm3; have HG3 := Am hg3; clear hm3 hg3))
    go_roundw
    case rel =>
     refine ⟨i + 1, by omega, by go_num, ⟨?_⟩, ⟨(HB2.out.alloc hsz _).grown HG3.out (by simp; omega) (fun k hk => by cases hk; rw [HX.out]; exact HB1.out.size)⟩⟩
     rw [relay_ofs_snoc l i hlt, ← HX2.out]
     have h1 := HI3.out
     unfold IP
     rw [← gput_map]
     exact h1
    case measure => simp [intOf]; omega
   ·have hkl : i = l.length := by omega
    subst hkl
    rw [List.take_length] at HI
    have HR2 := Am (HR.out.below HB2.out)
    have hb2 : wr.heap[b]? = some (.cells #[.map (some m)] 61 (0, 0)) := HR2.out.1
    have hc : wr.cell? ⟨b, 0, none⟩ = some (.map (some m)) := by simp [World.cell?, hb2]
    have HI2 := Am (HIM.out.below HB2.out)
    have hmX : X ≠ m := by
     have h1 := HIM.out.lt
     have h2 := HB1.out.size
     rw [HX.out]
     omega
    go_wp2_with (first | (at_mapUpdate; refine wpUpd _ rfl _ _ _ 59 rfl hu59 hu3 m _ _ _ rfl rfl rfl HI2.out ?_; intro w3 hm3 hg3; have HI3 := Am hm3; have HG3 := Am hg3; clear hm3 hg3))
    go_ret
    have hT := (Tn.of_below HB2.out).trans (Tn.grown HG3.out)
    have hT3 := Tn.grown HG3.out
    refine ⟨rfl, ?_, hT⟩
    have h1 := HI3.out
    have h2 := HR2.out.turn hT3 (g := gput seg (X, relay_ofs l) g) (by rw [← gput_map (fun p : Nat × List (Int × S25) => Value.map (some p.1))]; exact h1) (fun p hp => by
     rcases gput_mem hp with rfl | hp
     ·exact ⟨hmX, HI.out.move (hT3.2 _ HI.out.lt hmX)⟩
     ·have h3 := HG.out p hp
      have h4 := h3.2.below HB2.out
      exact ⟨h3.1, h4.move (hT3.2 _ h4.lt h3.1)⟩)
    rw [HMS.out, gput_map (fun p : Nat × List (Int × S25) => p.2) seg (X, relay_ofs l) g]
    exact h2
end
section
def relay_Find.l0 : Nat → List (Int × List (Int × S25)) → S25 → Int → Option (S25 × Int × Int)
 | 0, _, _, _ => none
 | k + 1, ms, p, n => match gat p.f0 ms with
  | none => some (p, n, 0)
  | some g => match gat p.f1 g with
   | none => some (z25, 0, 3)
   | some q => if q.f2 = p.f2 then (if q.f3 = p.f3 then relay_Find.l0 k ms q (wrap64 (n + 1)) else some (z25, 0, 3)) else some (z25, 0, 3)
def relay_Find.f (k : Nat) (ms : List (Int × List (Int × S25))) (p : S25) : Option (S25 × Int × Int) :=
 (point_Check.f p.f0 p.f1 p.f2 p.f3).bind fun e => if e = 0 then relay_Find.l0 k ms p 0 else some (z25, 0, 1)
theorem relay_Find.mono_l : ∀ k ms p n, LeO (relay_Find.l0 k ms p n) (relay_Find.l0 (k + 1) ms p n)
 | 0, _, _, _ => fun r h => by simp [relay_Find.l0] at h
 | k + 1, ms, p, n => by
  rw [relay_Find.l0, relay_Find.l0]
  cases gat p.f0 ms with
  | none => exact LeO.refl _
  | some g =>
   cases hg : gat p.f1 g with
   | none => simp only [hg]; exact LeO.refl _
   | some q =>
    simp only [hg]
    exact LeO.ite (LeO.ite (relay_Find.mono_l k _ _ _) (LeO.refl _)) (LeO.refl _)
theorem relay_Find.mono : ∀ ms p k, LeO (relay_Find.f k ms p) (relay_Find.f (k + 1) ms p) := fun ms p k => LeO.bind (LeO.refl _) (fun _ => LeO.ite (relay_Find.mono_l k _ _ _) (LeO.refl _))
theorem point_Check.two {a b c d e : Int} (h : point_Check.f a b c d = some e) : e = 0 ∨ e = 1 := by
 unfold point_Check.f at h
 repeat' (first | (split at h) | (cases h; simp; done))
theorem blk4 {w : World} {k : Nat} {c0 c1 c2 c3 : Value} {E : TypeId} (v0 v1 v2 v3 : Value) (h : w.heap[k]? = some (.cells #[c0, c1, c2, c3] E (0, 0))) :
  ((((w.setCell ⟨k, 0, none⟩ v0).setCell ⟨k, 1, none⟩ v1).setCell ⟨k, 2, none⟩ v2).setCell ⟨k, 3, none⟩ v3).heap[k]? = some (.cells #[v0, v1, v2, v3] E (0, 0)) := bp4 h
theorem far4 {w : World} {j k : Nat} (v0 v1 v2 v3 : Value) (hne : j ≠ k) : ((((w.setCell ⟨k, 0, none⟩ v0).setCell ⟨k, 1, none⟩ v1).setCell ⟨k, 2, none⟩ v2).setCell ⟨k, 3, none⟩ v3).heap[j]? = w.heap[j]? := by
 rw [Below.heap_setCell _ _ _ _ hne, Below.heap_setCell _ _ _ _ hne, Below.heap_setCell _ _ _ _ hne, Below.heap_setCell _ _ _ _ hne]
theorem find_boxes {w w1 : World} {xs ys : Array Value} {s t : TypeId} (h : Below ((w.alloc (.cells xs s)).alloc (.cells ys t)).heap.size ((w.alloc (.cells xs s)).alloc (.cells ys t)) w1) :
  w1.heap[w.heap.size]? = some (.cells xs s (0, 0)) ∧ w1.heap[w.heap.size + 1]? = some (.cells ys t (0, 0)) := by
 have hs : (w.alloc (.cells xs s)).heap.size = w.heap.size + 1 := by simp
 have hs2 : ((w.alloc (.cells xs s)).alloc (.cells ys t)).heap.size = w.heap.size + 1 + 1 := by simp
 exact ⟨((h.block _ (by rw [hs2]; omega)).trans ((MapKept.heap_alloc _ _).2 _ (by rw [hs]; omega))).trans (MapKept.heap_alloc w _).1, (h.block _ (by rw [hs2]; omega)).trans (by rw [← hs]; exact (MapKept.heap_alloc _ _).1)⟩
theorem cells4 {w : World} {k : Nat} {v0 v1 v2 v3 : Value} {E : TypeId} (h : w.heap[k]? = some (.cells #[v0, v1, v2, v3] E (0, 0))) :
  w.cell? ⟨k, 0, none⟩ = some v0 ∧ w.cell? ⟨k, 1, none⟩ = some v1 ∧ w.cell? ⟨k, 2, none⟩ = some v2 ∧ w.cell? ⟨k, 3, none⟩ = some v3 ∧ ∀ j, w.frozen? ⟨k, j, none⟩ = false := by
 refine ⟨?_, ?_, ?_, ?_, fun j => ?_⟩ <;> simp [World.cell?, World.frozen?, h]
set_option maxHeartbeats 4000000 in
set_option maxRecDepth 100000 in
theorem relay_Find.calls (w : World) (b m : Nat) (ms : List (Int × List (Int × S25))) (p : S25) (k : Nat) (r : S25 × Int × Int) (hR : Rl w b m ms) (h : relay_Find.f k ms p = some r) :
  Calls Try.prog 9 #[.pointer (some ⟨b, 0, none⟩), .agg #[.int .i64 p.f0, .int .i64 p.f1, .int .i64 p.f2, .int .u32 p.f3]] w fun e w' => e = .returned (.tuple #[.agg #[.int .i64 r.1.f0, .int .i64 r.1.f1, .int .i64 r.1.f2, .int .u32 r.1.f3], .int .i64 r.2.1, .int .i64 r.2.2]) ∧ Below w.heap.size w w' := by
 have hu61 := Try.underlying61
 have hu59 := Try.underlying59
 have hu58 := Try.underlying58
 have hu25 := Try.underlying25
 have hu3 := Try.underlying3
 obtain ⟨p0, p1, p2, p3⟩ := p
 obtain ⟨⟨q0, q1, q2, q3⟩, rn, re⟩ := r
 replace h := Option.bind_eq_some_iff.mp h
 obtain ⟨ec, hchk, h⟩ := h
 simp only at hchk h ⊢
 have HR := Am hR
 have hbw := hR.b_lt
 have hb := hR.1
 clear hR
 have HB := Am (Below.refl w.heap.size w)
 have HCK := Am hchk
 have HH := Am h
 clear hchk h
 have hc : ∀ W, Below w.heap.size w W → W.cell? ⟨b, 0, none⟩ = some (.map (some m)) := fun W h => by
  have := (h.block b hbw).trans hb
  simp [World.cell?, this]
 have hnn : ∀ (W : World), (_root_.Go.binOp BinOp.eql 58 (.map none) (.map none)).run Try.prog W = .ok (.bool true) W := fun W => by kernel_rfl
 have hne : ∀ (m : Nat) (W : World), (_root_.Go.binOp BinOp.eql 58 (.map (some m)) (.map none)).run Try.prog W = .ok (.bool false) W := fun m W => by kernel_rfl
 have hz58 : ∀ W : World, (zeroValue 58).run Try.prog W = .ok (.map none) W := fun W => by kernel_rfl
 have hz25 : ∀ W : World, (zeroValue 25).run Try.prog W = .ok (.agg #[.int .i64 0, .int .i64 0, .int .i64 0, .int .u32 0]) W := fun W => by kernel_rfl
 rcases point_Check.two HCK.out with rfl | rfl
 ·go_enter Try.func9, Try.ntmps9
  go_wp2_with (first | (go_at_call 19; refine (relay_is _ b m (((pB HB.out : Below w.heap.size w _).block b hbw).trans hb)).mono ?_; rintro e w1 ⟨rfl, hw⟩; rw [hw]) | (go_at_call 20; refine (point_Check.calls p0 p1 p2 p3 0 _ HCK.out).mono ?_; rintro e w1 ⟨rfl, hb1⟩; obtain ⟨hp1, hq1⟩ := find_boxes hb1; have A1 := Am hp1; have A2 := Am hq1; obtain ⟨i0, i1, i2, i3, j0⟩ := cells4 hq1; clear hp1 hq1; replace HB := Am (below_step (pB HB.out) hb1); clear hb1))
  clear i0 i1 i2 i3 j0
  have HH0 : relay_Find.l0 k ms ⟨p0, p1, p2, p3⟩ 0 = some (⟨q0, q1, q2, q3⟩, rn, re) := by simpa using HH.out
  replace HH := Am HH0
  clear HH0
  go_loopg [7] k (fun kq v7 wr => ∃ (p : S25) (n : Int), v7 = .int .i64 n ∧ Aside0 (relay_Find.l0 kq ms p n = some (⟨q0, q1, q2, q3⟩, rn, re)) ∧ Aside0 (kq ≤ k) ∧ Aside0 (wr.heap[w.heap.size]? = some (.cells #[.int .i64 p.f0, .int .i64 p.f1, .int .i64 p.f2, .int .u32 p.f3] 25 (0, 0))) ∧ Aside0 (wr.heap[w.heap.size + 1]? = some (.cells #[.int .i64 0, .int .i64 0, .int .i64 0, .int .u32 0] 25 (0, 0))) ∧ Aside0 (Below w.heap.size w wr))
  case atStart => exact ⟨⟨p0, p1, p2, p3⟩, 0, rfl, HH, ⟨Nat.le_refl _⟩, A1, A2, HB⟩
  case round =>
   clear A1 A2 HB HH
   obtain ⟨⟨p0, p1, p2, p3⟩, n, rfl, HA, HK, A1, A2, HB⟩ := hrel
   cases gk with
   | zero => exact absurd HA.out (by simp [relay_Find.l0])
   | succ k2 =>
    have H := HA.out
    clear HA
    rw [relay_Find.l0] at H
    simp only at H
    obtain ⟨g, hm, hg, hms⟩ := HR.out.2
    have hmw := hm.lt
    have hmW : IM wr m _ := hm.move (HB.out.block m hm.lt)
    have hatm : gat p0 ms = (gat p0 g).map (·.2) := by rw [hms]; exact gat_map (fun p : Nat × List (Int × S25) => p.2) p0 g
    have hl1 : ∀ nq, (Instr.lookup 59 (.map (some m)) (.int .i64 p0) false).run Try.prog (wr.drewN nq) = .ok (((gat p0 g).map fun v => Value.map (some v.1)).getD (.map none)) (wr.drewN nq) := fun nq => by
     have h1 := (hmW.move (w1 := wr.drewN nq) rfl).look hu59 hu3 p0 false (.map none) (hz58 _)
     rw [gat_map (fun p : Nat × List (Int × S25) => Value.map (some p.1)) p0 g] at h1
     simpa using h1
    rw [hatm] at H
    have HG := Am hg
    clear hm hg hms hmW hatm
    have hcw := hc _ HB.out
    obtain ⟨e0, e1, e2, e3, f0⟩ := cells4 A1.out
    obtain ⟨i0, i1, i2, i3, j0⟩ := cells4 A2.out
    cases hgp : gat p0 g with
    | none =>
     rw [hgp] at H hl1
     simp only [Option.map_none, Option.getD_none, Option.some.injEq, Prod.mk.injEq, S25.mk.injEq] at H hl1
     obtain ⟨⟨rfl, rfl, rfl, rfl⟩, rfl, rfl⟩ := H
     go_wp2
     go_quiet (fail)
     go_wp2
     have HB5 : Below w.heap.size w (wr.drewN nq) := pB HB.out
     refine bodyPost_ret (results_ctt rfl _ _ (w.heap.size + 1) 25 #[.int .i64 p0, .int .i64 p1, .int .i64 p2, .int .u32 p3] (0, 0) _ rfl (blk4 _ _ _ _ (show (wr.drewN nq).heap[w.heap.size + 1]? = _ from A2.out)) Try.underlying25 rfl (by kernel_rfl)) rfl ?_
     exact ⟨rfl, (((HB5.setCell (by simp) _).setCell (by simp) _).setCell (by simp) _).setCell (by simp) _⟩
    | some v =>
     obtain ⟨mi, gi⟩ := v
     rw [hgp] at H hl1
     simp only [Option.map_some, Option.getD_some] at H hl1
     have hgi := (HG.out _ (gat_mem hgp)).2
     have hmiw := hgi.lt
     have hmiW : IM wr mi _ := hgi.move (HB.out.block mi hgi.lt)
     have hl2 : ∀ nq, (Instr.lookup 58 (.map (some mi)) (.int .i64 p1) true).run Try.prog (wr.drewN nq) = .ok (.tuple #[((gat p1 gi).map pt).getD (.agg #[.int .i64 0, .int .i64 0, .int .i64 0, .int .u32 0]), .bool (gat p1 gi).isSome]) (wr.drewN nq) := fun nq => by
      have h1 := (hmiW.move (w1 := wr.drewN nq) rfl).look hu58 hu3 p1 true (.agg #[.int .i64 0, .int .i64 0, .int .i64 0, .int .u32 0]) (hz25 _)
      rw [gat_map pt p1 gi] at h1
      simpa using h1
     clear hgi hmiW hgp
     go_wp2
     go_quiet (fail)
     obtain ⟨w2, hw2⟩ : ∃ w2, w2 = wr.drewN nq := ⟨_, rfl⟩
     have HB2 : Below w.heap.size w w2 := by rw [hw2]; exact pB HB.out
     have hl2' := hl2 nq
     have hx2 : w2.heap = wr.heap := by rw [hw2]; rfl
     rw [← hw2] at hl2' ⊢
     clear hl1 hl2 e0 e1 e2 e3 f0 i0 i1 i2 i3 j0 hcw HB
     have hp2 := A1.out
     have hq2 := A2.out
     rw [← hx2] at hp2 hq2
     clear hw2 hx2 A1 A2
     obtain ⟨e0, e1, e2, e3, f0⟩ := cells4 hp2
     obtain ⟨i0, i1, i2, i3, j0⟩ := cells4 hq2
     have hpw2 := blk_lt hp2
     have hqw2 := blk_lt hq2
     have ap : ∀ o, (w2.alloc o).heap[w.heap.size]? = some (.cells #[.int .i64 p0, .int .i64 p1, .int .i64 p2, .int .u32 p3] 25 (0, 0)) := fun o => ((MapKept.heap_alloc w2 o).2 _ hpw2).trans hp2
     have aq : ∀ o, (w2.alloc o).heap[w.heap.size + 1]? = some (.cells #[.int .i64 0, .int .i64 0, .int .i64 0, .int .u32 0] 25 (0, 0)) := fun o => ((MapKept.heap_alloc w2 o).2 _ hqw2).trans hq2
     have e2a := fun o => (cells4 (ap o)).2.2.1
     have e3a := fun o => (cells4 (ap o)).2.2.2.1
     have f0a := fun o => (cells4 (ap o)).2.2.2.2
     have e0a := fun o => (cells4 (ap o)).1
     have e1a := fun o => (cells4 (ap o)).2.1
     have i0a := fun o => (cells4 (aq o)).1
     have i1a := fun o => (cells4 (aq o)).2.1
     have i2a := fun o => (cells4 (aq o)).2.2.1
     have i3a := fun o => (cells4 (aq o)).2.2.2.1
     have j0a := fun o => (cells4 (aq o)).2.2.2.2
     have AQ := Am aq
     have AP := Am ap
     have HB4 := fun o => (HB2.alloc (by omega : w.heap.size ≤ w2.heap.size) o)
     have HB3 := Am HB4
     have HB2' := Am HB2
     clear hp2 hq2 hpw2 hqw2 ap aq HB4 HB2
     cases hq : gat p1 gi with
     | none =>
      rw [hq] at H hl2'
      simp only [Option.map_none, Option.getD_none, Option.isSome_none, Option.some.injEq, Prod.mk.injEq, z25, S25.mk.injEq] at H hl2'
      obtain ⟨⟨rfl, rfl, rfl, rfl⟩, rfl, rfl⟩ := H
      go_wp2
      refine bodyPost_ret (results_ctt rfl _ _ (w.heap.size + 1) 25 #[.int .i64 0, .int .i64 0, .int .i64 0, .int .u32 0] (0, 0) _ rfl (blk4 _ _ _ _ (AQ.out _)) Try.underlying25 rfl (by kernel_rfl)) rfl ?_
      exact ⟨rfl, ((((HB3.out _).setCell (by simp) _).setCell (by simp) _).setCell (by simp) _).setCell (by simp) _⟩
     | some y =>
      obtain ⟨y0, y1, y2, y3⟩ := y
      rw [hq] at H hl2'
      simp only [Option.map_some, Option.getD_some, Option.isSome_some, pt] at H hl2'
      by_cases h2 : y2 = p2
      ·by_cases h3 : y3 = p3
       ·rw [if_pos h2, if_pos h3] at H
        subst h2 h3
        have HA := Am H
        clear H
        go_wp2
        go_roundg k2
        case measure => have := HK.out; omega
        case rel =>
         refine ⟨⟨y0, y1, y2, y3⟩, wrap64 (n + 1), rfl, HA, ⟨by have := HK.out; omega⟩, ⟨blk4 _ _ _ _ (AP.out _)⟩, ⟨(far4 _ _ _ _ (by omega)).trans (AQ.out _)⟩, ⟨((((HB3.out _).setCell (Nat.le_refl _) _).setCell (Nat.le_refl _) _).setCell (Nat.le_refl _) _).setCell (Nat.le_refl _) _⟩⟩
       ·rw [if_pos h2, if_neg h3] at H
        simp only [Option.some.injEq, Prod.mk.injEq, z25, S25.mk.injEq] at H
        obtain ⟨⟨rfl, rfl, rfl, rfl⟩, rfl, rfl⟩ := H
        go_wp2
        refine bodyPost_ret (results_ctt rfl _ _ (w.heap.size + 1) 25 #[.int .i64 0, .int .i64 0, .int .i64 0, .int .u32 0] (0, 0) _ rfl (blk4 _ _ _ _ (AQ.out _)) Try.underlying25 rfl (by kernel_rfl)) rfl ?_
        exact ⟨rfl, ((((HB3.out _).setCell (by simp) _).setCell (by simp) _).setCell (by simp) _).setCell (by simp) _⟩
      ·rw [if_neg h2] at H
       simp only [Option.some.injEq, Prod.mk.injEq, z25, S25.mk.injEq] at H
       obtain ⟨⟨rfl, rfl, rfl, rfl⟩, rfl, rfl⟩ := H
       go_wp2
       refine bodyPost_ret (results_ctt rfl _ _ (w.heap.size + 1) 25 #[.int .i64 0, .int .i64 0, .int .i64 0, .int .u32 0] (0, 0) _ rfl (blk4 _ _ _ _ (AQ.out _)) Try.underlying25 rfl (by kernel_rfl)) rfl ?_
       exact ⟨rfl, ((((HB3.out _).setCell (by simp) _).setCell (by simp) _).setCell (by simp) _).setCell (by simp) _⟩
 ·go_enter Try.func9, Try.ntmps9
  go_wp2_with (first | (go_at_call 19; refine (relay_is _ b m (((pB HB.out : Below w.heap.size w _).block b hbw).trans hb)).mono ?_; rintro e w1 ⟨rfl, hw⟩; rw [hw]) | (go_at_call 20; refine (point_Check.calls p0 p1 p2 p3 1 _ HCK.out).mono ?_; rintro e w1 ⟨rfl, hb1⟩; obtain ⟨hp1, hq1⟩ := find_boxes hb1; have A1 := Am hp1; have A2 := Am hq1; obtain ⟨i0, i1, i2, i3, j0⟩ := cells4 hq1; clear hp1 hq1; replace HB := Am (below_step (pB HB.out) hb1); clear hb1))
  have H := HH.out
  simp only [if_neg (show ¬ (1 : Int) = 0 by omega), Option.some.injEq, Prod.mk.injEq, z25, S25.mk.injEq] at H
  obtain ⟨⟨rfl, rfl, rfl, rfl⟩, rfl, rfl⟩ := H
  refine bodyPost_ret (results_ctt rfl _ _ (w.heap.size + 1) 25 #[.int .i64 0, .int .i64 0, .int .i64 0, .int .u32 0] (0, 0) _ rfl (blk4 _ _ _ _ A2.out) Try.underlying25 rfl (by kernel_rfl)) rfl ?_
  exact ⟨rfl, (((HB.out.setCell (by simp) _).setCell (by simp) _).setCell (by simp) _).setCell (by simp) _⟩
end
end Go.Proofs.Ytklpoeaoojgljaa.PRelayFinds
