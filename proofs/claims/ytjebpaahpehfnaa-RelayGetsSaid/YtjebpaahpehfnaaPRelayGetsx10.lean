/- What the law reaches, as plain Lean functions, and that the machine's calls answer just that. -/
import Derived.Test.YtjebpaahpehfnaaPRelayGetsx0
import Derived.Test.YtjebpaahpehfnaaPRelayGetsx9
namespace Go.Proofs.Ytjebpaahpehfnaa.PRelayGets
open Go.RowKit Go.Proofs.YtjebpaahpehfnaaW.PrintWords Go.Proofs.YtjebpaahpehfnaaW.PrintLast Go.Proofs.YtjebpaahpehfnaaW.PrintMore
attribute [local go_sem] max2_int min2_int max_two min_two max_three min_three max_four min_four
set_option linter.unusedVariables false
set_option linter.unusedSimpArgs false
attribute [local go_sem] wrap64_l1 wrap64_l2 wrap64_l3 wrap64_l4 wrap64_l5
def garnerref01_step.f (k : Nat) (a0 : Int) (a1 : Int) : Option (Int) := (garnerref01_bit.f k a0 0).bind fun t252 => (if t252 = a1 then (some ((Int.tdiv a0 2) % 4294967296)) else (some (Go.bits .xor .u32 ((Int.tdiv a0 2) % 4294967296) 2197175160)))
theorem garnerref01_step.mono : ∀ a0 a1 k, LeO (garnerref01_step.f k a0 a1) (garnerref01_step.f (k + 1) a0 a1) := by
 intro a0 a1 k
 unfold garnerref01_step.f
 repeat' first
   | (with_reducible exact garnerref01_bit.mono _ _ _)
   | (with_reducible exact LeO.refl _)
   | (with_reducible exact LeO.none _)
   | (with_reducible refine LeO.ite ?_ ?_)
   | (with_reducible refine LeO.bind ?_ (fun _ => ?_))
   | exact garnerref01_bit.mono _ _ _
   | exact LeO.none _
   | refine LeO.ite ?_ ?_
   | refine LeO.bind ?_ (fun _ => ?_)
set_option maxHeartbeats 8000000 in
set_option maxRecDepth 100000 in
theorem garnerref01_step.calls (k : Nat) (a0 : Int) (a1 : Int) (r : Int) (w : World) (h : garnerref01_step.f k a0 a1 = some r) :
  Calls Try.prog 57 #[.int .u32 a0, .int .i64 a1] w fun e w' => e = .returned (.int .u32 r) ∧ Drawn0 w w' := by
 have H : ((garnerref01_bit.f k a0 0).bind fun t252 => (if t252 = a1 then (some ((Int.tdiv a0 2) % 4294967296)) else (some (Go.bits .xor .u32 ((Int.tdiv a0 2) % 4294967296) 2197175160)))) = some r := h
 clear h
 replace H := Option.bind_eq_some_iff.mp H
 obtain ⟨t252, A30, H⟩ := H
 replace H : (if t252 = a1 then (some ((Int.tdiv a0 2) % 4294967296)) else (some (Go.bits .xor .u32 ((Int.tdiv a0 2) % 4294967296) 2197175160))) = some r := H
 have A3 := Am A30
 clear A30
 by_cases c4 : t252 = a1
 ·rw [if_pos c4] at H
  have c4b0 : (t252 == a1) = true := beq_iff_eq.mpr c4
  have c4b1 : (t252 != a1) = false := bne_eq_false_iff_eq.mpr c4
  clear c4
  obtain rfl := Option.some.inj H
  go_enter Try.func57, Try.ntmps57
  go_wp2_with (first | ((with_reducible refine gate_callee (f := 58) rfl ?_); refine goesL_ (some 6) rfl rfl Try.func58 (by kernel_rfl) rfl #[.int .u32 a0, .int .i64 0] rfl pL ?_; (with_reducible refine (garnerref01_bit.calls k a0 0 t252 _ A3.out).mono ?_); rintro e w' ⟨rfl, ⟨nd, rfl⟩⟩; refine ⟨_, rfl, ?_⟩))
  go_ret
  exact ⟨by first | rfl | (simp; done) | (simp [*]; done), by repeat (first | exact Drawn0.refl _ | apply Drawn0.step)⟩
 rw [if_neg c4] at H
 have c4b0 : (t252 == a1) = false := beq_eq_false_iff_ne.mpr c4
 have c4b1 : (t252 != a1) = true := bne_iff_ne.mpr c4
 obtain rfl := Option.some.inj H
 go_enter Try.func57, Try.ntmps57
 go_wp2_with (first | ((with_reducible refine gate_callee (f := 58) rfl ?_); refine goesL_ (some 6) rfl rfl Try.func58 (by kernel_rfl) rfl #[.int .u32 a0, .int .i64 0] rfl pL ?_; (with_reducible refine (garnerref01_bit.calls k a0 0 t252 _ A3.out).mono ?_); rintro e w' ⟨rfl, ⟨nd, rfl⟩⟩; refine ⟨_, rfl, ?_⟩))
 go_ret
 exact ⟨by first | rfl | (simp; done) | (simp [*]; done), by repeat (first | exact Drawn0.refl _ | apply Drawn0.step)⟩
mutual
def garnerref01_run.l0 : Nat → Int → List Int → Int → Option (Int)
 | 0, _, _, _ => none
 | k + 1, x0, x1, x5 => if x5 < (x1.length : Int) then (garnerref01_run.l1 k x0 x1 x5 0) else (some x0)
def garnerref01_run.l1 : Nat → Int → List Int → Int → Int → Option (Int)
 | 0, _, _, _, _ => none
 | k + 1, x0, x1, x5, x6 => if x6 < 8 then (if 0 ≤ x5 then (if x5 < (x1.length : Int) then ((garnerref01_bit.f k ((rd x1 x5) % 4294967296) x6).bind fun t254 => ((garnerref01_step.f k x0 t254).bind fun t255 => (garnerref01_run.l1 k t255 x1 x5 (wrap64 (x6 + 1))))) else (none)) else (none)) else (garnerref01_run.l0 k x0 x1 (wrap64 (x5 + 1)))
end
def garnerref01_run.f (k : Nat) (a0 : Int) (l1 : List Int) : Option (Int) := garnerref01_run.l0 k a0 l1 0
theorem garnerref01_run.mono_l : ∀ k, (∀ y0 y1 y2, LeO (garnerref01_run.l0 k y0 y1 y2) (garnerref01_run.l0 (k + 1) y0 y1 y2)) ∧ (∀ y0 y1 y2 y3, LeO (garnerref01_run.l1 k y0 y1 y2 y3) (garnerref01_run.l1 (k + 1) y0 y1 y2 y3))
 | 0 => ⟨fun _ _ _ r h => by simp [garnerref01_run.l0] at h, fun _ _ _ _ r h => by simp [garnerref01_run.l1] at h⟩
 | k + 1 => by
  obtain ⟨ih0, ih1⟩ := garnerref01_run.mono_l k
  refine ⟨?_, ?_⟩
  ·intro y0 y1 y2
   unfold garnerref01_run.l0
   repeat' first
   | (with_reducible exact ih0 _ _ _)
   | (with_reducible exact ih1 _ _ _ _)
   | (with_reducible exact garnerref01_bit.mono _ _ _)
   | (with_reducible exact garnerref01_step.mono _ _ _)
   | (with_reducible exact LeO.refl _)
   | (with_reducible exact LeO.none _)
   | (with_reducible refine LeO.ite ?_ ?_)
   | (with_reducible refine LeO.bind ?_ (fun _ => ?_))
   | exact ih0 _ _ _
   | exact ih1 _ _ _ _
   | exact garnerref01_bit.mono _ _ _
   | exact garnerref01_step.mono _ _ _
   | exact LeO.none _
   | refine LeO.ite ?_ ?_
   | refine LeO.bind ?_ (fun _ => ?_)
  ·intro y0 y1 y2 y3
   unfold garnerref01_run.l1
   repeat' first
   | (with_reducible exact ih0 _ _ _)
   | (with_reducible exact ih1 _ _ _ _)
   | (with_reducible exact garnerref01_bit.mono _ _ _)
   | (with_reducible exact garnerref01_step.mono _ _ _)
   | (with_reducible exact LeO.refl _)
   | (with_reducible exact LeO.none _)
   | (with_reducible refine LeO.ite ?_ ?_)
   | (with_reducible refine LeO.bind ?_ (fun _ => ?_))
   | exact ih0 _ _ _
   | exact ih1 _ _ _ _
   | exact garnerref01_bit.mono _ _ _
   | exact garnerref01_step.mono _ _ _
   | exact LeO.none _
   | refine LeO.ite ?_ ?_
   | refine LeO.bind ?_ (fun _ => ?_)
theorem garnerref01_run.mono : ∀ a0 a1 k, LeO (garnerref01_run.f k a0 a1) (garnerref01_run.f (k + 1) a0 a1) := by
 intro a0 a1 k
 obtain ⟨ih0, ih1⟩ := garnerref01_run.mono_l k
 unfold garnerref01_run.f
 repeat' first
   | (with_reducible exact ih0 _ _ _)
   | (with_reducible exact ih1 _ _ _ _)
   | (with_reducible exact garnerref01_bit.mono _ _ _)
   | (with_reducible exact garnerref01_step.mono _ _ _)
   | (with_reducible exact LeO.refl _)
   | (with_reducible exact LeO.none _)
   | (with_reducible refine LeO.ite ?_ ?_)
   | (with_reducible refine LeO.bind ?_ (fun _ => ?_))
   | exact ih0 _ _ _
   | exact ih1 _ _ _ _
   | exact garnerref01_bit.mono _ _ _
   | exact garnerref01_step.mono _ _ _
   | exact LeO.none _
   | refine LeO.ite ?_ ?_
   | refine LeO.bind ?_ (fun _ => ?_)
set_option maxHeartbeats 8000000 in
set_option maxRecDepth 100000 in
theorem garnerref01_run.calls (k : Nat) (a0 : Int) (A1 : Option Addr) (c1 : Nat) (l1 : List Int) (r : Int) (w : World) (hr1 : Kd.C (Kd.int .u8) w A1 l1.length l1) (hc1 : l1.length ≤ c1) (h : garnerref01_run.f k a0 l1 = some r) :
  Calls Try.prog 54 #[.int .u32 a0, .slice A1 l1.length c1] w fun e w' => e = .returned (.int .u32 r) ∧ Drawn0 w w' := by
 have HR1 := Am hr1
 have HC1 := Am hc1
 clear hr1 hc1
 have H : (garnerref01_run.l0 k a0 l1 0) = some r := h
 clear h
 have H' := Am H
 clear H
 go_enter Try.func54, Try.ntmps54
 go_wp2
 go_loopg [0, 5] k (fun kq v0 v5 w' => ∃ (Ad : Int) (Aa : Int), v0 = .int .u32 Ad ∧ v5 = .int .i64 Aa ∧ Aside0 (garnerref01_run.l0 kq Ad l1 Aa = some r) ∧ Aside0 (kq ≤ k) ∧ Drawn0 w w')
 case atStart => exact ⟨(a0), (0), (by first | rfl | (simp; done) | (simp [*]; done)), (by first | rfl | (simp; done) | (simp [*]; done)), H', ⟨Nat.le_refl _⟩, by repeat (first | exact Drawn0.refl _ | apply Drawn0.step)⟩
 case round =>
  clear H'
  try clear c1
  try clear p2
  obtain ⟨Ad, Aa, rfl, rfl, HA, HK1, ⟨m1, rfl⟩⟩ := hrel
  cases gk with
  | zero => exact absurd HA.out (by simp [garnerref01_run.l0])
  | succ k1 =>
   have H := HA.out
   clear HA
   simp only [garnerref01_run.l0] at H
   by_cases c3 : Aa < (l1.length : Int)
   rotate_left
   ·rw [if_neg c3] at H
    have c3b0 : decide (Aa < (l1.length : Int)) = false := decide_eq_false c3
    clear c3
    obtain rfl := Option.some.inj H
    go_wp2
    go_ret
    exact ⟨by first | rfl | (simp; done) | (simp [*]; done), by repeat (first | exact Drawn0.refl _ | apply Drawn0.step)⟩
   rw [if_pos c3] at H
   have c3b0 : decide (Aa < (l1.length : Int)) = true := decide_eq_true c3
   clear c3
   have H' := Am H
   clear H
   go_wp2
   go_loopg [0, 6] k1 (fun kq v0 v6 w' => ∃ (Ac : Int) (Ab : Int), v0 = .int .u32 Ac ∧ v6 = .int .i64 Ab ∧ Aside0 (garnerref01_run.l1 kq Ac l1 Aa Ab = some r) ∧ Aside0 (kq ≤ k1) ∧ Drawn0 w w')
   case atStart => exact ⟨(Ad), (0), (by first | rfl | (simp; done) | (simp [*]; done)), (by first | rfl | (simp; done) | (simp [*]; done)), H', ⟨Nat.le_refl _⟩, by repeat (first | exact Drawn0.refl _ | apply Drawn0.step)⟩
   case round =>
    clear H'
    try clear c1
    try clear p2
    try clear c3
    try clear c3b0
    try clear p2
    obtain ⟨Ac, Ab, rfl, rfl, HA, HK2, ⟨m2, rfl⟩⟩ := hrel
    cases gk with
    | zero => exact absurd HA.out (by simp [garnerref01_run.l1])
    | succ k2 =>
     have H := HA.out
     clear HA
     simp only [garnerref01_run.l1] at H
     by_cases c4 : Ab < 8
     rotate_left
     ·rw [if_neg c4] at H
      have c4b0 : decide (Ab < 8) = false := decide_eq_false c4
      clear c4
      have H' := Am H
      clear H
      go_wp2
      go_roundg k2
      case measure => have := HK1.out; have := HK2.out; omega
      case rel => exact ⟨(Ac), (wrap64 (Aa + 1)), (by first | rfl | (simp; done) | (simp [*]; done)), (by first | rfl | (simp; done) | (simp [*]; done)), H', ⟨by have := HK1.out; have := HK2.out; omega⟩, by repeat (first | exact Drawn0.refl _ | apply Drawn0.step)⟩
     rw [if_pos c4] at H
     have c4b0 : decide (Ab < 8) = true := decide_eq_true c4
     clear c4
     by_cases c5 : 0 ≤ Aa
     rotate_left
     ·rw [if_neg c5] at H
      exact absurd H (by simp)
     rw [if_pos c5] at H
     have c5b0 : decide (0 ≤ Aa) = true := decide_eq_true c5
     clear c5
     by_cases c6 : Aa < (l1.length : Int)
     rotate_left
     ·rw [if_neg c6] at H
      exact absurd H (by simp)
     rw [if_pos c6] at H
     have c6b0 : decide (Aa < (l1.length : Int)) = true := decide_eq_true c6
     clear c6
     replace H := Option.bind_eq_some_iff.mp H
     obtain ⟨t254, A70, H⟩ := H
     replace H : ((garnerref01_step.f k2 Ac t254).bind fun t255 => (garnerref01_run.l1 k2 t255 l1 Aa (wrap64 (Ab + 1)))) = some r := H
     have A7 := Am A70
     clear A70
     replace H := Option.bind_eq_some_iff.mp H
     obtain ⟨t255, A80, H⟩ := H
     replace H : (garnerref01_run.l1 k2 t255 l1 Aa (wrap64 (Ab + 1))) = some r := H
     have A8 := Am A80
     clear A80
     have H' := Am H
     clear H
     have p253 : 0 ≤ (Aa : Int) := of_decide_eq_true pS
     have q253 : Aa < (l1.length : Int) := of_decide_eq_true pS
     obtain ⟨ad253, e253, hx253_0⟩ := Kd.at_int HR1.out Aa p253 q253
     cases e253
     replace p253 := eq_true p253
     replace q253 := eq_true q253
     go_wp2_with (first | ((with_reducible refine gate_callee (f := 58) rfl ?_); refine goesL_ (some 24) rfl rfl Try.func58 (by kernel_rfl) rfl #[.int .u32 ((rd l1 Aa) % 4294967296), .int .i64 Ab] rfl pL ?_; (with_reducible refine (garnerref01_bit.calls k2 ((rd l1 Aa) % 4294967296) Ab t254 _ A7.out).mono ?_); rintro e w' ⟨rfl, ⟨nd, rfl⟩⟩; refine ⟨_, rfl, ?_⟩) | ((with_reducible refine gate_callee (f := 57) rfl ?_); refine goesL_ (some 25) rfl rfl Try.func57 (by kernel_rfl) rfl #[.int .u32 Ac, .int .i64 t254] rfl pL ?_; (with_reducible refine (garnerref01_step.calls k2 Ac t254 t255 _ A8.out).mono ?_); rintro e w' ⟨rfl, ⟨nd, rfl⟩⟩; refine ⟨_, rfl, ?_⟩))
     go_roundg k2
     case measure => have := HK1.out; have := HK2.out; omega
     case rel => exact ⟨(t255), (wrap64 (Ab + 1)), (by first | rfl | (simp; done) | (simp [*]; done)), (by first | rfl | (simp; done) | (simp [*]; done)), H', ⟨by have := HK1.out; have := HK2.out; omega⟩, by repeat (first | exact Drawn0.refl _ | apply Drawn0.step)⟩
def garnerref01_Of.f (k : Nat) (l0 : List Int) : Option (Int) := (garnerref01_run.f k 4294967295 l0).bind fun t256 => (some (Go.bits .xor .u32 4294967295 t256))
theorem garnerref01_Of.mono : ∀ a0 k, LeO (garnerref01_Of.f k a0) (garnerref01_Of.f (k + 1) a0) := by
 intro a0 k
 unfold garnerref01_Of.f
 repeat' first
   | (with_reducible exact garnerref01_run.mono _ _ _)
   | (with_reducible exact LeO.refl _)
   | (with_reducible exact LeO.none _)
   | (with_reducible refine LeO.ite ?_ ?_)
   | (with_reducible refine LeO.bind ?_ (fun _ => ?_))
   | exact garnerref01_run.mono _ _ _
   | exact LeO.none _
   | refine LeO.ite ?_ ?_
   | refine LeO.bind ?_ (fun _ => ?_)
set_option maxHeartbeats 8000000 in
set_option maxRecDepth 100000 in
theorem garnerref01_Of.calls (k : Nat) (A0 : Option Addr) (c0 : Nat) (l0 : List Int) (r : Int) (w : World) (hr0 : Kd.C (Kd.int .u8) w A0 l0.length l0) (hc0 : l0.length ≤ c0) (h : garnerref01_Of.f k l0 = some r) :
  Calls Try.prog 46 #[.slice A0 l0.length c0] w fun e w' => e = .returned (.int .u32 r) ∧ Drawn0 w w' := by
 have HR0 := Am hr0
 have HC0 := Am hc0
 clear hr0 hc0
 have H : ((garnerref01_run.f k 4294967295 l0).bind fun t256 => (some (Go.bits .xor .u32 4294967295 t256))) = some r := h
 clear h
 replace H := Option.bind_eq_some_iff.mp H
 obtain ⟨t256, A20, H⟩ := H
 replace H : (some (Go.bits .xor .u32 4294967295 t256)) = some r := H
 have A2 := Am A20
 clear A20
 obtain rfl := Option.some.inj H
 go_enter Try.func46, Try.ntmps46
 go_wp2_with (first | ((with_reducible refine gate_callee (f := 54) rfl ?_); refine goesL_ (some 4) rfl rfl Try.func54 (by kernel_rfl) rfl #[.int .u32 4294967295, .slice A0 l0.length c0] rfl pL ?_; (with_reducible refine (garnerref01_run.calls k 4294967295 _ _ l0 t256 _ ?side1 ?side2 A2.out).mono ?_); (case side1 => repeat (first | exact HR0.out | (with_reducible refine Kd.C_alloc ?_ _) | (with_reducible refine Kd.C_drewN ?_ _) | (with_reducible refine Kd.C_drew ?_))); (case side2 => exact HC0.out); rintro e w' ⟨rfl, ⟨nd, rfl⟩⟩; refine ⟨_, rfl, ?_⟩))
 go_ret
 exact ⟨by first | rfl | (simp; done) | (simp [*]; done), by repeat (first | exact Drawn0.refl _ | apply Drawn0.step)⟩
def garnerref03_Put.l0 : Nat → List Int → Int → Int → Option (List Int)
 | 0, _, _, _ => none
 | k + 1, x3, x4, x5 => if x5 < 4 then ((some (([(Int.tmod x4 256) % 256] : List Int) : List Int)).bind fun y277 => (if x3.length + y277.length < 140737488355328 then (garnerref03_Put.l0 k (x3 ++ y277) ((Int.tdiv x4 256) % 4294967296) (wrap64 (x5 + 1))) else (none))) else (some x3)
def garnerref03_Put.f (k : Nat) (a0_0 : Int) (l0_1 : List Int) : Option (List Int) := (garnerref02_One.f k (IntKind.u64.wrap ((l0_1.length : Int)))).bind fun t258 => ((some (([(a0_0) % 256] : List Int) : List Int)).bind fun y261 => (if t258.length + y261.length < 140737488355328 then ((some (t258 ++ y261 : List Int)).bind fun y264 => (if y264.length + l0_1.length < 140737488355328 then ((some (([(a0_0) % 256] : List Int) : List Int)).bind fun y270 => (if y270.length + l0_1.length < 140737488355328 then ((garnerref01_Of.f k (y270 ++ l0_1)).bind fun t276 => (garnerref03_Put.l0 k (y264 ++ l0_1) t276 0)) else (none))) else (none))) else (none)))
theorem garnerref03_Put.mono_l : ∀ k, (∀ y0 y1 y2, LeO (garnerref03_Put.l0 k y0 y1 y2) (garnerref03_Put.l0 (k + 1) y0 y1 y2))
 | 0 => fun _ _ _ r h => by simp [garnerref03_Put.l0] at h
 | k + 1 => by
  have ih0 := garnerref03_Put.mono_l k
  ·intro y0 y1 y2
   unfold garnerref03_Put.l0
   repeat' first
   | (with_reducible exact ih0 _ _ _)
   | (with_reducible exact garnerref01_Of.mono _ _)
   | (with_reducible exact garnerref02_One.mono _ _)
   | (with_reducible exact LeO.refl _)
   | (with_reducible exact LeO.none _)
   | (with_reducible refine LeO.ite ?_ ?_)
   | (with_reducible refine LeO.bind ?_ (fun _ => ?_))
   | exact ih0 _ _ _
   | exact garnerref01_Of.mono _ _
   | exact garnerref02_One.mono _ _
   | exact LeO.none _
   | refine LeO.ite ?_ ?_
   | refine LeO.bind ?_ (fun _ => ?_)
theorem garnerref03_Put.mono : ∀ a0 a1 k, LeO (garnerref03_Put.f k a0 a1) (garnerref03_Put.f (k + 1) a0 a1) := by
 intro a0 a1 k
 have ih0 := garnerref03_Put.mono_l k
 unfold garnerref03_Put.f
 repeat' first
   | (with_reducible exact ih0 _ _ _)
   | (with_reducible exact garnerref01_Of.mono _ _)
   | (with_reducible exact garnerref02_One.mono _ _)
   | (with_reducible exact LeO.refl _)
   | (with_reducible exact LeO.none _)
   | (with_reducible refine LeO.ite ?_ ?_)
   | (with_reducible refine LeO.bind ?_ (fun _ => ?_))
   | exact ih0 _ _ _
   | exact garnerref01_Of.mono _ _
   | exact garnerref02_One.mono _ _
   | exact LeO.none _
   | refine LeO.ite ?_ ?_
   | refine LeO.bind ?_ (fun _ => ?_)
def garnerref03_Put.T1 : Bool × List (List Nat × List Nat) := (true, [([], []), ([0], [0]), ([1], [1]), ([2], [2]), ([3], [3]), ([], []), ([5], [5]), ([6], [6]), ([7], [7]), ([4, 8, 4], [4, 8]), ([9, 9, 0, 1, 2, 3, 4, 5, 6, 7, 8, 9], [9])])
def garnerref03_Put.B1 : List Nat := [0, 1, 3, 7, 15, 0, 32, 96, 224, 511, 1023]
theorem garnerref03_Put.tab1 : rtab .any (opsOf Try.f32 1) = garnerref03_Put.T1 := by kernel_rfl
theorem garnerref03_Put.bits1 : waitsOk garnerref03_Put.T1.2 garnerref03_Put.B1 = true := by kernel_rfl
set_option maxHeartbeats 8000000 in
set_option maxRecDepth 100000 in
theorem garnerref03_Put.calls (k : Nat) (a0_0 : Int) (A0_1 : Option Addr) (c0_1 : Nat) (l0_1 : List Int) (r : List Int) (w : World) (hr0_1 : Kd.C (Kd.int .u8) w A0_1 l0_1.length l0_1) (hc0_1 : l0_1.length ≤ c0_1) (h : garnerref03_Put.f k a0_0 l0_1 = some r) :
  Calls Try.prog 32 #[.agg #[.int .i64 a0_0, .slice A0_1 l0_1.length c0_1]] w fun e w' => ∃ v0_ : Value, e = .returned (v0_) ∧ Kd.R (Kd.int .u8) 5 w' w.heap.size (fun _ => True) v0_ r ∧ Below w.heap.size w w' := by
 have hu50 := Try.underlying50
 have A4 := Am hr0_1
 have HC0_1 := Am hc0_1
 clear hr0_1 hc0_1
 have HB := Am (Below.refl w.heap.size w)
 have H : ((garnerref02_One.f k (IntKind.u64.wrap ((l0_1.length : Int)))).bind fun t258 => ((some (([(a0_0) % 256] : List Int) : List Int)).bind fun y261 => (if t258.length + y261.length < 140737488355328 then ((some (t258 ++ y261 : List Int)).bind fun y264 => (if y264.length + l0_1.length < 140737488355328 then ((some (([(a0_0) % 256] : List Int) : List Int)).bind fun y270 => (if y270.length + l0_1.length < 140737488355328 then ((garnerref01_Of.f k (y270 ++ l0_1)).bind fun t276 => (garnerref03_Put.l0 k (y264 ++ l0_1) t276 0)) else (none))) else (none))) else (none)))) = some r := h
 clear h
 replace H := Option.bind_eq_some_iff.mp H
 obtain ⟨t258, A20, H⟩ := H
 replace H : ((some (([(a0_0) % 256] : List Int) : List Int)).bind fun y261 => (if t258.length + y261.length < 140737488355328 then ((some (t258 ++ y261 : List Int)).bind fun y264 => (if y264.length + l0_1.length < 140737488355328 then ((some (([(a0_0) % 256] : List Int) : List Int)).bind fun y270 => (if y270.length + l0_1.length < 140737488355328 then ((garnerref01_Of.f k (y270 ++ l0_1)).bind fun t276 => (garnerref03_Put.l0 k (y264 ++ l0_1) t276 0)) else (none))) else (none))) else (none))) = some r := H
 have A2 := Am A20
 clear A20
 obtain ⟨y261, hy261⟩ : ∃ y_ : List Int, y_ = (([(a0_0) % 256] : List Int)) := ⟨_, rfl⟩
 replace H : (if t258.length + y261.length < 140737488355328 then ((some (t258 ++ y261 : List Int)).bind fun y264 => (if y264.length + l0_1.length < 140737488355328 then ((some (([(a0_0) % 256] : List Int) : List Int)).bind fun y270 => (if y270.length + l0_1.length < 140737488355328 then ((garnerref01_Of.f k (y270 ++ l0_1)).bind fun t276 => (garnerref03_Put.l0 k (y264 ++ l0_1) t276 0)) else (none))) else (none))) else (none)) = some r := by first | (rw [hy261]; with_reducible exact H) | (have H2_ := (Option.bind_some _ _).symm.trans H; rw [hy261]; with_reducible exact H2_) | (have H2_ := (Option.bind_some _ _).symm.trans H; with_reducible exact H2_) | with_reducible exact H | (rw [hy261]; exact H) | exact H
 have Ny261 := Am hy261
 clear hy261
 by_cases c3 : t258.length + y261.length < 140737488355328
 rotate_left
 ·rw [if_neg c3] at H
  exact absurd H (by simp)
 rw [if_pos c3] at H
 have LMc3 := Am c3
 clear c3
 obtain ⟨y264, hy264⟩ : ∃ y_ : List Int, y_ = (t258 ++ y261) := ⟨_, rfl⟩
 replace H : (if y264.length + l0_1.length < 140737488355328 then ((some (([(a0_0) % 256] : List Int) : List Int)).bind fun y270 => (if y270.length + l0_1.length < 140737488355328 then ((garnerref01_Of.f k (y270 ++ l0_1)).bind fun t276 => (garnerref03_Put.l0 k (y264 ++ l0_1) t276 0)) else (none))) else (none)) = some r := by first | (rw [hy264]; with_reducible exact H) | (have H2_ := (Option.bind_some _ _).symm.trans H; rw [hy264]; with_reducible exact H2_) | (have H2_ := (Option.bind_some _ _).symm.trans H; with_reducible exact H2_) | with_reducible exact H | (rw [hy264]; exact H) | exact H
 have Ny264 := Am hy264
 clear hy264
 by_cases c4 : y264.length + l0_1.length < 140737488355328
 rotate_left
 ·rw [if_neg c4] at H
  exact absurd H (by simp)
 rw [if_pos c4] at H
 have LMc4 := Am c4
 clear c4
 obtain ⟨y267, hy267⟩ : ∃ y_ : List Int, y_ = (y264 ++ l0_1) := ⟨_, rfl⟩
 replace H : ((some (([(a0_0) % 256] : List Int) : List Int)).bind fun y270 => (if y270.length + l0_1.length < 140737488355328 then ((garnerref01_Of.f k (y270 ++ l0_1)).bind fun t276 => (garnerref03_Put.l0 k y267 t276 0)) else (none))) = some r := by first | (rw [hy267]; with_reducible exact H) | (have H2_ := (Option.bind_some _ _).symm.trans H; rw [hy267]; with_reducible exact H2_) | (have H2_ := (Option.bind_some _ _).symm.trans H; with_reducible exact H2_) | with_reducible exact H | (rw [hy267]; exact H) | exact H
 have Ny267 := Am hy267
 clear hy267
 obtain ⟨y270, hy270⟩ : ∃ y_ : List Int, y_ = (([(a0_0) % 256] : List Int)) := ⟨_, rfl⟩
 replace H : (if y270.length + l0_1.length < 140737488355328 then ((garnerref01_Of.f k (y270 ++ l0_1)).bind fun t276 => (garnerref03_Put.l0 k y267 t276 0)) else (none)) = some r := by first | (rw [hy270]; with_reducible exact H) | (have H2_ := (Option.bind_some _ _).symm.trans H; rw [hy270]; with_reducible exact H2_) | (have H2_ := (Option.bind_some _ _).symm.trans H; with_reducible exact H2_) | with_reducible exact H | (rw [hy270]; exact H) | exact H
 have Ny270 := Am hy270
 clear hy270
 by_cases c5 : y270.length + l0_1.length < 140737488355328
 rotate_left
 ·rw [if_neg c5] at H
  exact absurd H (by simp)
 rw [if_pos c5] at H
 have LMc5 := Am c5
 clear c5
 obtain ⟨y273, hy273⟩ : ∃ y_ : List Int, y_ = (y270 ++ l0_1) := ⟨_, rfl⟩
 replace H : ((garnerref01_Of.f k y273).bind fun t276 => (garnerref03_Put.l0 k y267 t276 0)) = some r := by first | (rw [hy273]; with_reducible exact H) | (have H2_ := (Option.bind_some _ _).symm.trans H; rw [hy273]; with_reducible exact H2_) | (have H2_ := (Option.bind_some _ _).symm.trans H; with_reducible exact H2_) | with_reducible exact H | (rw [hy273]; exact H) | exact H
 have Ny273 := Am hy273
 clear hy273
 replace H := Option.bind_eq_some_iff.mp H
 obtain ⟨t276, A60, H⟩ := H
 replace H : (garnerref03_Put.l0 k y267 t276 0) = some r := H
 have A6 := Am A60
 clear A60
 have H' := Am H
 clear H
 go_enter Try.func32, Try.ntmps32
 try go_wp2_with (first | ((with_reducible refine gate_dst (N := 1) rfl ?_); refine box_event ?hg (N := 1) ?hd (cs := #[.int .i64 a0_0, .slice A0_1 l0_1.length c0_1]) (t := 50) ?hr ?_; (case hd => rfl); (case hg => rfl); (case hr => first | (go_simp; done) | (go_simp; rfl)); intro Ad hg w7 hbox hb; have Aa := Am (hbox); have A7 := Am ((by rw [hg]; exact (below_size (pB HB.out)) : w.heap.size ≤ Ad)); replace HB := Am (below_step (pB HB.out) hb); have Ab := A7; clear hb hbox hg))
 replace Aa := kDa Aa
 replace HB := bDa HB
 refine start_ (n := 11) (S := fun w' => cG w' Ad 0 (.int .i64 a0_0) ∧ cG w' Ad 1 (.slice A0_1 l0_1.length c0_1)) (ds := []) #[false, false, false, false, false, false, false, false, false, false, false] (by kernel_rfl) rfl rfl ⟨(blk_cell Aa.out 0).trans rfl, (blk_cell Aa.out 1).trans rfl⟩ (fun hHeld => ?_); refine with_tabW garnerref03_Put.tab1 garnerref03_Put.bits1 (fun HT_ HW_ => ?_)
 generalize w7.drew = w8 at Aa HB hHeld ⊢
 refine pui 0 6 11 1 HT_ ?_
 refine pui 5 11 11 33 HT_ ?_
 refine tki 1 7 11 35 HT_ HW_ hHeld ?_
 refine pui 2 8 11 39 HT_ ?_
 refine pui 3 9 11 47 HT_ ?_
 refine tki 6 12 11 111 HT_ HW_ hHeld ?_
 refine pui 7 13 11 239 HT_ ?_
 refine join_ (σ := Value × Value) 2 #[true, true, true, true, true, true, true, true, true, false, false] (fun s_ => [(10, s_.1), (14, s_.2)]) (fun s_ w' => (cG w' Ad 0 (.int .i64 a0_0) ∧ cG w' Ad 1 (.slice A0_1 l0_1.length c0_1)) ∧ (Kd.R (Kd.int .u8) 5 w' w.heap.size (fun k_ => some k_ ≠ (s_.2 : Value).ownBlock) s_.1 t258) ∧ (Kd.R (Kd.int .u8) 5 w' w.heap.size (fun k_ => some k_ ≠ (s_.1 : Value).ownBlock) s_.2 y261) ∧ (w'.heap[Ad]? = some (.cells #[.int .i64 a0_0, .slice A0_1 l0_1.length c0_1] 50 (0, 0))) ∧ (Below w.heap.size w w')) ?_ ?_
 rotate_left
 ·intro hCont
  refine two_ (i := 4) (j := 8) (Ni := some 10) (Nj := some 14) (bw 11 255) #[true, true, true, true, false, true, true, true, true, false, false] rfl rfl rfl rfl (two_of HT_.out (by kernel_rfl)) (by decide) (by decide) (fun K hK => ?_) (fun K hK => ?_)
  ·skip
   refine goes_ Try.func30 (by kernel_rfl) rfl #[.int .u64 (IntKind.u64.wrap ((l0_1.length : Int)))] (by rfl) rfl rfl pL ?_
   with_reducible refine (garnerref02_One.calls k (IntKind.u64.wrap ((l0_1.length : Int))) t258 _ A2.out).mono ?_
   rintro e w9 ⟨v259, rfl, ho0, hb⟩
   refine ⟨_, rfl, ?_⟩
   have Ae := Am (Kd.R_lower ho0 (below_size (pE HB.out Ab.out)))
   replace Aa := kBa Aa hb
   replace HB := Am (below_step (pE HB.out Ab.out) hb)
   (try clear hb)
   (try clear hb2)
   (try clear hk)
   (try clear hi)
   (try clear ho0)
   refine hK.out _ _ ⟨(blk_cell Aa.out 0).trans rfl, (blk_cell Aa.out 1).trans rfl⟩ (fun hHeld => ?_)
   clear hK K
   refine norm_ (a' := ?_) ?_ ?_
   rotate_left
   ·show Act.put _ (some 10) _ = _
    simp only [Act.put, List.setIfInBounds_toArray, List.set_cons_zero, List.set_cons_succ, i64_w, i32_w]
    rfl
   refine onei 8 14 11 511 HT_ (fun K hK => ?_)
   refine Kd.R_lit_step (Kd.int .u8) _ 5 ?hg (N := 14) ?hd (xs := ([(a0_0) % 256] : List Int)) (inner := [.int .u8 ((a0_0) % 256)]) (ok := fun _ => True) (okp := fun _ => True) ?hr ?hp (fun _ hk => hk) trivial (Below.refl _ _) (Nat.le_refl _) (by simp) ?_; (case hd => rfl); (case hg => rfl); (case hr => first | (go_simp; done) | (go_simp; rfl)); (case hp => exact (Reps.one (show Kd.M (Kd.int .u8) _ _ _ ((a0_0) % 256) [.int .u8 ((a0_0) % 256)] from rfl) (Reps.none _ _)))
   intro v262 w10 ho11 hb hg_ hnew_
   clear hg_ hnew_
   (first | rw [← Ny261.out] at ho11 | (simp only [Int.reduceToNat] at ho11; rw [← Ny261.out] at ho11))
   have Ac := Am (Kd.R_lower (Kd.R_new' ho11 (Kd.R_lt (pR Ae.out))) (below_size (pE HB.out Ab.out)))
   replace Ae := Am (Kd.R_elder' (pR Ae.out) (Kd.R_base ho11) hb)
   replace Aa := kBa Aa hb
   replace HB := Am (below_step (pE HB.out Ab.out) hb)
   clear hb ho11
   refine hK.out _ _ ⟨(blk_cell Aa.out 0).trans rfl, (blk_cell Aa.out 1).trans rfl⟩ (fun hHeld => ?_)
   clear hK K
   refine norm_ (a' := ?_) ?_ ?_
   rotate_left
   ·show Act.put _ (some 14) _ = _
    simp only [Act.put, List.setIfInBounds_toArray, List.set_cons_zero, List.set_cons_succ, i64_w, i32_w]
    rfl
   exact norm_ (by simp only [putAll, Act.put, List.setIfInBounds_toArray, List.set_cons_zero, List.set_cons_succ]) (hCont (v259, v262) _ ⟨hHeld, (by (with_reducible repeat (first | apply Kd.R_alloc | apply Kd.R_drewN | apply Kd.R_drew)); exact Kd.R_mono Ae.out (fun _ hk => hk.2)), (by (with_reducible repeat (first | apply Kd.R_alloc | apply Kd.R_drewN | apply Kd.R_drew)); exact Kd.R_mono Ac.out (fun _ hk => hk.2)), (pK Aa.out), (pE HB.out Ab.out)⟩)
  skip
  refine Kd.R_lit_step (Kd.int .u8) _ 5 ?hg (N := 14) ?hd (xs := ([(a0_0) % 256] : List Int)) (inner := [.int .u8 ((a0_0) % 256)]) (ok := fun _ => True) (okp := fun _ => True) ?hr ?hp (fun _ hk => hk) trivial (Below.refl _ _) (Nat.le_refl _) (by simp) ?_; (case hd => rfl); (case hg => rfl); (case hr => first | (go_simp; done) | (go_simp; rfl)); (case hp => exact (Reps.one (show Kd.M (Kd.int .u8) _ _ _ ((a0_0) % 256) [.int .u8 ((a0_0) % 256)] from rfl) (Reps.none _ _)))
  intro v262 w9 ho10 hb hg_ hnew_
  clear hg_ hnew_
  (first | rw [← Ny261.out] at ho10 | (simp only [Int.reduceToNat] at ho10; rw [← Ny261.out] at ho10))
  have Ac := Am (Kd.R_lower ho10 (below_size (pE HB.out Ab.out)))
  replace Aa := kBa Aa hb
  replace HB := Am (below_step (pE HB.out Ab.out) hb)
  clear hb ho10
  refine hK.out _ _ ⟨(blk_cell Aa.out 0).trans rfl, (blk_cell Aa.out 1).trans rfl⟩ (fun hHeld => ?_)
  clear hK K
  refine norm_ (a' := ?_) ?_ ?_
  rotate_left
  ·show Act.put _ (some 14) _ = _
   simp only [Act.put, List.setIfInBounds_toArray, List.set_cons_zero, List.set_cons_succ, i64_w, i32_w]
   rfl
  refine onei 4 10 11 511 HT_ (fun K hK => ?_)
  refine goes_ Try.func30 (by kernel_rfl) rfl #[.int .u64 (IntKind.u64.wrap ((l0_1.length : Int)))] (by rfl) rfl rfl pL ?_
  with_reducible refine (garnerref02_One.calls k (IntKind.u64.wrap ((l0_1.length : Int))) t258 _ A2.out).mono ?_
  rintro e w11 ⟨v259, rfl, ho0, hb⟩
  refine ⟨_, rfl, ?_⟩
  have Ae := Am (Kd.R_lower (Kd.R_new' ho0 (Kd.R_lt (pR Ac.out))) (below_size (pE HB.out Ab.out)))
  replace Ac := Am (Kd.R_elder' (pR Ac.out) (Kd.R_base ho0) hb)
  replace Aa := kBa Aa hb
  replace HB := Am (below_step (pE HB.out Ab.out) hb)
  (try clear hb)
  (try clear hb2)
  (try clear hk)
  (try clear hi)
  (try clear ho0)
  refine hK.out _ _ ⟨(blk_cell Aa.out 0).trans rfl, (blk_cell Aa.out 1).trans rfl⟩ (fun hHeld => ?_)
  clear hK K
  refine norm_ (a' := ?_) ?_ ?_
  rotate_left
  ·show Act.put _ (some 10) _ = _
   simp only [Act.put, List.setIfInBounds_toArray, List.set_cons_zero, List.set_cons_succ, i64_w, i32_w]
   rfl
  exact norm_ (by simp only [putAll, Act.put, List.setIfInBounds_toArray, List.set_cons_zero, List.set_cons_succ]) (hCont (v259, v262) _ ⟨hHeld, (by (with_reducible repeat (first | apply Kd.R_alloc | apply Kd.R_drewN | apply Kd.R_drew)); exact Kd.R_mono Ae.out (fun _ hk => hk.2)), (by (with_reducible repeat (first | apply Kd.R_alloc | apply Kd.R_drewN | apply Kd.R_drew)); exact Kd.R_mono Ac.out (fun _ hk => hk.2)), (pK Aa.out), (pE HB.out Ab.out)⟩)
 rintro ⟨v259, v262⟩ w12 ⟨hS_, h0_, h1_, h2_, h3_⟩
 have Ae : Aside0 (Kd.R (Kd.int .u8) 5 w12 w.heap.size (fun k_ => some k_ ≠ (v262 : Value).ownBlock) v259 t258) := ⟨h0_⟩
 have Ac : Aside0 (Kd.R (Kd.int .u8) 5 w12 w.heap.size (fun k_ => some k_ ≠ (v259 : Value).ownBlock) v262 y261) := ⟨h1_⟩
 replace Aa : Aside0 (w12.heap[Ad]? = some (.cells #[.int .i64 a0_0, .slice A0_1 l0_1.length c0_1] 50 (0, 0))) := ⟨h2_⟩
 replace HB : Aside0 (Below w.heap.size w w12) := ⟨h3_⟩
 clear h0_ h1_ h2_ h3_
 have hHeld : w12.cell? ⟨Ad, 0, none⟩ = some (.int .i64 a0_0) ∧ w12.cell? ⟨Ad, 1, none⟩ = some (.slice A0_1 l0_1.length c0_1) := hS_
 obtain ⟨Ap, Aq, A5⟩ := Kd.R_slice Ac.out
 (first | subst A5 | (injection A5 with f1_ f2_ f3_; have f4_ := f1_.symm; have f5_ := f3_.symm; clear f1_ f2_ f3_; subst f4_; subst f5_))
 refine norm_ (a' := ?_) ?_ ?_
 rotate_left
 ·simp only [putAll, Act.put, List.setIfInBounds_toArray, List.set_cons_zero, List.set_cons_succ]
  rfl
 refine onei 9 15 11 1023 HT_ (fun K hK => ?_)
 refine Kd.R_append_rows_step (Kd.int .u8) (w0 := w) w.heap.size (by rfl) (.tmp 10) (.tmp 14) 22 5 (.int .u8 0) 1 rfl Try.underlying22 info5 rfl (by decide) (by omega) v259 t258 y261 _ _ _ (fun k_ => some k_ ≠ (.slice Ap y261.length Aq : Value).ownBlock) (fun _ => False) rfl rfl ?aO ?aR (fun _ _ h => h) (fun _ h => h.elim) ?aF ?aB ?aS ?aL ?_
 (case aR => exact pC (Kd.R_reads' Ac.out).2.2)
 (case aB => exact (pE HB.out Ab.out))
 (case aF => exact (fun k_ hk => Kd.fresh' (Kd.R_lt (pR Ac.out)) k_ hk))
 (case aO => exact (pR Ae.out))
 (case aS => exact (below_size (pE HB.out Ab.out)))
 (case aL => have := LMc3.out; omega)
 intro v265 w13 ho hb hg hat
 rw [← Ny264.out] at ho
 replace Aa := Am (blk_grown (g := Ad) (o := .cells #[.int .i64 a0_0, .slice A0_1 l0_1.length c0_1] 50 (0, 0)) (pK Aa.out) hg (Kd.R_ne Ae.out Aa.out (by decide)))
 replace Ac := Am (Kd.R_after (ok := (fun _ => True)) (by (with_reducible repeat (first | apply Kd.R_alloc | apply Kd.R_drewN | apply Kd.R_drew)); exact Kd.R_mono Ac.out (fun _ hk => ⟨trivial, hk⟩)) hg hat)
 replace HB := Am (hb)
 have Al := Am (ho)
 clear Ae
 clear ho hb hg hat
 refine hK.out _ _ ⟨(blk_cell Aa.out 0).trans rfl, (blk_cell Aa.out 1).trans rfl⟩ (fun hHeld => ?_)
 clear hK K
 refine norm_ (a' := ?_) ?_ ?_
 rotate_left
 ·show Act.put _ (some 15) _ = _
  simp only [Act.put, List.setIfInBounds_toArray, List.set_cons_zero, List.set_cons_succ, i64_w, i32_w]
  rfl
 refine pui 10 3 11 2047 HT_ ?_
 refine done_ (done_of HT_.out (by kernel_rfl)) ?_
 obtain ⟨Ar, As⟩ := bc2 Aa.out
 obtain ⟨At, Au⟩ := bf2 Aa.out
 try go_wp2_with (first | ((with_reducible refine gate_builtin (b := .append) (xs := #[.tmp 16, .tmp 18]) rfl ?_); at_builtin; refine Kd.R_append_rows (Kd.int .u8) (w0 := w) w.heap.size rfl (.tmp 16) (.tmp 18) 22 5 (.int .u8 0) 1 rfl Try.underlying22 info5 rfl (by decide) (by omega) v265 y264 l0_1 _ _ _ (fun k_ => some k_ ≠ (.slice Ap y261.length Aq : Value).ownBlock) (fun _ => False) rfl rfl ?aO ?aR (fun _ _ h => h) (fun _ h => h.elim) ?aF ?aB ?aS ?aL ?_; (case aR => exact pC (Kd.C_below A4.out HB.out)); (case aB => exact (pE HB.out Ab.out)); (case aF => exact (fun k_ hk => Kd.fresh' (Kd.R_lt (pR Ac.out)) k_ hk)); (case aO => exact (pR Al.out)); (case aS => exact (below_size (pE HB.out Ab.out))); (case aL => have := LMc4.out; omega); intro v268 w16 ho hb hg hat; rw [← Ny267.out] at ho; replace Aa := Am (blk_grown (g := Ad) (o := .cells #[.int .i64 a0_0, .slice A0_1 l0_1.length c0_1] 50 (0, 0)) (pK Aa.out) hg (Kd.R_ne Al.out Aa.out (by decide))); replace Ac := Am (Kd.R_after (ok := (fun _ => True)) (pR Ac.out) hg hat); replace HB := Am (hb); have Ag := Am (ho); clear Al ho hb hg hat; obtain ⟨Av, Aw⟩ := bc2 Aa.out; obtain ⟨Ax, Ay⟩ := bf2 Aa.out) | ((with_reducible refine gate_dst (N := 23) rfl ?_); refine Kd.R_lit (Kd.int .u8) _ 5 ?hg (N := 23) ?hd (xs := ([(a0_0) % 256] : List Int)) (inner := [.int .u8 ((a0_0) % 256)]) (ok := fun _ => True) (okp := fun _ => True) ?hr ?hp (fun _ hk => hk) trivial (Below.refl _ _) (Nat.le_refl _) (by simp) ?_; (case hd => rfl); (case hg => rfl); (case hr => first | (go_simp; done) | (go_simp; rfl)); (case hp => exact (Reps.one (show Kd.M (Kd.int .u8) _ _ _ ((a0_0) % 256) [.int .u8 ((a0_0) % 256)] from rfl) (Reps.none _ _))); intro v271 w18 ho19 hb hg_ hnew_; clear hg_ hnew_; (first | rw [← Ny270.out] at ho19 | (simp only [Int.reduceToNat] at ho19; rw [← Ny270.out] at ho19)); have An := Am (Kd.R_lower (Kd.R_new' (Kd.R_new' ho19 (Kd.R_lt (pR Ac.out))) (Kd.R_lt (pR Ag.out))) (below_size (pE HB.out Ab.out))); replace Ac := Am (Kd.R_elder' (pR Ac.out) (Kd.R_base ho19) hb); replace Ag := Am (Kd.R_elder' (pR Ag.out) (Kd.R_base ho19) hb); replace Aa := kBa Aa hb; replace HB := Am (below_step (pE HB.out Ab.out) hb); clear hb ho19; obtain ⟨Az, A0⟩ := bc2 Aa.out; obtain ⟨A1, A3⟩ := bf2 Aa.out) | ((with_reducible refine gate_builtin (b := .append) (xs := #[.tmp 23, .tmp 25]) rfl ?_); at_builtin; refine Kd.R_append_rows (Kd.int .u8) (w0 := w) w.heap.size rfl (.tmp 23) (.tmp 25) 22 5 (.int .u8 0) 1 rfl Try.underlying22 info5 rfl (by decide) (by omega) v271 y270 l0_1 _ _ _ (fun k_ => some k_ ≠ (.slice Ap y261.length Aq : Value).ownBlock ∧ some k_ ≠ (v268 : Value).ownBlock) (fun _ => False) rfl rfl ?aO ?aR (fun _ _ h => h) (fun _ h => h.elim) ?aF ?aB ?aS ?aL ?_; (case aR => exact pC (Kd.C_below A4.out HB.out)); (case aB => exact (pE HB.out Ab.out)); (case aF => exact (fun k_ hk => ⟨Kd.fresh' (Kd.R_lt (pR Ac.out)) k_ hk, Kd.fresh' (Kd.R_lt (pR Ag.out)) k_ hk⟩)); (case aO => exact (by (with_reducible repeat (first | apply Kd.R_alloc | apply Kd.R_drewN | apply Kd.R_drew)); exact Kd.R_mono An.out (fun _ hk => ⟨hk.1.2, hk.2⟩))); (case aS => exact (below_size (pE HB.out Ab.out))); (case aL => have := LMc5.out; omega); intro v274 w21 ho hb hg hat; rw [← Ny273.out] at ho; replace Aa := Am (blk_grown (g := Ad) (o := .cells #[.int .i64 a0_0, .slice A0_1 l0_1.length c0_1] 50 (0, 0)) (pK Aa.out) hg (Kd.R_ne An.out Aa.out (by decide))); replace Ac := Am (Kd.R_after (ok := (fun k_ => some k_ ≠ (v268 : Value).ownBlock)) (by (with_reducible repeat (first | apply Kd.R_alloc | apply Kd.R_drewN | apply Kd.R_drew)); exact Kd.R_mono Ac.out (fun _ hk => ⟨hk.1.2, hk.2⟩)) hg hat); replace Ag := Am (Kd.R_after (ok := (fun k_ => some k_ ≠ (.slice Ap y261.length Aq : Value).ownBlock)) (pR Ag.out) hg hat); replace HB := Am (hb); have Ao := Am (ho); clear An ho hb hg hat; obtain ⟨Bb, Bc, Bd⟩ := Kd.R_slice Ao.out; subst Bd) | ((with_reducible refine gate_callee (f := 46) rfl ?_); refine goesL_ (some 27) rfl rfl Try.func46 (by kernel_rfl) rfl #[.slice Bb y273.length Bc] rfl pL ?_; (with_reducible refine (garnerref01_Of.calls k _ _ y273 t276 _ ?A8 ?A9 A6.out).mono ?_); (case A8 => exact pC (Kd.R_reads' Ao.out).2.2); (case A9 => exact (Kd.R_reads' Ao.out).2.1); rintro e w' ⟨rfl, ⟨nd, rfl⟩⟩; refine ⟨_, rfl, ?_⟩))
 go_loopg [3, 4, 5] k (fun kq v3 v4 v5 w' => ∃ (Ai : List Int) (Af : Int) (Ah : Int), v4 = .int .u32 Af ∧ v5 = .int .i64 Ah ∧ Aside0 (garnerref03_Put.l0 kq Ai Af Ah = some r) ∧ Aside0 (kq ≤ k) ∧ Aside0 (Kd.R (Kd.int .u8) 5 w' w.heap.size (fun _ => True) v3 Ai) ∧ Aside0 (w'.heap[Ad]? = some (.cells #[.int .i64 a0_0, (.slice A0_1 l0_1.length c0_1)] 50 (0, 0))) ∧ Aside0 (Below w.heap.size w w'))
 case atStart => exact ⟨(y267), (t276), (0), (by first | rfl | (simp; done) | (simp [*]; done)), (by first | rfl | (simp; done) | (simp [*]; done)), H', ⟨Nat.le_refl _⟩, ⟨by (with_reducible repeat (first | apply Kd.R_alloc | apply Kd.R_drewN | apply Kd.R_drew)); exact Kd.R_mono Ag.out (fun _ hk => trivial)⟩, ⟨pK Aa.out⟩, ⟨pE HB.out Ab.out⟩⟩
 case round =>
  clear H'
  try clear p2
  try clear c3
  try clear c4
  try clear c5
  try clear Ar As
  try clear Av Aw
  try clear Az A0
  try clear At Au
  try clear Ax Ay
  try clear A1 A3
  obtain ⟨Ai, Af, Ah, rfl, rfl, HA, HK1, Ak, Aa, HB⟩ := hrel
  cases gk with
  | zero => exact absurd HA.out (by simp [garnerref03_Put.l0])
  | succ k1 =>
   have H := HA.out
   clear HA
   simp only [garnerref03_Put.l0] at H
   by_cases c23 : Ah < 4
   rotate_left
   ·rw [if_neg c23] at H
    have c23b0 : decide (Ah < 4) = false := decide_eq_false c23
    clear c23
    obtain rfl := Option.some.inj H
    go_wp2
    go_ret
    exact ⟨_, pX, by (with_reducible repeat (first | apply Kd.R_alloc | apply Kd.R_drewN | apply Kd.R_drew)); exact Ak.out, pE HB.out Ab.out⟩
   rw [if_pos c23] at H
   have c23b0 : decide (Ah < 4) = true := decide_eq_true c23
   clear c23
   obtain ⟨y277, hy277⟩ : ∃ y_ : List Int, y_ = (([(Int.tmod Af 256) % 256] : List Int)) := ⟨_, rfl⟩
   replace H : (if Ai.length + y277.length < 140737488355328 then (garnerref03_Put.l0 k1 (Ai ++ y277) ((Int.tdiv Af 256) % 4294967296) (wrap64 (Ah + 1))) else (none)) = some r := by first | (rw [hy277]; with_reducible exact H) | (have H2_ := (Option.bind_some _ _).symm.trans H; rw [hy277]; with_reducible exact H2_) | (have H2_ := (Option.bind_some _ _).symm.trans H; with_reducible exact H2_) | with_reducible exact H | (rw [hy277]; exact H) | exact H
   have Ny277 := Am hy277
   clear hy277
   by_cases c24 : Ai.length + y277.length < 140737488355328
   rotate_left
   ·rw [if_neg c24] at H
    exact absurd H (by simp)
   rw [if_pos c24] at H
   have LMc24 := Am c24
   clear c24
   obtain ⟨y280, hy280⟩ : ∃ y_ : List Int, y_ = (Ai ++ y277) := ⟨_, rfl⟩
   replace H : (garnerref03_Put.l0 k1 y280 ((Int.tdiv Af 256) % 4294967296) (wrap64 (Ah + 1))) = some r := by first | (rw [hy280]; with_reducible exact H) | (have H2_ := (Option.bind_some _ _).symm.trans H; rw [hy280]; with_reducible exact H2_) | (have H2_ := (Option.bind_some _ _).symm.trans H; with_reducible exact H2_) | with_reducible exact H | (rw [hy280]; exact H) | exact H
   have Ny280 := Am hy280
   clear hy280
   have H' := Am H
   clear H
   go_wp2_with (first | ((with_reducible refine gate_dst (N := 36) rfl ?_); refine Kd.R_lit (Kd.int .u8) _ 5 ?hg (N := 36) ?hd (xs := ([(Int.tmod Af 256) % 256] : List Int)) (inner := [.int .u8 ((Int.tmod Af 256) % 256)]) (ok := fun _ => True) (okp := fun _ => True) ?hr ?hp (fun _ hk => hk) trivial (Below.refl _ _) (Nat.le_refl _) (by simp) ?_; (case hd => rfl); (case hg => rfl); (case hr => first | (go_simp; done) | (go_simp; rfl)); (case hp => exact (Reps.one (show Kd.M (Kd.int .u8) _ _ _ ((Int.tmod Af 256) % 256) [.int .u8 ((Int.tmod Af 256) % 256)] from rfl) (Reps.none _ _))); intro v278 w25 ho26 hb hg_ hnew_; clear hg_ hnew_; (first | rw [← Ny277.out] at ho26 | (simp only [Int.reduceToNat] at ho26; rw [← Ny277.out] at ho26)); have Aj := Am (Kd.R_lower (Kd.R_new' ho26 (Kd.R_lt (pR Ak.out))) (below_size (pE HB.out Ab.out))); replace Ak := Am (Kd.R_elder' (pR Ak.out) (Kd.R_base ho26) hb); replace Aa := kBa Aa hb; replace HB := Am (below_step (pE HB.out Ab.out) hb); clear hb ho26; obtain ⟨Be, Bf, Bg⟩ := Kd.R_slice Aj.out; subst Bg) | ((with_reducible refine gate_builtin (b := .append) (xs := #[.tmp 32, .tmp 36]) rfl ?_); at_builtin; refine Kd.R_append_rows (Kd.int .u8) (w0 := w) w.heap.size rfl (.tmp 32) (.tmp 36) 22 5 (.int .u8 0) 1 rfl Try.underlying22 info5 rfl (by decide) (by omega) u3 Ai y277 _ _ _ (fun k_ => some k_ ≠ (.slice Be y277.length Bf : Value).ownBlock) (fun _ => False) rfl rfl ?aO ?aR (fun _ _ h => h) (fun _ h => h.elim) ?aF ?aB ?aS ?aL ?_; (case aR => exact pC (Kd.R_reads' Aj.out).2.2); (case aB => exact (pE HB.out Ab.out)); (case aF => exact (fun k_ hk => Kd.fresh' (Kd.R_lt (pR Aj.out)) k_ hk)); (case aO => exact (by (with_reducible repeat (first | apply Kd.R_alloc | apply Kd.R_drewN | apply Kd.R_drew)); exact Kd.R_mono Ak.out (fun _ hk => hk.2))); (case aS => exact (below_size (pE HB.out Ab.out))); (case aL => have := LMc24.out; omega); intro v281 w27 ho hb hg hat; rw [← Ny280.out] at ho; replace Aa := Am (blk_grown (g := Ad) (o := .cells #[.int .i64 a0_0, .slice A0_1 l0_1.length c0_1] 50 (0, 0)) (pK Aa.out) hg (Kd.R_ne Ak.out Aa.out (by decide))); replace Aj := Am (Kd.R_after (ok := (fun _ => True)) (pR Aj.out) hg hat); replace HB := Am (hb); have Ba := Am (ho); clear Ak ho hb hg hat))
   go_roundg k1
   case measure => have := HK1.out; omega
   case rel => exact ⟨(y280), ((Int.tdiv Af 256) % 4294967296), (wrap64 (Ah + 1)), (by first | rfl | (simp; done) | (simp [*]; done)), (by first | rfl | (simp; done) | (simp [*]; done)), H', ⟨by have := HK1.out; omega⟩, ⟨by (with_reducible repeat (first | apply Kd.R_alloc | apply Kd.R_drewN | apply Kd.R_drew)); exact Kd.R_mono Ba.out (fun _ hk => trivial)⟩, ⟨pK Aa.out⟩, ⟨pE HB.out Ab.out⟩⟩
end Go.Proofs.Ytjebpaahpehfnaa.PRelayGets
