/- What the law reaches, as plain Lean functions, and that the machine's calls answer just that. -/
import Derived.Test.YtjebpaahpehfnaaPRelayPutsx0
import Derived.Test.YtjebpaahpehfnaaPRelayPutsx10
namespace Go.Proofs.Ytjebpaahpehfnaa.PRelayPuts
open Go.RowKit Go.Proofs.YtjebpaahpehfnaaW.PrintWords Go.Proofs.YtjebpaahpehfnaaW.PrintLast Go.Proofs.YtjebpaahpehfnaaW.PrintMore
attribute [local go_sem] max2_int min2_int max_two min_two max_three min_three max_four min_four
set_option linter.unusedVariables false
set_option linter.unusedSimpArgs false
attribute [local go_sem] wrap64_l1 wrap64_l2 wrap64_l3 wrap64_l4 wrap64_l5
mutual
def garnerref01_run.l0 : Nat → Int → List Int → Int → Option (Int)
 | 0, _, _, _ => none
 | k + 1, x0, x1, x5 => if x5 < (x1.length : Int) then (garnerref01_run.l1 k x0 x1 x5 0) else (some x0)
def garnerref01_run.l1 : Nat → Int → List Int → Int → Int → Option (Int)
 | 0, _, _, _, _ => none
 | k + 1, x0, x1, x5, x6 => if x6 < 8 then (if 0 ≤ x5 then (if x5 < (x1.length : Int) then ((garnerref01_bit.f k ((rd x1 x5) % 4294967296) x6).bind fun t358 => ((garnerref01_step.f k x0 t358).bind fun t359 => (garnerref01_run.l1 k t359 x1 x5 (wrap64 (x6 + 1))))) else (none)) else (none)) else (garnerref01_run.l0 k x0 x1 (wrap64 (x5 + 1)))
end
def garnerref01_run.f (k : Nat) (a0 : Int) (l1 : List Int) : Option (Int) := garnerref01_run.l0 k a0 l1 0
theorem garnerref01_run.mono_l : ∀ k, (∀ y0 y1 y2, LeO (garnerref01_run.l0 k y0 y1 y2) (garnerref01_run.l0 (k + 1) y0 y1 y2)) ∧ (∀ y0 y1 y2 y3, LeO (garnerref01_run.l1 k y0 y1 y2 y3) (garnerref01_run.l1 (k + 1) y0 y1 y2 y3))
 | 0 => ⟨fun _ _ _ r h => by simp [garnerref01_run.l0] at h, fun _ _ _ _ r h => by simp [garnerref01_run.l1] at h⟩
 | k + 1 => by
  obtain ⟨ih0, ih1⟩ := garnerref01_run.mono_l k
  refine ⟨?_, ?_⟩
  ·intro y0 y1 y2
   unfold garnerref01_run.l0
   repeat' first
   | (with_reducible exact ih0 _ _ _)
   | (with_reducible exact ih1 _ _ _ _)
   | (with_reducible exact garnerref01_bit.mono _ _ _)
   | (with_reducible exact garnerref01_step.mono _ _ _)
   | (with_reducible exact LeO.refl _)
   | (with_reducible exact LeO.none _)
   | (with_reducible refine LeO.ite ?_ ?_)
   | (with_reducible refine LeO.bind ?_ (fun _ => ?_))
   | exact ih0 _ _ _
   | exact ih1 _ _ _ _
   | exact garnerref01_bit.mono _ _ _
   | exact garnerref01_step.mono _ _ _
   | exact LeO.none _
   | refine LeO.ite ?_ ?_
   | refine LeO.bind ?_ (fun _ => ?_)
  ·intro y0 y1 y2 y3
   unfold garnerref01_run.l1
   repeat' first
   | (with_reducible exact ih0 _ _ _)
   | (with_reducible exact ih1 _ _ _ _)
   | (with_reducible exact garnerref01_bit.mono _ _ _)
   | (with_reducible exact garnerref01_step.mono _ _ _)
   | (with_reducible exact LeO.refl _)
   | (with_reducible exact LeO.none _)
   | (with_reducible refine LeO.ite ?_ ?_)
   | (with_reducible refine LeO.bind ?_ (fun _ => ?_))
   | exact ih0 _ _ _
   | exact ih1 _ _ _ _
   | exact garnerref01_bit.mono _ _ _
   | exact garnerref01_step.mono _ _ _
   | exact LeO.none _
   | refine LeO.ite ?_ ?_
   | refine LeO.bind ?_ (fun _ => ?_)
theorem garnerref01_run.mono : ∀ a0 a1 k, LeO (garnerref01_run.f k a0 a1) (garnerref01_run.f (k + 1) a0 a1) := by
 intro a0 a1 k
 obtain ⟨ih0, ih1⟩ := garnerref01_run.mono_l k
 unfold garnerref01_run.f
 repeat' first
   | (with_reducible exact ih0 _ _ _)
   | (with_reducible exact ih1 _ _ _ _)
   | (with_reducible exact garnerref01_bit.mono _ _ _)
   | (with_reducible exact garnerref01_step.mono _ _ _)
   | (with_reducible exact LeO.refl _)
   | (with_reducible exact LeO.none _)
   | (with_reducible refine LeO.ite ?_ ?_)
   | (with_reducible refine LeO.bind ?_ (fun _ => ?_))
   | exact ih0 _ _ _
   | exact ih1 _ _ _ _
   | exact garnerref01_bit.mono _ _ _
   | exact garnerref01_step.mono _ _ _
   | exact LeO.none _
   | refine LeO.ite ?_ ?_
   | refine LeO.bind ?_ (fun _ => ?_)
set_option maxHeartbeats 8000000 in
set_option maxRecDepth 100000 in
theorem garnerref01_run.calls (k : Nat) (a0 : Int) (A1 : Option Addr) (c1 : Nat) (l1 : List Int) (r : Int) (w : World) (hr1 : Kd.C (Kd.int .u8) w A1 l1.length l1) (hc1 : l1.length ≤ c1) (h : garnerref01_run.f k a0 l1 = some r) :
  Calls Try.prog 54 #[.int .u32 a0, .slice A1 l1.length c1] w fun e w' => e = .returned (.int .u32 r) ∧ Drawn0 w w' := by
 have HR1 := Am hr1
 have HC1 := Am hc1
 clear hr1 hc1
 have H : (garnerref01_run.l0 k a0 l1 0) = some r := h
 clear h
 have H' := Am H
 clear H
 go_enter Try.func54, Try.ntmps54
 go_wp2
 go_loopg [0, 5] k (fun kq v0 v5 w' => ∃ (Ad : Int) (Aa : Int), v0 = .int .u32 Ad ∧ v5 = .int .i64 Aa ∧ Aside0 (garnerref01_run.l0 kq Ad l1 Aa = some r) ∧ Aside0 (kq ≤ k) ∧ Drawn0 w w')
 case atStart => exact ⟨(a0), (0), (by first | rfl | (simp; done) | (simp [*]; done)), (by first | rfl | (simp; done) | (simp [*]; done)), H', ⟨Nat.le_refl _⟩, by repeat (first | exact Drawn0.refl _ | apply Drawn0.step)⟩
 case round =>
  clear H'
  try clear c1
  try clear p2
  obtain ⟨Ad, Aa, rfl, rfl, HA, HK1, ⟨m1, rfl⟩⟩ := hrel
  cases gk with
  | zero => exact absurd HA.out (by simp [garnerref01_run.l0])
  | succ k1 =>
   have H := HA.out
   clear HA
   simp only [garnerref01_run.l0] at H
   by_cases c3 : Aa < (l1.length : Int)
   rotate_left
   ·rw [if_neg c3] at H
    have c3b0 : decide (Aa < (l1.length : Int)) = false := decide_eq_false c3
    clear c3
    obtain rfl := Option.some.inj H
    go_wp2
    go_ret
    exact ⟨by first | rfl | (simp; done) | (simp [*]; done), by repeat (first | exact Drawn0.refl _ | apply Drawn0.step)⟩
   rw [if_pos c3] at H
   have c3b0 : decide (Aa < (l1.length : Int)) = true := decide_eq_true c3
   clear c3
   have H' := Am H
   clear H
   go_wp2
   go_loopg [0, 6] k1 (fun kq v0 v6 w' => ∃ (Ac : Int) (Ab : Int), v0 = .int .u32 Ac ∧ v6 = .int .i64 Ab ∧ Aside0 (garnerref01_run.l1 kq Ac l1 Aa Ab = some r) ∧ Aside0 (kq ≤ k1) ∧ Drawn0 w w')
   case atStart => exact ⟨(Ad), (0), (by first | rfl | (simp; done) | (simp [*]; done)), (by first | rfl | (simp; done) | (simp [*]; done)), H', ⟨Nat.le_refl _⟩, by repeat (first | exact Drawn0.refl _ | apply Drawn0.step)⟩
   case round =>
    clear H'
    try clear c1
    try clear p2
    try clear c3
    try clear c3b0
    try clear p2
    obtain ⟨Ac, Ab, rfl, rfl, HA, HK2, ⟨m2, rfl⟩⟩ := hrel
    cases gk with
    | zero => exact absurd HA.out (by simp [garnerref01_run.l1])
    | succ k2 =>
     have H := HA.out
     clear HA
     simp only [garnerref01_run.l1] at H
     by_cases c4 : Ab < 8
     rotate_left
     ·rw [if_neg c4] at H
      have c4b0 : decide (Ab < 8) = false := decide_eq_false c4
      clear c4
      have H' := Am H
      clear H
      go_wp2
      go_roundg k2
      case measure => have := HK1.out; have := HK2.out; omega
      case rel => exact ⟨(Ac), (wrap64 (Aa + 1)), (by first | rfl | (simp; done) | (simp [*]; done)), (by first | rfl | (simp; done) | (simp [*]; done)), H', ⟨by have := HK1.out; have := HK2.out; omega⟩, by repeat (first | exact Drawn0.refl _ | apply Drawn0.step)⟩
     rw [if_pos c4] at H
     have c4b0 : decide (Ab < 8) = true := decide_eq_true c4
     clear c4
     by_cases c5 : 0 ≤ Aa
     rotate_left
     ·rw [if_neg c5] at H
      exact absurd H (by simp)
     rw [if_pos c5] at H
     have c5b0 : decide (0 ≤ Aa) = true := decide_eq_true c5
     clear c5
     by_cases c6 : Aa < (l1.length : Int)
     rotate_left
     ·rw [if_neg c6] at H
      exact absurd H (by simp)
     rw [if_pos c6] at H
     have c6b0 : decide (Aa < (l1.length : Int)) = true := decide_eq_true c6
     clear c6
     replace H := Option.bind_eq_some_iff.mp H
     obtain ⟨t358, A70, H⟩ := H
     replace H : ((garnerref01_step.f k2 Ac t358).bind fun t359 => (garnerref01_run.l1 k2 t359 l1 Aa (wrap64 (Ab + 1)))) = some r := H
     have A7 := Am A70
     clear A70
     replace H := Option.bind_eq_some_iff.mp H
     obtain ⟨t359, A80, H⟩ := H
     replace H : (garnerref01_run.l1 k2 t359 l1 Aa (wrap64 (Ab + 1))) = some r := H
     have A8 := Am A80
     clear A80
     have H' := Am H
     clear H
     have p357 : 0 ≤ (Aa : Int) := of_decide_eq_true pS
     have q357 : Aa < (l1.length : Int) := of_decide_eq_true pS
     obtain ⟨ad357, e357, hx357_0⟩ := Kd.at_int HR1.out Aa p357 q357
     cases e357
     replace p357 := eq_true p357
     replace q357 := eq_true q357
     go_wp2_with (first | ((with_reducible refine gate_callee (f := 58) rfl ?_); refine goesL_ (some 24) rfl rfl Try.func58 (by kernel_rfl) rfl #[.int .u32 ((rd l1 Aa) % 4294967296), .int .i64 Ab] rfl pL ?_; (with_reducible refine (garnerref01_bit.calls k2 ((rd l1 Aa) % 4294967296) Ab t358 _ A7.out).mono ?_); rintro e w' ⟨rfl, ⟨nd, rfl⟩⟩; refine ⟨_, rfl, ?_⟩) | ((with_reducible refine gate_callee (f := 57) rfl ?_); refine goesL_ (some 25) rfl rfl Try.func57 (by kernel_rfl) rfl #[.int .u32 Ac, .int .i64 t358] rfl pL ?_; (with_reducible refine (garnerref01_step.calls k2 Ac t358 t359 _ A8.out).mono ?_); rintro e w' ⟨rfl, ⟨nd, rfl⟩⟩; refine ⟨_, rfl, ?_⟩))
     go_roundg k2
     case measure => have := HK1.out; have := HK2.out; omega
     case rel => exact ⟨(t359), (wrap64 (Ab + 1)), (by first | rfl | (simp; done) | (simp [*]; done)), (by first | rfl | (simp; done) | (simp [*]; done)), H', ⟨by have := HK1.out; have := HK2.out; omega⟩, by repeat (first | exact Drawn0.refl _ | apply Drawn0.step)⟩
def garnerref01_Of.f (k : Nat) (l0 : List Int) : Option (Int) := (garnerref01_run.f k 4294967295 l0).bind fun t360 => (some (Go.bits .xor .u32 4294967295 t360))
theorem garnerref01_Of.mono : ∀ a0 k, LeO (garnerref01_Of.f k a0) (garnerref01_Of.f (k + 1) a0) := by
 intro a0 k
 unfold garnerref01_Of.f
 repeat' first
   | (with_reducible exact garnerref01_run.mono _ _ _)
   | (with_reducible exact LeO.refl _)
   | (with_reducible exact LeO.none _)
   | (with_reducible refine LeO.ite ?_ ?_)
   | (with_reducible refine LeO.bind ?_ (fun _ => ?_))
   | exact garnerref01_run.mono _ _ _
   | exact LeO.none _
   | refine LeO.ite ?_ ?_
   | refine LeO.bind ?_ (fun _ => ?_)
set_option maxHeartbeats 8000000 in
set_option maxRecDepth 100000 in
theorem garnerref01_Of.calls (k : Nat) (A0 : Option Addr) (c0 : Nat) (l0 : List Int) (r : Int) (w : World) (hr0 : Kd.C (Kd.int .u8) w A0 l0.length l0) (hc0 : l0.length ≤ c0) (h : garnerref01_Of.f k l0 = some r) :
  Calls Try.prog 46 #[.slice A0 l0.length c0] w fun e w' => e = .returned (.int .u32 r) ∧ Drawn0 w w' := by
 have HR0 := Am hr0
 have HC0 := Am hc0
 clear hr0 hc0
 have H : ((garnerref01_run.f k 4294967295 l0).bind fun t360 => (some (Go.bits .xor .u32 4294967295 t360))) = some r := h
 clear h
 replace H := Option.bind_eq_some_iff.mp H
 obtain ⟨t360, A20, H⟩ := H
 replace H : (some (Go.bits .xor .u32 4294967295 t360)) = some r := H
 have A2 := Am A20
 clear A20
 obtain rfl := Option.some.inj H
 go_enter Try.func46, Try.ntmps46
 go_wp2_with (first | ((with_reducible refine gate_callee (f := 54) rfl ?_); refine goesL_ (some 4) rfl rfl Try.func54 (by kernel_rfl) rfl #[.int .u32 4294967295, .slice A0 l0.length c0] rfl pL ?_; (with_reducible refine (garnerref01_run.calls k 4294967295 _ _ l0 t360 _ ?side1 ?side2 A2.out).mono ?_); (case side1 => repeat (first | exact HR0.out | (with_reducible refine Kd.C_alloc ?_ _) | (with_reducible refine Kd.C_drewN ?_ _) | (with_reducible refine Kd.C_drew ?_))); (case side2 => exact HC0.out); rintro e w' ⟨rfl, ⟨nd, rfl⟩⟩; refine ⟨_, rfl, ?_⟩))
 go_ret
 exact ⟨by first | rfl | (simp; done) | (simp [*]; done), by repeat (first | exact Drawn0.refl _ | apply Drawn0.step)⟩
def garnerref03_Put.l0 : Nat → List Int → Int → Int → Option (List Int)
 | 0, _, _, _ => none
 | k + 1, x3, x4, x5 => if x5 < 4 then ((some (([(Int.tmod x4 256) % 256] : List Int) : List Int)).bind fun y381 => (if x3.length + y381.length < 140737488355328 then (garnerref03_Put.l0 k (x3 ++ y381) ((Int.tdiv x4 256) % 4294967296) (wrap64 (x5 + 1))) else (none))) else (some x3)
def garnerref03_Put.f (k : Nat) (a0_0 : Int) (l0_1 : List Int) : Option (List Int) := (garnerref02_One.f k (IntKind.u64.wrap ((l0_1.length : Int)))).bind fun t362 => ((some (([(a0_0) % 256] : List Int) : List Int)).bind fun y365 => (if t362.length + y365.length < 140737488355328 then ((some (t362 ++ y365 : List Int)).bind fun y368 => (if y368.length + l0_1.length < 140737488355328 then ((some (([(a0_0) % 256] : List Int) : List Int)).bind fun y374 => (if y374.length + l0_1.length < 140737488355328 then ((garnerref01_Of.f k (y374 ++ l0_1)).bind fun t380 => (garnerref03_Put.l0 k (y368 ++ l0_1) t380 0)) else (none))) else (none))) else (none)))
theorem garnerref03_Put.mono_l : ∀ k, (∀ y0 y1 y2, LeO (garnerref03_Put.l0 k y0 y1 y2) (garnerref03_Put.l0 (k + 1) y0 y1 y2))
 | 0 => fun _ _ _ r h => by simp [garnerref03_Put.l0] at h
 | k + 1 => by
  have ih0 := garnerref03_Put.mono_l k
  ·intro y0 y1 y2
   unfold garnerref03_Put.l0
   repeat' first
   | (with_reducible exact ih0 _ _ _)
   | (with_reducible exact garnerref01_Of.mono _ _)
   | (with_reducible exact garnerref02_One.mono _ _)
   | (with_reducible exact LeO.refl _)
   | (with_reducible exact LeO.none _)
   | (with_reducible refine LeO.ite ?_ ?_)
   | (with_reducible refine LeO.bind ?_ (fun _ => ?_))
   | exact ih0 _ _ _
   | exact garnerref01_Of.mono _ _
   | exact garnerref02_One.mono _ _
   | exact LeO.none _
   | refine LeO.ite ?_ ?_
   | refine LeO.bind ?_ (fun _ => ?_)
theorem garnerref03_Put.mono : ∀ a0 a1 k, LeO (garnerref03_Put.f k a0 a1) (garnerref03_Put.f (k + 1) a0 a1) := by
 intro a0 a1 k
 have ih0 := garnerref03_Put.mono_l k
 unfold garnerref03_Put.f
 repeat' first
   | (with_reducible exact ih0 _ _ _)
   | (with_reducible exact garnerref01_Of.mono _ _)
   | (with_reducible exact garnerref02_One.mono _ _)
   | (with_reducible exact LeO.refl _)
   | (with_reducible exact LeO.none _)
   | (with_reducible refine LeO.ite ?_ ?_)
   | (with_reducible refine LeO.bind ?_ (fun _ => ?_))
   | exact ih0 _ _ _
   | exact garnerref01_Of.mono _ _
   | exact garnerref02_One.mono _ _
   | exact LeO.none _
   | refine LeO.ite ?_ ?_
   | refine LeO.bind ?_ (fun _ => ?_)
def garnerref03_Put.T1 : Bool × List (List Nat × List Nat) := (true, [([], []), ([0], [0]), ([1], [1]), ([2], [2]), ([3], [3]), ([], []), ([5], [5]), ([6], [6]), ([7], [7]), ([4, 8, 4], [4, 8]), ([9, 9, 0, 1, 2, 3, 4, 5, 6, 7, 8, 9], [9])])
def garnerref03_Put.B1 : List Nat := [0, 1, 3, 7, 15, 0, 32, 96, 224, 511, 1023]
theorem garnerref03_Put.tab1 : rtab .any (opsOf Try.f32 1) = garnerref03_Put.T1 := by kernel_rfl
theorem garnerref03_Put.bits1 : waitsOk garnerref03_Put.T1.2 garnerref03_Put.B1 = true := by kernel_rfl
set_option maxHeartbeats 8000000 in
set_option maxRecDepth 100000 in
theorem garnerref03_Put.calls (k : Nat) (a0_0 : Int) (A0_1 : Option Addr) (c0_1 : Nat) (l0_1 : List Int) (r : List Int) (w : World) (hr0_1 : Kd.C (Kd.int .u8) w A0_1 l0_1.length l0_1) (hc0_1 : l0_1.length ≤ c0_1) (h : garnerref03_Put.f k a0_0 l0_1 = some r) :
  Calls Try.prog 32 #[.agg #[.int .i64 a0_0, .slice A0_1 l0_1.length c0_1]] w fun e w' => ∃ v0_ : Value, e = .returned (v0_) ∧ Kd.R (Kd.int .u8) 5 w' w.heap.size (fun _ => True) v0_ r ∧ Below w.heap.size w w' := by
 have hu50 := Try.underlying50
 have A4 := Am hr0_1
 have HC0_1 := Am hc0_1
 clear hr0_1 hc0_1
 have HB := Am (Below.refl w.heap.size w)
 have H : ((garnerref02_One.f k (IntKind.u64.wrap ((l0_1.length : Int)))).bind fun t362 => ((some (([(a0_0) % 256] : List Int) : List Int)).bind fun y365 => (if t362.length + y365.length < 140737488355328 then ((some (t362 ++ y365 : List Int)).bind fun y368 => (if y368.length + l0_1.length < 140737488355328 then ((some (([(a0_0) % 256] : List Int) : List Int)).bind fun y374 => (if y374.length + l0_1.length < 140737488355328 then ((garnerref01_Of.f k (y374 ++ l0_1)).bind fun t380 => (garnerref03_Put.l0 k (y368 ++ l0_1) t380 0)) else (none))) else (none))) else (none)))) = some r := h
 clear h
 replace H := Option.bind_eq_some_iff.mp H
 obtain ⟨t362, A20, H⟩ := H
 replace H : ((some (([(a0_0) % 256] : List Int) : List Int)).bind fun y365 => (if t362.length + y365.length < 140737488355328 then ((some (t362 ++ y365 : List Int)).bind fun y368 => (if y368.length + l0_1.length < 140737488355328 then ((some (([(a0_0) % 256] : List Int) : List Int)).bind fun y374 => (if y374.length + l0_1.length < 140737488355328 then ((garnerref01_Of.f k (y374 ++ l0_1)).bind fun t380 => (garnerref03_Put.l0 k (y368 ++ l0_1) t380 0)) else (none))) else (none))) else (none))) = some r := H
 have A2 := Am A20
 clear A20
 obtain ⟨y365, hy365⟩ : ∃ y_ : List Int, y_ = (([(a0_0) % 256] : List Int)) := ⟨_, rfl⟩
 replace H : (if t362.length + y365.length < 140737488355328 then ((some (t362 ++ y365 : List Int)).bind fun y368 => (if y368.length + l0_1.length < 140737488355328 then ((some (([(a0_0) % 256] : List Int) : List Int)).bind fun y374 => (if y374.length + l0_1.length < 140737488355328 then ((garnerref01_Of.f k (y374 ++ l0_1)).bind fun t380 => (garnerref03_Put.l0 k (y368 ++ l0_1) t380 0)) else (none))) else (none))) else (none)) = some r := by first | (rw [hy365]; with_reducible exact H) | (have H2_ := (Option.bind_some _ _).symm.trans H; rw [hy365]; with_reducible exact H2_) | (have H2_ := (Option.bind_some _ _).symm.trans H; with_reducible exact H2_) | with_reducible exact H | (rw [hy365]; exact H) | exact H
 have Ny365 := Am hy365
 clear hy365
 by_cases c3 : t362.length + y365.length < 140737488355328
 rotate_left
 ·rw [if_neg c3] at H
  exact absurd H (by simp)
 rw [if_pos c3] at H
 have LMc3 := Am c3
 clear c3
 obtain ⟨y368, hy368⟩ : ∃ y_ : List Int, y_ = (t362 ++ y365) := ⟨_, rfl⟩
 replace H : (if y368.length + l0_1.length < 140737488355328 then ((some (([(a0_0) % 256] : List Int) : List Int)).bind fun y374 => (if y374.length + l0_1.length < 140737488355328 then ((garnerref01_Of.f k (y374 ++ l0_1)).bind fun t380 => (garnerref03_Put.l0 k (y368 ++ l0_1) t380 0)) else (none))) else (none)) = some r := by first | (rw [hy368]; with_reducible exact H) | (have H2_ := (Option.bind_some _ _).symm.trans H; rw [hy368]; with_reducible exact H2_) | (have H2_ := (Option.bind_some _ _).symm.trans H; with_reducible exact H2_) | with_reducible exact H | (rw [hy368]; exact H) | exact H
 have Ny368 := Am hy368
 clear hy368
 by_cases c4 : y368.length + l0_1.length < 140737488355328
 rotate_left
 ·rw [if_neg c4] at H
  exact absurd H (by simp)
 rw [if_pos c4] at H
 have LMc4 := Am c4
 clear c4
 obtain ⟨y371, hy371⟩ : ∃ y_ : List Int, y_ = (y368 ++ l0_1) := ⟨_, rfl⟩
 replace H : ((some (([(a0_0) % 256] : List Int) : List Int)).bind fun y374 => (if y374.length + l0_1.length < 140737488355328 then ((garnerref01_Of.f k (y374 ++ l0_1)).bind fun t380 => (garnerref03_Put.l0 k y371 t380 0)) else (none))) = some r := by first | (rw [hy371]; with_reducible exact H) | (have H2_ := (Option.bind_some _ _).symm.trans H; rw [hy371]; with_reducible exact H2_) | (have H2_ := (Option.bind_some _ _).symm.trans H; with_reducible exact H2_) | with_reducible exact H | (rw [hy371]; exact H) | exact H
 have Ny371 := Am hy371
 clear hy371
 obtain ⟨y374, hy374⟩ : ∃ y_ : List Int, y_ = (([(a0_0) % 256] : List Int)) := ⟨_, rfl⟩
 replace H : (if y374.length + l0_1.length < 140737488355328 then ((garnerref01_Of.f k (y374 ++ l0_1)).bind fun t380 => (garnerref03_Put.l0 k y371 t380 0)) else (none)) = some r := by first | (rw [hy374]; with_reducible exact H) | (have H2_ := (Option.bind_some _ _).symm.trans H; rw [hy374]; with_reducible exact H2_) | (have H2_ := (Option.bind_some _ _).symm.trans H; with_reducible exact H2_) | with_reducible exact H | (rw [hy374]; exact H) | exact H
 have Ny374 := Am hy374
 clear hy374
 by_cases c5 : y374.length + l0_1.length < 140737488355328
 rotate_left
 ·rw [if_neg c5] at H
  exact absurd H (by simp)
 rw [if_pos c5] at H
 have LMc5 := Am c5
 clear c5
 obtain ⟨y377, hy377⟩ : ∃ y_ : List Int, y_ = (y374 ++ l0_1) := ⟨_, rfl⟩
 replace H : ((garnerref01_Of.f k y377).bind fun t380 => (garnerref03_Put.l0 k y371 t380 0)) = some r := by first | (rw [hy377]; with_reducible exact H) | (have H2_ := (Option.bind_some _ _).symm.trans H; rw [hy377]; with_reducible exact H2_) | (have H2_ := (Option.bind_some _ _).symm.trans H; with_reducible exact H2_) | with_reducible exact H | (rw [hy377]; exact H) | exact H
 have Ny377 := Am hy377
 clear hy377
 replace H := Option.bind_eq_some_iff.mp H
 obtain ⟨t380, A60, H⟩ := H
 replace H : (garnerref03_Put.l0 k y371 t380 0) = some r := H
 have A6 := Am A60
 clear A60
 have H' := Am H
 clear H
 go_enter Try.func32, Try.ntmps32
 try go_wp2_with (first | ((with_reducible refine gate_dst (N := 1) rfl ?_); refine box_event ?hg (N := 1) ?hd (cs := #[.int .i64 a0_0, .slice A0_1 l0_1.length c0_1]) (t := 50) ?hr ?_; (case hd => rfl); (case hg => rfl); (case hr => first | (go_simp; done) | (go_simp; rfl)); intro Ad hg w7 hbox hb; have Aa := Am (hbox); have A7 := Am ((by rw [hg]; exact (below_size (pB HB.out)) : w.heap.size ≤ Ad)); replace HB := Am (below_step (pB HB.out) hb); have Ab := A7; clear hb hbox hg))
 replace Aa := kDa Aa
 replace HB := bDa HB
 refine start_ (n := 11) (S := fun w' => cG w' Ad 0 (.int .i64 a0_0) ∧ cG w' Ad 1 (.slice A0_1 l0_1.length c0_1)) (ds := []) #[false, false, false, false, false, false, false, false, false, false, false] (by kernel_rfl) rfl rfl ⟨(blk_cell Aa.out 0).trans rfl, (blk_cell Aa.out 1).trans rfl⟩ (fun hHeld => ?_); refine with_tabW garnerref03_Put.tab1 garnerref03_Put.bits1 (fun HT_ HW_ => ?_)
 generalize w7.drew = w8 at Aa HB hHeld ⊢
 refine pui 0 6 11 1 HT_ ?_
 refine pui 5 11 11 33 HT_ ?_
 refine tki 1 7 11 35 HT_ HW_ hHeld ?_
 refine pui 2 8 11 39 HT_ ?_
 refine pui 3 9 11 47 HT_ ?_
 refine tki 6 12 11 111 HT_ HW_ hHeld ?_
 refine pui 7 13 11 239 HT_ ?_
 refine join_ (σ := Value × Value) 2 #[true, true, true, true, true, true, true, true, true, false, false] (fun s_ => [(10, s_.1), (14, s_.2)]) (fun s_ w' => (cG w' Ad 0 (.int .i64 a0_0) ∧ cG w' Ad 1 (.slice A0_1 l0_1.length c0_1)) ∧ (Kd.R (Kd.int .u8) 5 w' w.heap.size (fun k_ => some k_ ≠ (s_.2 : Value).ownBlock) s_.1 t362) ∧ (Kd.R (Kd.int .u8) 5 w' w.heap.size (fun k_ => some k_ ≠ (s_.1 : Value).ownBlock) s_.2 y365) ∧ (w'.heap[Ad]? = some (.cells #[.int .i64 a0_0, .slice A0_1 l0_1.length c0_1] 50 (0, 0))) ∧ (Below w.heap.size w w')) ?_ ?_
 rotate_left
 ·intro hCont
  refine two_ (i := 4) (j := 8) (Ni := some 10) (Nj := some 14) (bw 11 255) #[true, true, true, true, false, true, true, true, true, false, false] rfl rfl rfl rfl (two_of HT_.out (by kernel_rfl)) (by decide) (by decide) (fun K hK => ?_) (fun K hK => ?_)
  ·skip
   refine goes_ Try.func30 (by kernel_rfl) rfl #[.int .u64 (IntKind.u64.wrap ((l0_1.length : Int)))] (by rfl) rfl rfl pL ?_
   with_reducible refine (garnerref02_One.calls k (IntKind.u64.wrap ((l0_1.length : Int))) t362 _ A2.out).mono ?_
   rintro e w9 ⟨v363, rfl, ho0, hb⟩
   refine ⟨_, rfl, ?_⟩
   have Ae := Am (Kd.R_lower ho0 (below_size (pE HB.out Ab.out)))
   replace Aa := kBa Aa hb
   replace HB := Am (below_step (pE HB.out Ab.out) hb)
   (try clear hb)
   (try clear hb2)
   (try clear hk)
   (try clear hi)
   (try clear ho0)
   refine hK.out _ _ ⟨(blk_cell Aa.out 0).trans rfl, (blk_cell Aa.out 1).trans rfl⟩ (fun hHeld => ?_)
   clear hK K
   refine norm_ (a' := ?_) ?_ ?_
   rotate_left
   ·show Act.put _ (some 10) _ = _
    simp only [Act.put, List.setIfInBounds_toArray, List.set_cons_zero, List.set_cons_succ, i64_w, i32_w]
    rfl
   refine onei 8 14 11 511 HT_ (fun K hK => ?_)
   refine Kd.R_lit_step (Kd.int .u8) _ 5 ?hg (N := 14) ?hd (xs := ([(a0_0) % 256] : List Int)) (inner := [.int .u8 ((a0_0) % 256)]) (ok := fun _ => True) (okp := fun _ => True) ?hr ?hp (fun _ hk => hk) trivial (Below.refl _ _) (Nat.le_refl _) (by simp) ?_; (case hd => rfl); (case hg => rfl); (case hr => first | (go_simp; done) | (go_simp; rfl)); (case hp => exact (Reps.one (show Kd.M (Kd.int .u8) _ _ _ ((a0_0) % 256) [.int .u8 ((a0_0) % 256)] from rfl) (Reps.none _ _)))
   intro v366 w10 ho11 hb hg_ hnew_
   clear hg_ hnew_
   (first | rw [← Ny365.out] at ho11 | (simp only [Int.reduceToNat] at ho11; rw [← Ny365.out] at ho11))
   have Ac := Am (Kd.R_lower (Kd.R_new' ho11 (Kd.R_lt (pR Ae.out))) (below_size (pE HB.out Ab.out)))
   replace Ae := Am (Kd.R_elder' (pR Ae.out) (Kd.R_base ho11) hb)
   replace Aa := kBa Aa hb
   replace HB := Am (below_step (pE HB.out Ab.out) hb)
   clear hb ho11
   refine hK.out _ _ ⟨(blk_cell Aa.out 0).trans rfl, (blk_cell Aa.out 1).trans rfl⟩ (fun hHeld => ?_)
   clear hK K
   refine norm_ (a' := ?_) ?_ ?_
   rotate_left
   ·show Act.put _ (some 14) _ = _
    simp only [Act.put, List.setIfInBounds_toArray, List.set_cons_zero, List.set_cons_succ, i64_w, i32_w]
    rfl
   exact norm_ (by simp only [putAll, Act.put, List.setIfInBounds_toArray, List.set_cons_zero, List.set_cons_succ]) (hCont (v363, v366) _ ⟨hHeld, (by (with_reducible repeat (first | apply Kd.R_alloc | apply Kd.R_drewN | apply Kd.R_drew)); exact Kd.R_mono Ae.out (fun _ hk => hk.2)), (by (with_reducible repeat (first | apply Kd.R_alloc | apply Kd.R_drewN | apply Kd.R_drew)); exact Kd.R_mono Ac.out (fun _ hk => hk.2)), (pK Aa.out), (pE HB.out Ab.out)⟩)
  skip
  refine Kd.R_lit_step (Kd.int .u8) _ 5 ?hg (N := 14) ?hd (xs := ([(a0_0) % 256] : List Int)) (inner := [.int .u8 ((a0_0) % 256)]) (ok := fun _ => True) (okp := fun _ => True) ?hr ?hp (fun _ hk => hk) trivial (Below.refl _ _) (Nat.le_refl _) (by simp) ?_; (case hd => rfl); (case hg => rfl); (case hr => first | (go_simp; done) | (go_simp; rfl)); (case hp => exact (Reps.one (show Kd.M (Kd.int .u8) _ _ _ ((a0_0) % 256) [.int .u8 ((a0_0) % 256)] from rfl) (Reps.none _ _)))
  intro v366 w9 ho10 hb hg_ hnew_
  clear hg_ hnew_
  (first | rw [← Ny365.out] at ho10 | (simp only [Int.reduceToNat] at ho10; rw [← Ny365.out] at ho10))
  have Ac := Am (Kd.R_lower ho10 (below_size (pE HB.out Ab.out)))
  replace Aa := kBa Aa hb
  replace HB := Am (below_step (pE HB.out Ab.out) hb)
  clear hb ho10
  refine hK.out _ _ ⟨(blk_cell Aa.out 0).trans rfl, (blk_cell Aa.out 1).trans rfl⟩ (fun hHeld => ?_)
  clear hK K
  refine norm_ (a' := ?_) ?_ ?_
  rotate_left
  ·show Act.put _ (some 14) _ = _
   simp only [Act.put, List.setIfInBounds_toArray, List.set_cons_zero, List.set_cons_succ, i64_w, i32_w]
   rfl
  refine onei 4 10 11 511 HT_ (fun K hK => ?_)
  refine goes_ Try.func30 (by kernel_rfl) rfl #[.int .u64 (IntKind.u64.wrap ((l0_1.length : Int)))] (by rfl) rfl rfl pL ?_
  with_reducible refine (garnerref02_One.calls k (IntKind.u64.wrap ((l0_1.length : Int))) t362 _ A2.out).mono ?_
  rintro e w11 ⟨v363, rfl, ho0, hb⟩
  refine ⟨_, rfl, ?_⟩
  have Ae := Am (Kd.R_lower (Kd.R_new' ho0 (Kd.R_lt (pR Ac.out))) (below_size (pE HB.out Ab.out)))
  replace Ac := Am (Kd.R_elder' (pR Ac.out) (Kd.R_base ho0) hb)
  replace Aa := kBa Aa hb
  replace HB := Am (below_step (pE HB.out Ab.out) hb)
  (try clear hb)
  (try clear hb2)
  (try clear hk)
  (try clear hi)
  (try clear ho0)
  refine hK.out _ _ ⟨(blk_cell Aa.out 0).trans rfl, (blk_cell Aa.out 1).trans rfl⟩ (fun hHeld => ?_)
  clear hK K
  refine norm_ (a' := ?_) ?_ ?_
  rotate_left
  ·show Act.put _ (some 10) _ = _
   simp only [Act.put, List.setIfInBounds_toArray, List.set_cons_zero, List.set_cons_succ, i64_w, i32_w]
   rfl
  exact norm_ (by simp only [putAll, Act.put, List.setIfInBounds_toArray, List.set_cons_zero, List.set_cons_succ]) (hCont (v363, v366) _ ⟨hHeld, (by (with_reducible repeat (first | apply Kd.R_alloc | apply Kd.R_drewN | apply Kd.R_drew)); exact Kd.R_mono Ae.out (fun _ hk => hk.2)), (by (with_reducible repeat (first | apply Kd.R_alloc | apply Kd.R_drewN | apply Kd.R_drew)); exact Kd.R_mono Ac.out (fun _ hk => hk.2)), (pK Aa.out), (pE HB.out Ab.out)⟩)
 rintro ⟨v363, v366⟩ w12 ⟨hS_, h0_, h1_, h2_, h3_⟩
 have Ae : Aside0 (Kd.R (Kd.int .u8) 5 w12 w.heap.size (fun k_ => some k_ ≠ (v366 : Value).ownBlock) v363 t362) := ⟨h0_⟩
 have Ac : Aside0 (Kd.R (Kd.int .u8) 5 w12 w.heap.size (fun k_ => some k_ ≠ (v363 : Value).ownBlock) v366 y365) := ⟨h1_⟩
 replace Aa : Aside0 (w12.heap[Ad]? = some (.cells #[.int .i64 a0_0, .slice A0_1 l0_1.length c0_1] 50 (0, 0))) := ⟨h2_⟩
 replace HB : Aside0 (Below w.heap.size w w12) := ⟨h3_⟩
 clear h0_ h1_ h2_ h3_
 have hHeld : w12.cell? ⟨Ad, 0, none⟩ = some (.int .i64 a0_0) ∧ w12.cell? ⟨Ad, 1, none⟩ = some (.slice A0_1 l0_1.length c0_1) := hS_
 obtain ⟨Ap, Aq, A5⟩ := Kd.R_slice Ac.out
 (first | subst A5 | (injection A5 with f1_ f2_ f3_; have f4_ := f1_.symm; have f5_ := f3_.symm; clear f1_ f2_ f3_; subst f4_; subst f5_))
 refine norm_ (a' := ?_) ?_ ?_
 rotate_left
 ·simp only [putAll, Act.put, List.setIfInBounds_toArray, List.set_cons_zero, List.set_cons_succ]
  rfl
 refine onei 9 15 11 1023 HT_ (fun K hK => ?_)
 refine Kd.R_append_rows_step (Kd.int .u8) (w0 := w) w.heap.size (by rfl) (.tmp 10) (.tmp 14) 22 5 (.int .u8 0) 1 rfl Try.underlying22 info5 rfl (by decide) (by omega) v363 t362 y365 _ _ _ (fun k_ => some k_ ≠ (.slice Ap y365.length Aq : Value).ownBlock) (fun _ => False) rfl rfl ?aO ?aR (fun _ _ h => h) (fun _ h => h.elim) ?aF ?aB ?aS ?aL ?_
 (case aR => exact pC (Kd.R_reads' Ac.out).2.2)
 (case aB => exact (pE HB.out Ab.out))
 (case aF => exact (fun k_ hk => Kd.fresh' (Kd.R_lt (pR Ac.out)) k_ hk))
 (case aO => exact (pR Ae.out))
 (case aS => exact (below_size (pE HB.out Ab.out)))
 (case aL => have := LMc3.out; omega)
 intro v369 w13 ho hb hg hat
 rw [← Ny368.out] at ho
 replace Aa := Am (blk_grown (g := Ad) (o := .cells #[.int .i64 a0_0, .slice A0_1 l0_1.length c0_1] 50 (0, 0)) (pK Aa.out) hg (Kd.R_ne Ae.out Aa.out (by decide)))
 replace Ac := Am (Kd.R_after (ok := (fun _ => True)) (by (with_reducible repeat (first | apply Kd.R_alloc | apply Kd.R_drewN | apply Kd.R_drew)); exact Kd.R_mono Ac.out (fun _ hk => ⟨trivial, hk⟩)) hg hat)
 replace HB := Am (hb)
 have Al := Am (ho)
 clear Ae
 clear ho hb hg hat
 refine hK.out _ _ ⟨(blk_cell Aa.out 0).trans rfl, (blk_cell Aa.out 1).trans rfl⟩ (fun hHeld => ?_)
 clear hK K
 refine norm_ (a' := ?_) ?_ ?_
 rotate_left
 ·show Act.put _ (some 15) _ = _
  simp only [Act.put, List.setIfInBounds_toArray, List.set_cons_zero, List.set_cons_succ, i64_w, i32_w]
  rfl
 refine pui 10 3 11 2047 HT_ ?_
 refine done_ (done_of HT_.out (by kernel_rfl)) ?_
 obtain ⟨Ar, As⟩ := bc2 Aa.out
 obtain ⟨At, Au⟩ := bf2 Aa.out
 try go_wp2_with (first | ((with_reducible refine gate_builtin (b := .append) (xs := #[.tmp 16, .tmp 18]) rfl ?_); at_builtin; refine Kd.R_append_rows (Kd.int .u8) (w0 := w) w.heap.size rfl (.tmp 16) (.tmp 18) 22 5 (.int .u8 0) 1 rfl Try.underlying22 info5 rfl (by decide) (by omega) v369 y368 l0_1 _ _ _ (fun k_ => some k_ ≠ (.slice Ap y365.length Aq : Value).ownBlock) (fun _ => False) rfl rfl ?aO ?aR (fun _ _ h => h) (fun _ h => h.elim) ?aF ?aB ?aS ?aL ?_; (case aR => exact pC (Kd.C_below A4.out HB.out)); (case aB => exact (pE HB.out Ab.out)); (case aF => exact (fun k_ hk => Kd.fresh' (Kd.R_lt (pR Ac.out)) k_ hk)); (case aO => exact (pR Al.out)); (case aS => exact (below_size (pE HB.out Ab.out))); (case aL => have := LMc4.out; omega); intro v372 w16 ho hb hg hat; rw [← Ny371.out] at ho; replace Aa := Am (blk_grown (g := Ad) (o := .cells #[.int .i64 a0_0, .slice A0_1 l0_1.length c0_1] 50 (0, 0)) (pK Aa.out) hg (Kd.R_ne Al.out Aa.out (by decide))); replace Ac := Am (Kd.R_after (ok := (fun _ => True)) (pR Ac.out) hg hat); replace HB := Am (hb); have Ag := Am (ho); clear Al ho hb hg hat; obtain ⟨Av, Aw⟩ := bc2 Aa.out; obtain ⟨Ax, Ay⟩ := bf2 Aa.out) | ((with_reducible refine gate_dst (N := 23) rfl ?_); refine Kd.R_lit (Kd.int .u8) _ 5 ?hg (N := 23) ?hd (xs := ([(a0_0) % 256] : List Int)) (inner := [.int .u8 ((a0_0) % 256)]) (ok := fun _ => True) (okp := fun _ => True) ?hr ?hp (fun _ hk => hk) trivial (Below.refl _ _) (Nat.le_refl _) (by simp) ?_; (case hd => rfl); (case hg => rfl); (case hr => first | (go_simp; done) | (go_simp; rfl)); (case hp => exact (Reps.one (show Kd.M (Kd.int .u8) _ _ _ ((a0_0) % 256) [.int .u8 ((a0_0) % 256)] from rfl) (Reps.none _ _))); intro v375 w18 ho19 hb hg_ hnew_; clear hg_ hnew_; (first | rw [← Ny374.out] at ho19 | (simp only [Int.reduceToNat] at ho19; rw [← Ny374.out] at ho19)); have An := Am (Kd.R_lower (Kd.R_new' (Kd.R_new' ho19 (Kd.R_lt (pR Ac.out))) (Kd.R_lt (pR Ag.out))) (below_size (pE HB.out Ab.out))); replace Ac := Am (Kd.R_elder' (pR Ac.out) (Kd.R_base ho19) hb); replace Ag := Am (Kd.R_elder' (pR Ag.out) (Kd.R_base ho19) hb); replace Aa := kBa Aa hb; replace HB := Am (below_step (pE HB.out Ab.out) hb); clear hb ho19; obtain ⟨Az, A0⟩ := bc2 Aa.out; obtain ⟨A1, A3⟩ := bf2 Aa.out) | ((with_reducible refine gate_builtin (b := .append) (xs := #[.tmp 23, .tmp 25]) rfl ?_); at_builtin; refine Kd.R_append_rows (Kd.int .u8) (w0 := w) w.heap.size rfl (.tmp 23) (.tmp 25) 22 5 (.int .u8 0) 1 rfl Try.underlying22 info5 rfl (by decide) (by omega) v375 y374 l0_1 _ _ _ (fun k_ => some k_ ≠ (.slice Ap y365.length Aq : Value).ownBlock ∧ some k_ ≠ (v372 : Value).ownBlock) (fun _ => False) rfl rfl ?aO ?aR (fun _ _ h => h) (fun _ h => h.elim) ?aF ?aB ?aS ?aL ?_; (case aR => exact pC (Kd.C_below A4.out HB.out)); (case aB => exact (pE HB.out Ab.out)); (case aF => exact (fun k_ hk => ⟨Kd.fresh' (Kd.R_lt (pR Ac.out)) k_ hk, Kd.fresh' (Kd.R_lt (pR Ag.out)) k_ hk⟩)); (case aO => exact (by (with_reducible repeat (first | apply Kd.R_alloc | apply Kd.R_drewN | apply Kd.R_drew)); exact Kd.R_mono An.out (fun _ hk => ⟨hk.1.2, hk.2⟩))); (case aS => exact (below_size (pE HB.out Ab.out))); (case aL => have := LMc5.out; omega); intro v378 w21 ho hb hg hat; rw [← Ny377.out] at ho; replace Aa := Am (blk_grown (g := Ad) (o := .cells #[.int .i64 a0_0, .slice A0_1 l0_1.length c0_1] 50 (0, 0)) (pK Aa.out) hg (Kd.R_ne An.out Aa.out (by decide))); replace Ac := Am (Kd.R_after (ok := (fun k_ => some k_ ≠ (v372 : Value).ownBlock)) (by (with_reducible repeat (first | apply Kd.R_alloc | apply Kd.R_drewN | apply Kd.R_drew)); exact Kd.R_mono Ac.out (fun _ hk => ⟨hk.1.2, hk.2⟩)) hg hat); replace Ag := Am (Kd.R_after (ok := (fun k_ => some k_ ≠ (.slice Ap y365.length Aq : Value).ownBlock)) (pR Ag.out) hg hat); replace HB := Am (hb); have Ao := Am (ho); clear An ho hb hg hat; obtain ⟨Bb, Bc, Bd⟩ := Kd.R_slice Ao.out; subst Bd) | ((with_reducible refine gate_callee (f := 46) rfl ?_); refine goesL_ (some 27) rfl rfl Try.func46 (by kernel_rfl) rfl #[.slice Bb y377.length Bc] rfl pL ?_; (with_reducible refine (garnerref01_Of.calls k _ _ y377 t380 _ ?A8 ?A9 A6.out).mono ?_); (case A8 => exact pC (Kd.R_reads' Ao.out).2.2); (case A9 => exact (Kd.R_reads' Ao.out).2.1); rintro e w' ⟨rfl, ⟨nd, rfl⟩⟩; refine ⟨_, rfl, ?_⟩))
 go_loopg [3, 4, 5] k (fun kq v3 v4 v5 w' => ∃ (Ai : List Int) (Af : Int) (Ah : Int), v4 = .int .u32 Af ∧ v5 = .int .i64 Ah ∧ Aside0 (garnerref03_Put.l0 kq Ai Af Ah = some r) ∧ Aside0 (kq ≤ k) ∧ Aside0 (Kd.R (Kd.int .u8) 5 w' w.heap.size (fun _ => True) v3 Ai) ∧ Aside0 (w'.heap[Ad]? = some (.cells #[.int .i64 a0_0, (.slice A0_1 l0_1.length c0_1)] 50 (0, 0))) ∧ Aside0 (Below w.heap.size w w'))
 case atStart => exact ⟨(y371), (t380), (0), (by first | rfl | (simp; done) | (simp [*]; done)), (by first | rfl | (simp; done) | (simp [*]; done)), H', ⟨Nat.le_refl _⟩, ⟨by (with_reducible repeat (first | apply Kd.R_alloc | apply Kd.R_drewN | apply Kd.R_drew)); exact Kd.R_mono Ag.out (fun _ hk => trivial)⟩, ⟨pK Aa.out⟩, ⟨pE HB.out Ab.out⟩⟩
 case round =>
  clear H'
  try clear p2
  try clear c3
  try clear c4
  try clear c5
  try clear Ar As
  try clear Av Aw
  try clear Az A0
  try clear At Au
  try clear Ax Ay
  try clear A1 A3
  obtain ⟨Ai, Af, Ah, rfl, rfl, HA, HK1, Ak, Aa, HB⟩ := hrel
  cases gk with
  | zero => exact absurd HA.out (by simp [garnerref03_Put.l0])
  | succ k1 =>
   have H := HA.out
   clear HA
   simp only [garnerref03_Put.l0] at H
   by_cases c23 : Ah < 4
   rotate_left
   ·rw [if_neg c23] at H
    have c23b0 : decide (Ah < 4) = false := decide_eq_false c23
    clear c23
    obtain rfl := Option.some.inj H
    go_wp2
    go_ret
    exact ⟨_, pX, by (with_reducible repeat (first | apply Kd.R_alloc | apply Kd.R_drewN | apply Kd.R_drew)); exact Ak.out, pE HB.out Ab.out⟩
   rw [if_pos c23] at H
   have c23b0 : decide (Ah < 4) = true := decide_eq_true c23
   clear c23
   obtain ⟨y381, hy381⟩ : ∃ y_ : List Int, y_ = (([(Int.tmod Af 256) % 256] : List Int)) := ⟨_, rfl⟩
   replace H : (if Ai.length + y381.length < 140737488355328 then (garnerref03_Put.l0 k1 (Ai ++ y381) ((Int.tdiv Af 256) % 4294967296) (wrap64 (Ah + 1))) else (none)) = some r := by first | (rw [hy381]; with_reducible exact H) | (have H2_ := (Option.bind_some _ _).symm.trans H; rw [hy381]; with_reducible exact H2_) | (have H2_ := (Option.bind_some _ _).symm.trans H; with_reducible exact H2_) | with_reducible exact H | (rw [hy381]; exact H) | exact H
   have Ny381 := Am hy381
   clear hy381
   by_cases c24 : Ai.length + y381.length < 140737488355328
   rotate_left
   ·rw [if_neg c24] at H
    exact absurd H (by simp)
   rw [if_pos c24] at H
   have LMc24 := Am c24
   clear c24
   obtain ⟨y384, hy384⟩ : ∃ y_ : List Int, y_ = (Ai ++ y381) := ⟨_, rfl⟩
   replace H : (garnerref03_Put.l0 k1 y384 ((Int.tdiv Af 256) % 4294967296) (wrap64 (Ah + 1))) = some r := by first | (rw [hy384]; with_reducible exact H) | (have H2_ := (Option.bind_some _ _).symm.trans H; rw [hy384]; with_reducible exact H2_) | (have H2_ := (Option.bind_some _ _).symm.trans H; with_reducible exact H2_) | with_reducible exact H | (rw [hy384]; exact H) | exact H
   have Ny384 := Am hy384
   clear hy384
   have H' := Am H
   clear H
   go_wp2_with (first | ((with_reducible refine gate_dst (N := 36) rfl ?_); refine Kd.R_lit (Kd.int .u8) _ 5 ?hg (N := 36) ?hd (xs := ([(Int.tmod Af 256) % 256] : List Int)) (inner := [.int .u8 ((Int.tmod Af 256) % 256)]) (ok := fun _ => True) (okp := fun _ => True) ?hr ?hp (fun _ hk => hk) trivial (Below.refl _ _) (Nat.le_refl _) (by simp) ?_; (case hd => rfl); (case hg => rfl); (case hr => first | (go_simp; done) | (go_simp; rfl)); (case hp => exact (Reps.one (show Kd.M (Kd.int .u8) _ _ _ ((Int.tmod Af 256) % 256) [.int .u8 ((Int.tmod Af 256) % 256)] from rfl) (Reps.none _ _))); intro v382 w25 ho26 hb hg_ hnew_; clear hg_ hnew_; (first | rw [← Ny381.out] at ho26 | (simp only [Int.reduceToNat] at ho26; rw [← Ny381.out] at ho26)); have Aj := Am (Kd.R_lower (Kd.R_new' ho26 (Kd.R_lt (pR Ak.out))) (below_size (pE HB.out Ab.out))); replace Ak := Am (Kd.R_elder' (pR Ak.out) (Kd.R_base ho26) hb); replace Aa := kBa Aa hb; replace HB := Am (below_step (pE HB.out Ab.out) hb); clear hb ho26; obtain ⟨Be, Bf, Bg⟩ := Kd.R_slice Aj.out; subst Bg) | ((with_reducible refine gate_builtin (b := .append) (xs := #[.tmp 32, .tmp 36]) rfl ?_); at_builtin; refine Kd.R_append_rows (Kd.int .u8) (w0 := w) w.heap.size rfl (.tmp 32) (.tmp 36) 22 5 (.int .u8 0) 1 rfl Try.underlying22 info5 rfl (by decide) (by omega) u3 Ai y381 _ _ _ (fun k_ => some k_ ≠ (.slice Be y381.length Bf : Value).ownBlock) (fun _ => False) rfl rfl ?aO ?aR (fun _ _ h => h) (fun _ h => h.elim) ?aF ?aB ?aS ?aL ?_; (case aR => exact pC (Kd.R_reads' Aj.out).2.2); (case aB => exact (pE HB.out Ab.out)); (case aF => exact (fun k_ hk => Kd.fresh' (Kd.R_lt (pR Aj.out)) k_ hk)); (case aO => exact (by (with_reducible repeat (first | apply Kd.R_alloc | apply Kd.R_drewN | apply Kd.R_drew)); exact Kd.R_mono Ak.out (fun _ hk => hk.2))); (case aS => exact (below_size (pE HB.out Ab.out))); (case aL => have := LMc24.out; omega); intro v385 w27 ho hb hg hat; rw [← Ny384.out] at ho; replace Aa := Am (blk_grown (g := Ad) (o := .cells #[.int .i64 a0_0, .slice A0_1 l0_1.length c0_1] 50 (0, 0)) (pK Aa.out) hg (Kd.R_ne Ak.out Aa.out (by decide))); replace Aj := Am (Kd.R_after (ok := (fun _ => True)) (pR Aj.out) hg hat); replace HB := Am (hb); have Ba := Am (ho); clear Ak ho hb hg hat))
   go_roundg k1
   case measure => have := HK1.out; omega
   case rel => exact ⟨(y384), ((Int.tdiv Af 256) % 4294967296), (wrap64 (Ah + 1)), (by first | rfl | (simp; done) | (simp [*]; done)), (by first | rfl | (simp; done) | (simp [*]; done)), H', ⟨by have := HK1.out; omega⟩, ⟨by (with_reducible repeat (first | apply Kd.R_alloc | apply Kd.R_drewN | apply Kd.R_drew)); exact Kd.R_mono Ba.out (fun _ hk => trivial)⟩, ⟨pK Aa.out⟩, ⟨pE HB.out Ab.out⟩⟩
def garnerref21_Put.l0 : Nat → List Int → Int → Int → List (S46) → Option (List Int)
 | 0, _, _, _, _ => none
 | k + 1, x3, x4, x388000, x388001 => if x4 < (x388001.length : Int) then (if 0 ≤ x4 then ((garnerref02_One.f k (IntKind.u64.wrap ((rd_T46 x388001 x4).f0))).bind fun t395 => (if x3.length + t395.length < 140737488355328 then ((some (x3 ++ t395 : List Int)).bind fun y398 => ((garnerref04_Put.f k ((rd_T46 x388001 x4).f1.f0) ((rd_T46 x388001 x4).f1.f1) ((rd_T46 x388001 x4).f1.f2) ((rd_T46 x388001 x4).f1.f3)).bind fun t402 => (if y398.length + t402.length < 140737488355328 then (garnerref21_Put.l0 k (y398 ++ t402) (wrap64 (x4 + 1)) x388000 x388001) else (none)))) else (none))) else (none)) else ((garnerref03_Put.f k 4 x3).bind fun t408 => (some t408))
def garnerref21_Put.f (k : Nat) (a0_0 : Int) (l0_1 : List (S46)) : Option (List Int) := (garnerref02_Put.f k (([IntKind.u64.wrap (a0_0), IntKind.u64.wrap ((l0_1.length : Int))] : List Int))).bind fun t391 => (garnerref21_Put.l0 k t391 0 a0_0 l0_1)
theorem garnerref21_Put.mono_l : ∀ k, (∀ y0 y1 y2 y3, LeO (garnerref21_Put.l0 k y0 y1 y2 y3) (garnerref21_Put.l0 (k + 1) y0 y1 y2 y3))
 | 0 => fun _ _ _ _ r h => by simp [garnerref21_Put.l0] at h
 | k + 1 => by
  have ih0 := garnerref21_Put.mono_l k
  ·intro y0 y1 y2 y3
   unfold garnerref21_Put.l0
   repeat' first
   | (with_reducible exact ih0 _ _ _ _)
   | (with_reducible exact garnerref02_One.mono _ _)
   | (with_reducible exact garnerref02_Put.mono _ _)
   | (with_reducible exact garnerref03_Put.mono _ _ _)
   | (with_reducible exact garnerref04_Put.mono _ _ _ _ _)
   | (with_reducible exact LeO.refl _)
   | (with_reducible exact LeO.none _)
   | (with_reducible refine LeO.ite ?_ ?_)
   | (with_reducible refine LeO.bind ?_ (fun _ => ?_))
   | exact ih0 _ _ _ _
   | exact garnerref02_One.mono _ _
   | exact garnerref02_Put.mono _ _
   | exact garnerref03_Put.mono _ _ _
   | exact garnerref04_Put.mono _ _ _ _ _
   | exact LeO.none _
   | refine LeO.ite ?_ ?_
   | refine LeO.bind ?_ (fun _ => ?_)
theorem garnerref21_Put.mono : ∀ a0 a1 k, LeO (garnerref21_Put.f k a0 a1) (garnerref21_Put.f (k + 1) a0 a1) := by
 intro a0 a1 k
 have ih0 := garnerref21_Put.mono_l k
 unfold garnerref21_Put.f
 repeat' first
   | (with_reducible exact ih0 _ _ _ _)
   | (with_reducible exact garnerref02_One.mono _ _)
   | (with_reducible exact garnerref02_Put.mono _ _)
   | (with_reducible exact garnerref03_Put.mono _ _ _)
   | (with_reducible exact garnerref04_Put.mono _ _ _ _ _)
   | (with_reducible exact LeO.refl _)
   | (with_reducible exact LeO.none _)
   | (with_reducible refine LeO.ite ?_ ?_)
   | (with_reducible refine LeO.bind ?_ (fun _ => ?_))
   | exact ih0 _ _ _ _
   | exact garnerref02_One.mono _ _
   | exact garnerref02_Put.mono _ _
   | exact garnerref03_Put.mono _ _ _
   | exact garnerref04_Put.mono _ _ _ _ _
   | exact LeO.none _
   | refine LeO.ite ?_ ?_
   | refine LeO.bind ?_ (fun _ => ?_)
def garnerref21_Put.T5 : Bool × List (List Nat × List Nat) := (true, [([], []), ([], []), ([1], [1]), ([], []), ([2, 3], [2, 3]), ([4], [4]), ([5], [5]), ([6], [6]), ([7], [7]), ([0, 8, 8], [0, 8]), ([], []), ([10], [10]), ([], []), ([11, 12], [11, 12]), ([13], [13]), ([14], [14]), ([15, 9], [15]), ([9, 16, 16], [9, 16]), ([17, 17, 0, 1, 2, 3, 4, 5, 6, 7, 8, 9, 10, 11, 12, 13, 14, 15, 16, 17], [0, 17])])
def garnerref21_Put.B5 : List Nat := [0, 0, 2, 0, 14, 30, 62, 126, 254, 511, 0, 1024, 0, 7168, 15360, 31744, 65535, 131071, 262143]
theorem garnerref21_Put.tab5 : rtab .any (opsOf Try.f12 5) = garnerref21_Put.T5 := by kernel_rfl
theorem garnerref21_Put.bits5 : waitsOk garnerref21_Put.T5.2 garnerref21_Put.B5 = true := by kernel_rfl
set_option maxHeartbeats 8000000 in
set_option maxRecDepth 100000 in
theorem garnerref21_Put.calls (k : Nat) (a0_0 : Int) (A0_1 : Option Addr) (c0_1 : Nat) (l0_1 : List (S46)) (r : List Int) (w : World) (hr0_1 : Kd.C k46 w A0_1 l0_1.length l0_1) (hc0_1 : l0_1.length ≤ c0_1) (h : garnerref21_Put.f k a0_0 l0_1 = some r) :
  Calls Try.prog 12 #[.agg #[.int .i64 a0_0, .slice A0_1 l0_1.length c0_1]] w fun e w' => ∃ v0_ : Value, e = .returned (v0_) ∧ Kd.R (Kd.int .u8) 5 w' w.heap.size (fun _ => True) v0_ r ∧ Below w.heap.size w w' := by
 have hu29 := Try.underlying29
 have hu44 := Try.underlying44
 have hu50 := Try.underlying50
 have A9 := Am hr0_1
 have HC0_1 := Am hc0_1
 clear hr0_1 hc0_1
 have HB := Am (Below.refl w.heap.size w)
 have H : ((garnerref02_Put.f k (([IntKind.u64.wrap (a0_0), IntKind.u64.wrap ((l0_1.length : Int))] : List Int))).bind fun t391 => (garnerref21_Put.l0 k t391 0 a0_0 l0_1)) = some r := h
 clear h
 obtain ⟨y388, hy388⟩ : ∃ y_ : List Int, y_ = (([IntKind.u64.wrap (a0_0), IntKind.u64.wrap ((l0_1.length : Int))] : List Int)) := ⟨_, rfl⟩
 replace H : ((garnerref02_Put.f k y388).bind fun t391 => (garnerref21_Put.l0 k t391 0 a0_0 l0_1)) = some r := by first | (rw [hy388]; with_reducible exact H) | (have H2_ := (Option.bind_some _ _).symm.trans H; rw [hy388]; with_reducible exact H2_) | (have H2_ := (Option.bind_some _ _).symm.trans H; with_reducible exact H2_) | with_reducible exact H | (rw [hy388]; exact H) | exact H
 have Ny388 := Am hy388
 clear hy388
 replace H := Option.bind_eq_some_iff.mp H
 obtain ⟨t391, A20, H⟩ := H
 replace H : (garnerref21_Put.l0 k t391 0 a0_0 l0_1) = some r := H
 have A2 := Am A20
 clear A20
 have H' := Am H
 clear H
 go_enter Try.func12, Try.ntmps12
 go_wp2_with (first | ((with_reducible refine gate_dst (N := 1) rfl ?_); refine box_event ?hg (N := 1) ?hd (cs := #[.int .i64 a0_0, .slice A0_1 l0_1.length c0_1]) (t := 29) ?hr ?_; (case hd => rfl); (case hg => rfl); (case hr => first | (go_simp; done) | (go_simp; rfl)); intro An hg w3 hbox hb; have Aa := Am (hbox); have Ba := Am ((by rw [hg]; exact (below_size (pB HB.out)) : w.heap.size ≤ An)); replace HB := Am (below_step (pB HB.out) hb); have Ac := Ba; clear hb hbox hg; obtain ⟨A0, A1⟩ := bc2 Aa.out; obtain ⟨A3, A4⟩ := bf2 Aa.out) | ((with_reducible refine gate_dst (N := 12) rfl ?_); refine Kd.R_lit (Kd.int .u64) _ 56 ?hg (N := 12) ?hd (xs := ([IntKind.u64.wrap (a0_0), IntKind.u64.wrap ((l0_1.length : Int))] : List Int)) (inner := [.int .u64 (IntKind.u64.wrap (a0_0)), .int .u64 (IntKind.u64.wrap ((l0_1.length : Int)))]) (ok := fun _ => True) (okp := fun _ => True) ?hr ?hp (fun _ hk => hk) trivial (Below.refl _ _) (Nat.le_refl _) (by simp) ?_; (case hd => rfl); (case hg => rfl); (case hr => first | (go_simp; done) | (go_simp; rfl)); (case hp => exact (Reps.one (show Kd.M (Kd.int .u64) _ _ _ (IntKind.u64.wrap (a0_0)) [.int .u64 (IntKind.u64.wrap (a0_0))] from rfl) (Reps.one (show Kd.M (Kd.int .u64) _ _ _ (IntKind.u64.wrap ((l0_1.length : Int))) [.int .u64 (IntKind.u64.wrap ((l0_1.length : Int)))] from rfl) (Reps.none _ _)))); intro v389 w5 ho6 hb hg_ hnew_; clear hg_ hnew_; (first | rw [← Ny388.out] at ho6 | (simp only [Int.reduceToNat] at ho6; rw [← Ny388.out] at ho6)); have Ap := Am (Kd.R_lower ho6 (below_size (pE HB.out Ac.out))); replace Aa := kBa Aa hb; replace HB := Am (below_step (pE HB.out Ac.out) hb); clear hb ho6; obtain ⟨Bh, Bi, Bj⟩ := Kd.R_slice Ap.out; subst Bj) | ((with_reducible refine gate_callee (f := 29) rfl ?_); refine goesL_ (some 13) rfl rfl Try.func29 (by kernel_rfl) rfl #[.slice Bh y388.length Bi] rfl pL ?_; (with_reducible refine (garnerref02_Put.calls k _ _ y388 t391 _ ?Aw ?Ax A2.out).mono ?_); (case Aw => exact pC (Kd.R_reads' Ap.out).2.2); (case Ax => exact (Kd.R_reads' Ap.out).2.1); rintro e w8 ⟨v392, rfl, ho0, hb⟩; refine ⟨_, rfl, ?_⟩; replace Ap := bRa Ap hb; have Bb := Am (Kd.R_lower ho0 (below_size (pE HB.out Ac.out))); replace Aa := kBa Aa hb; replace HB := Am (below_step (pE HB.out Ac.out) hb); (try clear hb); (try clear hb2); (try clear hk); (try clear hi); (try clear ho0)))
 go_loopg [3, 4] k (fun kq v3 v4 w' => ∃ (Al : List Int) (Ab : Int), v4 = .int .i64 Ab ∧ Aside0 (garnerref21_Put.l0 kq Al Ab a0_0 l0_1 = some r) ∧ Aside0 (kq ≤ k) ∧ Aside0 (Kd.R (Kd.int .u8) 5 w' w.heap.size (fun _ => True) v3 Al) ∧ Aside0 (w'.heap[An]? = some (.cells #[.int .i64 a0_0, (.slice A0_1 l0_1.length c0_1)] 29 (0, 0))) ∧ Aside0 (Below w.heap.size w w'))
 case atStart => exact ⟨(t391), (0), (by first | rfl | (simp; done) | (simp [*]; done)), H', ⟨Nat.le_refl _⟩, ⟨by (with_reducible repeat (first | apply Kd.R_alloc | apply Kd.R_drewN | apply Kd.R_drew)); exact Bb.out⟩, ⟨pK Aa.out⟩, ⟨pE HB.out Ac.out⟩⟩
 case round =>
  clear H'
  try clear c1
  try clear c2
  try clear p2
  try clear A0 A1
  try clear A3 A4
  obtain ⟨Al, Ab, rfl, HA, HK1, Ae, Aa, HB⟩ := hrel
  cases gk with
  | zero => exact absurd HA.out (by simp [garnerref21_Put.l0])
  | succ k1 =>
   have H := HA.out
   clear HA
   simp only [garnerref21_Put.l0] at H
   by_cases c9 : Ab < (l0_1.length : Int)
   rotate_left
   ·rw [if_neg c9] at H
    have c9b0 : decide (Ab < (l0_1.length : Int)) = false := decide_eq_false c9
    clear c9
    replace H := Option.bind_eq_some_iff.mp H
    obtain ⟨t408, A230, H⟩ := H
    replace H : (some t408) = some r := H
    have A23 := Am A230
    clear A230
    obtain rfl := Option.some.inj H
    obtain ⟨_, _⟩ := bc2 Aa.out
    obtain ⟨_, _⟩ := bf2 Aa.out
    obtain ⟨Be, Bf, Bg⟩ := Kd.R_slice Ae.out
    subst Bg
    go_wp2_with (first | ((with_reducible refine gate_callee (f := 32) rfl ?_); refine goesL_ (some 41) rfl rfl Try.func32 (by kernel_rfl) rfl #[.agg #[.int .i64 4, .slice Be Al.length Bf]] rfl pL ?_; (with_reducible refine (garnerref03_Put.calls k1 4 _ _ Al t408 _ ?Aw ?Ax A23.out).mono ?_); (case Aw => exact pC (Kd.R_reads' Ae.out).2.2); (case Ax => exact (Kd.R_reads' Ae.out).2.1); rintro e w26 ⟨v409, rfl, ho0, hb⟩; refine ⟨_, rfl, ?_⟩; have Bd := Am (Kd.R_lower (Kd.R_new' ho0 (Kd.R_lt (pR Ae.out))) (below_size (pE HB.out Ac.out))); replace Ae := Am (Kd.R_elder' (pR Ae.out) (Kd.R_base ho0) hb); replace Aa := kBa Aa hb; replace HB := Am (below_step (pE HB.out Ac.out) hb); (try clear hb); (try clear hb2); (try clear hk); (try clear hi); (try clear ho0)))
    go_ret
    exact ⟨_, pX, by (with_reducible repeat (first | apply Kd.R_alloc | apply Kd.R_drewN | apply Kd.R_drew)); exact Kd.R_mono Bd.out (fun _ hk => trivial), pE HB.out Ac.out⟩
   rw [if_pos c9] at H
   have c9b0 : decide (Ab < (l0_1.length : Int)) = true := decide_eq_true c9
   clear c9
   by_cases c10 : 0 ≤ Ab
   rotate_left
   ·rw [if_neg c10] at H
    exact absurd H (by simp)
   rw [if_pos c10] at H
   have c10b0 : decide (0 ≤ Ab) = true := decide_eq_true c10
   clear c10
   replace H := Option.bind_eq_some_iff.mp H
   obtain ⟨t395, A110, H⟩ := H
   replace H : (if Al.length + t395.length < 140737488355328 then ((some (Al ++ t395 : List Int)).bind fun y398 => ((garnerref04_Put.f k1 ((rd_T46 l0_1 Ab).f1.f0) ((rd_T46 l0_1 Ab).f1.f1) ((rd_T46 l0_1 Ab).f1.f2) ((rd_T46 l0_1 Ab).f1.f3)).bind fun t402 => (if y398.length + t402.length < 140737488355328 then (garnerref21_Put.l0 k1 (y398 ++ t402) (wrap64 (Ab + 1)) a0_0 l0_1) else (none)))) else (none)) = some r := H
   have A11 := Am A110
   clear A110
   by_cases c12 : Al.length + t395.length < 140737488355328
   rotate_left
   ·rw [if_neg c12] at H
    exact absurd H (by simp)
   rw [if_pos c12] at H
   have LMc12 := Am c12
   clear c12
   obtain ⟨y398, hy398⟩ : ∃ y_ : List Int, y_ = (Al ++ t395) := ⟨_, rfl⟩
   replace H : ((garnerref04_Put.f k1 ((rd_T46 l0_1 Ab).f1.f0) ((rd_T46 l0_1 Ab).f1.f1) ((rd_T46 l0_1 Ab).f1.f2) ((rd_T46 l0_1 Ab).f1.f3)).bind fun t402 => (if y398.length + t402.length < 140737488355328 then (garnerref21_Put.l0 k1 (y398 ++ t402) (wrap64 (Ab + 1)) a0_0 l0_1) else (none))) = some r := by first | (rw [hy398]; with_reducible exact H) | (have H2_ := (Option.bind_some _ _).symm.trans H; rw [hy398]; with_reducible exact H2_) | (have H2_ := (Option.bind_some _ _).symm.trans H; with_reducible exact H2_) | with_reducible exact H | (rw [hy398]; exact H) | exact H
   have Ny398 := Am hy398
   clear hy398
   replace H := Option.bind_eq_some_iff.mp H
   obtain ⟨t402, A130, H⟩ := H
   replace H : (if y398.length + t402.length < 140737488355328 then (garnerref21_Put.l0 k1 (y398 ++ t402) (wrap64 (Ab + 1)) a0_0 l0_1) else (none)) = some r := H
   have A13 := Am A130
   clear A130
   by_cases c14 : y398.length + t402.length < 140737488355328
   rotate_left
   ·rw [if_neg c14] at H
    exact absurd H (by simp)
   rw [if_pos c14] at H
   have LMc14 := Am c14
   clear c14
   obtain ⟨y405, hy405⟩ : ∃ y_ : List Int, y_ = (y398 ++ t402) := ⟨_, rfl⟩
   replace H : (garnerref21_Put.l0 k1 y405 (wrap64 (Ab + 1)) a0_0 l0_1) = some r := by first | (rw [hy405]; with_reducible exact H) | (have H2_ := (Option.bind_some _ _).symm.trans H; rw [hy405]; with_reducible exact H2_) | (have H2_ := (Option.bind_some _ _).symm.trans H; with_reducible exact H2_) | with_reducible exact H | (rw [hy405]; exact H) | exact H
   have Ny405 := Am hy405
   clear hy405
   have H' := Am H
   clear H
   obtain ⟨_, _⟩ := bc2 Aa.out
   obtain ⟨_, _⟩ := bf2 Aa.out
   try go_wp2
   replace Ae := dRa Ae
   replace Aa := kDa Aa
   replace HB := bDa HB
   have p394 : 0 ≤ (Ab : Int) := of_decide_eq_true pS
   have q394 : Ab < (l0_1.length : Int) := of_decide_eq_true pS
   obtain ⟨Ak, e394, Ar, As, At, Au, Av, Af, Ag, Ah, Ai, Aj⟩ := at_T46w A9.out Ab p394 q394 HB.out
   cases e394
   replace p394 := eq_true p394
   replace q394 := eq_true q394
   refine start_ (n := 19) (S := fun w' => cG w' An 0 (.int .i64 a0_0) ∧ cG w' An 1 (.slice (some Ak) l0_1.length c0_1) ∧ w'.cell? (Ak.add ((Ab).toNat * 5)) = some (.int .i64 ((rd_T46 l0_1 Ab).f0)) ∧ cA w' (Ak.add ((Ab).toNat * 5)) 1 (.int .i64 ((rd_T46 l0_1 Ab).f1.f0)) ∧ cA w' (Ak.add ((Ab).toNat * 5)) 2 (.int .i64 ((rd_T46 l0_1 Ab).f1.f1)) ∧ cA w' (Ak.add ((Ab).toNat * 5)) 3 (.int .i64 ((rd_T46 l0_1 Ab).f1.f2)) ∧ cA w' (Ak.add ((Ab).toNat * 5)) 4 (.int .u32 ((rd_T46 l0_1 Ab).f1.f3))) (ds := []) #[false, false, false, false, false, false, false, false, false, false, false, false, false, false, false, false, false, false, false] (by kernel_rfl) rfl rfl ⟨(blk_cell Aa.out 0).trans rfl, (blk_cell Aa.out 1).trans rfl, (cT HB.out Af), (cT HB.out Ag), (cT HB.out Ah), (cT HB.out Ai), (cT HB.out Aj)⟩ (fun hHeld => ?_); refine with_tabW garnerref21_Put.tab5 garnerref21_Put.bits5 (fun HT_ HW_ => ?_)
   (first | generalize wr.drew = w16 at Ae Aa HB Ar As At Au Av hHeld ⊢ | generalize wr.drew = w16 at Aa HB Ar As At Au Av hHeld ⊢)
   refine pui 0 21 19 1 HT_ ?_
   refine pui 1 22 19 3 HT_ ?_
   refine pui 3 24 19 11 HT_ ?_
   refine pui 10 31 19 1035 HT_ ?_
   refine pui 12 33 19 5131 HT_ ?_
   refine tki 2 23 19 5135 HT_ HW_ hHeld ?_
   refine pui 4 25 19 5151 HT_ ?_
   refine pui 5 26 19 5183 HT_ ?_
   refine tki 6 27 19 5247 HT_ HW_ hHeld ?_
   refine pui 7 28 19 5375 HT_ ?_
   refine tki 11 32 19 7423 HT_ HW_ hHeld ?_
   refine pui 13 34 19 15615 HT_ ?_
   refine pui 14 35 19 31999 HT_ ?_
   refine tki 15 36 19 64767 HT_ HW_ hHeld ?_
   refine onei 8 29 19 65023 HT_ (fun K hK => ?_)
   refine goes_ Try.func30 (by kernel_rfl) rfl #[.int .u64 (IntKind.u64.wrap ((rd_T46 l0_1 Ab).f0))] (by rfl) rfl rfl pL ?_
   with_reducible refine (garnerref02_One.calls k1 (IntKind.u64.wrap ((rd_T46 l0_1 Ab).f0)) t395 _ A11.out).mono ?_
   rintro e w17 ⟨v396, rfl, ho0, hb⟩
   refine ⟨_, rfl, ?_⟩
   have Ad := Am (Kd.R_lower (Kd.R_new' ho0 (Kd.R_lt (pR Ae.out))) (below_size (pE HB.out Ac.out)))
   replace Ae := Am (Kd.R_elder' (pR Ae.out) (Kd.R_base ho0) hb)
   replace Aa := kBa Aa hb
   replace HB := Am (below_step (pE HB.out Ac.out) hb)
   (try clear hb)
   (try clear hb2)
   (try clear hk)
   (try clear hi)
   (try clear ho0)
   obtain ⟨Ay, Az, A5⟩ := Kd.R_slice Ad.out
   (first | subst A5 | (injection A5 with f1_ f2_ f3_; have f4_ := f1_.symm; have f5_ := f3_.symm; clear f1_ f2_ f3_; subst f4_; subst f5_))
   refine hK.out _ _ ⟨(blk_cell Aa.out 0).trans rfl, (blk_cell Aa.out 1).trans rfl, (cT HB.out Af), (cT HB.out Ag), (cT HB.out Ah), (cT HB.out Ai), (cT HB.out Aj)⟩ (fun hHeld => ?_)
   clear hK K
   refine norm_ (a' := ?_) ?_ ?_
   rotate_left
   ·show Act.put _ (some 29) _ = _
    simp only [Act.put, List.setIfInBounds_toArray, List.set_cons_zero, List.set_cons_succ, i64_w, i32_w]
    rfl
   refine onei 9 30 19 65535 HT_ (fun K hK => ?_)
   refine Kd.R_append_rows_step (Kd.int .u8) (w0 := w) w.heap.size (by rfl) (.tmp 21) (.tmp 29) 22 5 (.int .u8 0) 1 rfl Try.underlying22 info5 rfl (by decide) (by omega) u3 Al t395 _ _ _ (fun k_ => some k_ ≠ (.slice Ay t395.length Az : Value).ownBlock) (fun _ => False) rfl rfl ?aO ?aR (fun _ _ h => h) (fun _ h => h.elim) ?aF ?aB ?aS ?aL ?_
   (case aR => exact pC (Kd.R_reads' Ad.out).2.2)
   (case aB => exact (pE HB.out Ac.out))
   (case aF => exact (fun k_ hk => Kd.fresh' (Kd.R_lt (pR Ad.out)) k_ hk))
   (case aO => exact (by (with_reducible repeat (first | apply Kd.R_alloc | apply Kd.R_drewN | apply Kd.R_drew)); exact Kd.R_mono Ae.out (fun _ hk => hk.2)))
   (case aS => exact (below_size (pE HB.out Ac.out)))
   (case aL => have := LMc12.out; omega)
   intro v399 w18 ho hb hg hat
   rw [← Ny398.out] at ho
   replace Aa := Am (blk_grown (g := An) (o := .cells #[.int .i64 a0_0, .slice (some Ak) l0_1.length c0_1] 29 (0, 0)) (pK Aa.out) hg (Kd.R_ne Ae.out Aa.out (by decide)))
   replace Ad := Am (Kd.R_after (ok := (fun _ => True)) (pR Ad.out) hg hat)
   replace HB := Am (hb)
   have Ao := Am (ho)
   clear Ae
   clear ho hb hg hat
   refine hK.out _ _ ⟨(blk_cell Aa.out 0).trans rfl, (blk_cell Aa.out 1).trans rfl, (cT HB.out Af), (cT HB.out Ag), (cT HB.out Ah), (cT HB.out Ai), (cT HB.out Aj)⟩ (fun hHeld => ?_)
   clear hK K
   refine norm_ (a' := ?_) ?_ ?_
   rotate_left
   ·show Act.put _ (some 30) _ = _
    simp only [Act.put, List.setIfInBounds_toArray, List.set_cons_zero, List.set_cons_succ, i64_w, i32_w]
    rfl
   refine onei 16 37 19 131071 HT_ (fun K hK => ?_)
   refine goes_ Try.func31 (by kernel_rfl) rfl #[.agg #[.int .i64 ((rd_T46 l0_1 Ab).f1.f0), .int .i64 ((rd_T46 l0_1 Ab).f1.f1), .int .i64 ((rd_T46 l0_1 Ab).f1.f2), .int .u32 ((rd_T46 l0_1 Ab).f1.f3)]] (by rfl) rfl rfl pL ?_
   with_reducible refine (garnerref04_Put.calls k1 ((rd_T46 l0_1 Ab).f1.f0) ((rd_T46 l0_1 Ab).f1.f1) ((rd_T46 l0_1 Ab).f1.f2) ((rd_T46 l0_1 Ab).f1.f3) t402 _ A13.out).mono ?_
   rintro e w20 ⟨v403, rfl, ho0, hb⟩
   refine ⟨_, rfl, ?_⟩
   have Aq := Am (Kd.R_lower (Kd.R_new' (Kd.R_new' ho0 (Kd.R_lt (pR Ad.out))) (Kd.R_lt (pR Ao.out))) (below_size (pE HB.out Ac.out)))
   replace Ad := Am (Kd.R_elder' (pR Ad.out) (Kd.R_base ho0) hb)
   replace Ao := Am (Kd.R_elder' (pR Ao.out) (Kd.R_base ho0) hb)
   replace Aa := kBa Aa hb
   replace HB := Am (below_step (pE HB.out Ac.out) hb)
   (try clear hb)
   (try clear hb2)
   (try clear hk)
   (try clear hi)
   (try clear ho0)
   obtain ⟨A6, A7, A8⟩ := Kd.R_slice Aq.out
   (first | subst A8 | (injection A8 with f1_ f2_ f3_; have f4_ := f1_.symm; have f5_ := f3_.symm; clear f1_ f2_ f3_; subst f4_; subst f5_))
   refine hK.out _ _ ⟨(blk_cell Aa.out 0).trans rfl, (blk_cell Aa.out 1).trans rfl, (cT HB.out Af), (cT HB.out Ag), (cT HB.out Ah), (cT HB.out Ai), (cT HB.out Aj)⟩ (fun hHeld => ?_)
   clear hK K
   refine norm_ (a' := ?_) ?_ ?_
   rotate_left
   ·show Act.put _ (some 37) _ = _
    simp only [Act.put, List.setIfInBounds_toArray, List.set_cons_zero, List.set_cons_succ, i64_w, i32_w]
    rfl
   refine onei 17 38 19 262143 HT_ (fun K hK => ?_)
   refine Kd.R_append_rows_step (Kd.int .u8) (w0 := w) w.heap.size (by rfl) (.tmp 30) (.tmp 37) 22 5 (.int .u8 0) 1 rfl Try.underlying22 info5 rfl (by decide) (by omega) v399 y398 t402 _ _ _ (fun k_ => some k_ ≠ (.slice Ay t395.length Az : Value).ownBlock ∧ some k_ ≠ (.slice A6 t402.length A7 : Value).ownBlock) (fun _ => False) rfl rfl ?aO ?aR (fun _ _ h => h) (fun _ h => h.elim) ?aF ?aB ?aS ?aL ?_
   (case aR => exact pC (Kd.R_reads' Aq.out).2.2)
   (case aB => exact (pE HB.out Ac.out))
   (case aF => exact (fun k_ hk => ⟨Kd.fresh' (Kd.R_lt (pR Ad.out)) k_ hk, Kd.fresh' (Kd.R_lt (pR Aq.out)) k_ hk⟩))
   (case aO => exact (pR Ao.out))
   (case aS => exact (below_size (pE HB.out Ac.out)))
   (case aL => have := LMc14.out; omega)
   intro v406 w21 ho hb hg hat
   rw [← Ny405.out] at ho
   replace Aa := Am (blk_grown (g := An) (o := .cells #[.int .i64 a0_0, .slice (some Ak) l0_1.length c0_1] 29 (0, 0)) (pK Aa.out) hg (Kd.R_ne Ao.out Aa.out (by decide)))
   replace Ad := Am (Kd.R_after (ok := (fun k_ => some k_ ≠ (.slice A6 t402.length A7 : Value).ownBlock)) (by (with_reducible repeat (first | apply Kd.R_alloc | apply Kd.R_drewN | apply Kd.R_drew)); exact Kd.R_mono Ad.out (fun _ hk => ⟨hk.2, hk.1.2⟩)) hg hat)
   replace Aq := Am (Kd.R_after (ok := (fun k_ => some k_ ≠ (.slice Ay t395.length Az : Value).ownBlock)) (by (with_reducible repeat (first | apply Kd.R_alloc | apply Kd.R_drewN | apply Kd.R_drew)); exact Kd.R_mono Aq.out (fun _ hk => ⟨hk.1.2, hk.2⟩)) hg hat)
   replace HB := Am (hb)
   have Bc := Am (ho)
   clear Ao
   clear ho hb hg hat
   refine hK.out _ _ ⟨(blk_cell Aa.out 0).trans rfl, (blk_cell Aa.out 1).trans rfl, (cT HB.out Af), (cT HB.out Ag), (cT HB.out Ah), (cT HB.out Ai), (cT HB.out Aj)⟩ (fun hHeld => ?_)
   clear hK K
   refine norm_ (a' := ?_) ?_ ?_
   rotate_left
   ·show Act.put _ (some 38) _ = _
    simp only [Act.put, List.setIfInBounds_toArray, List.set_cons_zero, List.set_cons_succ, i64_w, i32_w]
    rfl
   refine pui 18 3 19 524287 HT_ ?_
   refine done_ (done_of HT_.out (by kernel_rfl)) ?_
   try go_wp2
   go_roundg k1
   case measure => have := HK1.out; omega
   case rel => exact ⟨(y405), (wrap64 (Ab + 1)), (by first | rfl | (simp; done) | (simp [*]; done)), H', ⟨by have := HK1.out; omega⟩, ⟨by (with_reducible repeat (first | apply Kd.R_alloc | apply Kd.R_drewN | apply Kd.R_drew)); exact Kd.R_mono Bc.out (fun _ hk => trivial)⟩, ⟨pK Aa.out⟩, ⟨pE HB.out Ac.out⟩⟩
end Go.Proofs.Ytjebpaahpehfnaa.PRelayPuts
