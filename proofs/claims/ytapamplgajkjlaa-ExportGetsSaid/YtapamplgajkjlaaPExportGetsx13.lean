/- What the law reaches, as plain Lean functions, and that the machine's calls answer just that. -/
import Derived.Test.YtapamplgajkjlaaPExportGetsx0
import Derived.Test.YtapamplgajkjlaaPExportGetsx6
import Derived.Test.YtapamplgajkjlaaPExportGetsx7
import Derived.Test.YtapamplgajkjlaaPExportGetsx10
import Derived.Test.YtapamplgajkjlaaPExportGetsx12
namespace Go.Proofs.Ytapamplgajkjlaa.PExportGets
open Go.RowKit Go.Proofs.YtapamplgajkjlaaW.PrintWords Go.Proofs.YtapamplgajkjlaaW.PrintLast Go.Proofs.YtapamplgajkjlaaW.PrintMore
attribute [local go_sem] max2_int min2_int max_two min_two max_three min_three max_four min_four
set_option linter.unusedVariables false
set_option linter.unusedSimpArgs false
attribute [local go_sem] wrap64_l1 wrap64_l2 wrap64_l3 wrap64_l4 wrap64_l5 str_leq str_gtr str_geq
def garnerref27_Same.l0 : Nat → List (S135) → List (S135) → Int → Option (Bool)
 | 0, _, _, _ => none
 | k + 1, x0, x1, x5 => if x5 < (x0.length : Int) then (if 0 ≤ x5 then (if x5 < (x1.length : Int) then (if ((rd_T135 x0 x5).f0).toList = ((rd_T135 x1 x5).f0).toList then ((garnerref02_Bytes.f k ((rd_T135 x0 x5).f1) ((rd_T135 x1 x5).f1)).bind fun t534 => (if t534 = true then (garnerref27_Same.l0 k x0 x1 (wrap64 (x5 + 1))) else (some false))) else (some false)) else (none)) else (none)) else (some true)
def garnerref27_Same.f (k : Nat) (l0 : List (S135)) (l1 : List (S135)) : Option (Bool) := if (l0.length : Int) = (l1.length : Int) then (garnerref27_Same.l0 k l0 l1 0) else (some false)
theorem garnerref27_Same.mono_l : ∀ k, (∀ y0 y1 y2, LeO (garnerref27_Same.l0 k y0 y1 y2) (garnerref27_Same.l0 (k + 1) y0 y1 y2))
 | 0 => fun _ _ _ r h => by simp [garnerref27_Same.l0] at h
 | k + 1 => by
  have ih0 := garnerref27_Same.mono_l k
  ·intro y0 y1 y2
   unfold garnerref27_Same.l0
   repeat' first
   | (with_reducible exact ih0 _ _ _)
   | (with_reducible exact garnerref02_Bytes.mono _ _ _)
   | (with_reducible exact LeO.refl _)
   | (with_reducible exact LeO.none _)
   | (with_reducible refine LeO.ite ?_ ?_)
   | (with_reducible refine LeO.bind ?_ (fun _ => ?_))
   | exact ih0 _ _ _
   | exact garnerref02_Bytes.mono _ _ _
   | exact LeO.none _
   | refine LeO.ite ?_ ?_
   | refine LeO.bind ?_ (fun _ => ?_)
theorem garnerref27_Same.mono : ∀ a0 a1 k, LeO (garnerref27_Same.f k a0 a1) (garnerref27_Same.f (k + 1) a0 a1) := by
 intro a0 a1 k
 have ih0 := garnerref27_Same.mono_l k
 unfold garnerref27_Same.f
 repeat' first
   | (with_reducible exact ih0 _ _ _)
   | (with_reducible exact garnerref02_Bytes.mono _ _ _)
   | (with_reducible exact LeO.refl _)
   | (with_reducible exact LeO.none _)
   | (with_reducible refine LeO.ite ?_ ?_)
   | (with_reducible refine LeO.bind ?_ (fun _ => ?_))
   | exact ih0 _ _ _
   | exact garnerref02_Bytes.mono _ _ _
   | exact LeO.none _
   | refine LeO.ite ?_ ?_
   | refine LeO.bind ?_ (fun _ => ?_)
set_option maxHeartbeats 8000000 in
set_option maxRecDepth 100000 in
theorem garnerref27_Same.calls (k : Nat) (A0 : Option Addr) (c0 : Nat) (l0 : List (S135)) (A1 : Option Addr) (c1 : Nat) (l1 : List (S135)) (r : Bool) (w : World) (hr0 : Kd.C k135 w A0 l0.length l0) (hc0 : l0.length ≤ c0) (hr1 : Kd.C k135 w A1 l1.length l1) (hc1 : l1.length ≤ c1) (h : garnerref27_Same.f k l0 l1 = some r) :
  Calls Try.prog 18 #[.slice A0 l0.length c0, .slice A1 l1.length c1] w fun e w' => e = .returned (.bool r) ∧ Drawn0 w w' := by
 have HR0 := Aside0.mk hr0
 have HC0 := Aside0.mk hc0
 clear hr0 hc0
 have HR1 := Aside0.mk hr1
 have HC1 := Aside0.mk hc1
 clear hr1 hc1
 have H : (if (l0.length : Int) = (l1.length : Int) then (garnerref27_Same.l0 k l0 l1 0) else (some false)) = some r := h
 clear h
 by_cases c3 : (l0.length : Int) = (l1.length : Int)
 ·rw [if_pos c3] at H
  have c3b0 : ((l0.length : Int) == (l1.length : Int)) = true := beq_iff_eq.mpr c3
  have c3b1 : ((l0.length : Int) != (l1.length : Int)) = false := bne_eq_false_iff_eq.mpr c3
  have c3b2 : (l0.length == l1.length) = true := by first | simpa using c3 | (simp at c3 ⊢; omega)
  clear c3
  have H' := Aside0.mk H
  clear H
  go_enter Try.func18, Try.ntmps18
  go_wp2
  repeat (go_quiet (fail); try go_wp2)
  go_loopg [5] k (fun kq v5 w' => ∃ (x5_1 : Int), v5 = .int .i64 x5_1 ∧ Aside0 (garnerref27_Same.l0 kq l0 l1 x5_1 = some r) ∧ Aside0 (kq ≤ k) ∧ Drawn0 w w')
  case atStart => exact ⟨(0), (by first | rfl | (simp; done) | (simp [*]; done)), H', ⟨Nat.le_refl _⟩, by repeat (first | exact Drawn0.refl _ | apply Drawn0.step)⟩
  case round =>
   clear H'
   try clear c1
   try clear p2
   try clear c3
   try clear c3b0
   try clear c3b1
   try clear c3b2
   obtain ⟨x5_1, rfl, HA, HK1, ⟨m1, rfl⟩⟩ := hrel
   cases gk with
   | zero => exact absurd HA.out (by simp [garnerref27_Same.l0])
   | succ k1 =>
    have H := HA.out
    clear HA
    simp only [garnerref27_Same.l0] at H
    by_cases c4 : x5_1 < (l0.length : Int)
    ·rw [if_pos c4] at H
     have c4b0 : decide (x5_1 < (l0.length : Int)) = true := decide_eq_true c4
     clear c4
     by_cases c5 : 0 ≤ x5_1
     ·rw [if_pos c5] at H
      have c5b0 : decide (0 ≤ x5_1) = true := decide_eq_true c5
      clear c5
      by_cases c6 : x5_1 < (l1.length : Int)
      ·rw [if_pos c6] at H
       have c6b0 : decide (x5_1 < (l1.length : Int)) = true := decide_eq_true c6
       clear c6
       by_cases c7 : ((rd_T135 l0 x5_1).f0).toList = ((rd_T135 l1 x5_1).f0).toList
       ·rw [if_pos c7] at H
        have c7b0 : (((rd_T135 l0 x5_1).f0).toList == ((rd_T135 l1 x5_1).f0).toList) = true := beq_iff_eq.mpr c7
        have c7b1 : (((rd_T135 l0 x5_1).f0).toList != ((rd_T135 l1 x5_1).f0).toList) = false := bne_eq_false_iff_eq.mpr c7
        clear c7
        replace H := Option.bind_eq_some_iff.mp H
        obtain ⟨t534, A80, H⟩ := H
        replace H : (if t534 = true then (garnerref27_Same.l0 k1 l0 l1 (wrap64 (x5_1 + 1))) else (some false)) = some r := H
        have A8 := Aside0.mk A80
        clear A80
        by_cases c9 : t534 = true
        ·subst c9
         have H1 : (garnerref27_Same.l0 k1 l0 l1 (wrap64 (x5_1 + 1))) = some r := by rw [if_pos rfl] at H; exact H
         clear H
         have H := H1
         clear H1
         have H' := Aside0.mk H
         clear H
         have p530 : 0 ≤ (x5_1 : Int) := of_decide_eq_true pS
         have q530 : x5_1 < (l0.length : Int) := of_decide_eq_true pS
         obtain ⟨ad530, A530_1, c530_1, e530, hx530_0, hx530_1, hl530_1, hi530_1⟩ := at_T135 HR0.out x5_1 p530 q530
         cases e530
         have HR530_1 := Aside0.mk hi530_1
         have HC530_1 := Aside0.mk hl530_1
         clear hi530_1 hl530_1
         replace p530 := eq_true p530
         replace q530 := eq_true q530
         have p531 : 0 ≤ (x5_1 : Int) := of_decide_eq_true pS
         have q531 : x5_1 < (l1.length : Int) := of_decide_eq_true pS
         obtain ⟨ad531, A531_1, c531_1, e531, hx531_0, hx531_1, hl531_1, hi531_1⟩ := at_T135 HR1.out x5_1 p531 q531
         cases e531
         have HR531_1 := Aside0.mk hi531_1
         have HC531_1 := Aside0.mk hl531_1
         clear hi531_1 hl531_1
         replace p531 := eq_true p531
         replace q531 := eq_true q531
         have p532 : 0 ≤ (x5_1 : Int) := of_decide_eq_true pS
         have q532 : x5_1 < (l0.length : Int) := of_decide_eq_true pS
         obtain ⟨ad532, A532_1, c532_1, e532, hx532_0, hx532_1, hl532_1, hi532_1⟩ := at_T135 HR0.out x5_1 p532 q532
         obtain rfl : ad530 = ad532 := (by injection e532)
         have HR532_1 := Aside0.mk hi532_1
         have HC532_1 := Aside0.mk hl532_1
         clear hi532_1 hl532_1
         replace p532 := eq_true p532
         replace q532 := eq_true q532
         have ea_ := Option.some.inj (hx530_1.symm.trans hx532_1)
         injection ea_ with ea_ en_ ec_
         subst ea_
         subst ec_
         clear en_
         have p533 : 0 ≤ (x5_1 : Int) := of_decide_eq_true pS
         have q533 : x5_1 < (l1.length : Int) := of_decide_eq_true pS
         obtain ⟨ad533, A533_1, c533_1, e533, hx533_0, hx533_1, hl533_1, hi533_1⟩ := at_T135 HR1.out x5_1 p533 q533
         obtain rfl : ad531 = ad533 := (by injection e533)
         have HR533_1 := Aside0.mk hi533_1
         have HC533_1 := Aside0.mk hl533_1
         clear hi533_1 hl533_1
         replace p533 := eq_true p533
         replace q533 := eq_true q533
         have ea_ := Option.some.inj (hx531_1.symm.trans hx533_1)
         injection ea_ with ea_ en_ ec_
         subst ea_
         subst ec_
         clear en_
         go_wp2_with (first | (go_at_call 22; (with_reducible refine (garnerref02_Bytes.calls k1 _ _ ((rd_T135 l0 x5_1).f1) _ _ ((rd_T135 l1 x5_1).f1) true _ ?side1 ?side2 ?side3 ?side4 A8.out).mono ?_); (case side1 => repeat (first | exact HR532_1.out | (with_reducible refine Kd.C_alloc ?_ _) | (with_reducible refine Kd.C_drewN ?_ _) | (with_reducible refine Kd.C_drew ?_))); (case side2 => exact HC532_1.out); (case side3 => repeat (first | exact HR533_1.out | (with_reducible refine Kd.C_alloc ?_ _) | (with_reducible refine Kd.C_drewN ?_ _) | (with_reducible refine Kd.C_drew ?_))); (case side4 => exact HC533_1.out); rintro e w' ⟨rfl, ⟨nd, rfl⟩⟩; (try first | exact ⟨rfl, _, World.drewN_drewN _ _ _⟩ | exact ⟨rfl, _, Eq.trans (World.drewN_drewN _ _ _) (congrArg (World.drewN _) (Nat.add_assoc _ _ _))⟩)))
         repeat (go_quiet (first | (go_at_call 22; (with_reducible refine (garnerref02_Bytes.calls k1 _ _ ((rd_T135 l0 x5_1).f1) _ _ ((rd_T135 l1 x5_1).f1) true _ ?side1 ?side2 ?side3 ?side4 A8.out).mono ?_); (case side1 => repeat (first | exact HR532_1.out | (with_reducible refine Kd.C_alloc ?_ _) | (with_reducible refine Kd.C_drewN ?_ _) | (with_reducible refine Kd.C_drew ?_))); (case side2 => exact HC532_1.out); (case side3 => repeat (first | exact HR533_1.out | (with_reducible refine Kd.C_alloc ?_ _) | (with_reducible refine Kd.C_drewN ?_ _) | (with_reducible refine Kd.C_drew ?_))); (case side4 => exact HC533_1.out); rintro e w' ⟨rfl, ⟨nd, rfl⟩⟩; (try first | exact ⟨rfl, _, World.drewN_drewN _ _ _⟩ | exact ⟨rfl, _, Eq.trans (World.drewN_drewN _ _ _) (congrArg (World.drewN _) (Nat.add_assoc _ _ _))⟩))); try go_wp2_with (first | (go_at_call 22; (with_reducible refine (garnerref02_Bytes.calls k1 _ _ ((rd_T135 l0 x5_1).f1) _ _ ((rd_T135 l1 x5_1).f1) true _ ?side1 ?side2 ?side3 ?side4 A8.out).mono ?_); (case side1 => repeat (first | exact HR532_1.out | (with_reducible refine Kd.C_alloc ?_ _) | (with_reducible refine Kd.C_drewN ?_ _) | (with_reducible refine Kd.C_drew ?_))); (case side2 => exact HC532_1.out); (case side3 => repeat (first | exact HR533_1.out | (with_reducible refine Kd.C_alloc ?_ _) | (with_reducible refine Kd.C_drewN ?_ _) | (with_reducible refine Kd.C_drew ?_))); (case side4 => exact HC533_1.out); rintro e w' ⟨rfl, ⟨nd, rfl⟩⟩; (try first | exact ⟨rfl, _, World.drewN_drewN _ _ _⟩ | exact ⟨rfl, _, Eq.trans (World.drewN_drewN _ _ _) (congrArg (World.drewN _) (Nat.add_assoc _ _ _))⟩))))
         go_roundg k1
         case measure => have := HK1.out; omega
         case rel => exact ⟨(wrap64 (x5_1 + 1)), (by first | rfl | (simp; done) | (simp [*]; done)), H', ⟨by have := HK1.out; omega⟩, by repeat (first | exact Drawn0.refl _ | apply Drawn0.step)⟩
        ·replace c9 := Bool.eq_false_iff.mpr c9
         subst c9
         have H1 : (some false) = some r := by rw [if_neg (show ¬ (false = true) by decide)] at H; exact H
         clear H
         have H := H1
         clear H1
         obtain rfl := Option.some.inj H
         have p530 : 0 ≤ (x5_1 : Int) := of_decide_eq_true pS
         have q530 : x5_1 < (l0.length : Int) := of_decide_eq_true pS
         obtain ⟨ad530, A530_1, c530_1, e530, hx530_0, hx530_1, hl530_1, hi530_1⟩ := at_T135 HR0.out x5_1 p530 q530
         cases e530
         have HR530_1 := Aside0.mk hi530_1
         have HC530_1 := Aside0.mk hl530_1
         clear hi530_1 hl530_1
         replace p530 := eq_true p530
         replace q530 := eq_true q530
         have p531 : 0 ≤ (x5_1 : Int) := of_decide_eq_true pS
         have q531 : x5_1 < (l1.length : Int) := of_decide_eq_true pS
         obtain ⟨ad531, A531_1, c531_1, e531, hx531_0, hx531_1, hl531_1, hi531_1⟩ := at_T135 HR1.out x5_1 p531 q531
         cases e531
         have HR531_1 := Aside0.mk hi531_1
         have HC531_1 := Aside0.mk hl531_1
         clear hi531_1 hl531_1
         replace p531 := eq_true p531
         replace q531 := eq_true q531
         have p532 : 0 ≤ (x5_1 : Int) := of_decide_eq_true pS
         have q532 : x5_1 < (l0.length : Int) := of_decide_eq_true pS
         obtain ⟨ad532, A532_1, c532_1, e532, hx532_0, hx532_1, hl532_1, hi532_1⟩ := at_T135 HR0.out x5_1 p532 q532
         obtain rfl : ad530 = ad532 := (by injection e532)
         have HR532_1 := Aside0.mk hi532_1
         have HC532_1 := Aside0.mk hl532_1
         clear hi532_1 hl532_1
         replace p532 := eq_true p532
         replace q532 := eq_true q532
         have ea_ := Option.some.inj (hx530_1.symm.trans hx532_1)
         injection ea_ with ea_ en_ ec_
         subst ea_
         subst ec_
         clear en_
         have p533 : 0 ≤ (x5_1 : Int) := of_decide_eq_true pS
         have q533 : x5_1 < (l1.length : Int) := of_decide_eq_true pS
         obtain ⟨ad533, A533_1, c533_1, e533, hx533_0, hx533_1, hl533_1, hi533_1⟩ := at_T135 HR1.out x5_1 p533 q533
         obtain rfl : ad531 = ad533 := (by injection e533)
         have HR533_1 := Aside0.mk hi533_1
         have HC533_1 := Aside0.mk hl533_1
         clear hi533_1 hl533_1
         replace p533 := eq_true p533
         replace q533 := eq_true q533
         have ea_ := Option.some.inj (hx531_1.symm.trans hx533_1)
         injection ea_ with ea_ en_ ec_
         subst ea_
         subst ec_
         clear en_
         go_wp2_with (first | (go_at_call 22; (with_reducible refine (garnerref02_Bytes.calls k1 _ _ ((rd_T135 l0 x5_1).f1) _ _ ((rd_T135 l1 x5_1).f1) false _ ?side1 ?side2 ?side3 ?side4 A8.out).mono ?_); (case side1 => repeat (first | exact HR532_1.out | (with_reducible refine Kd.C_alloc ?_ _) | (with_reducible refine Kd.C_drewN ?_ _) | (with_reducible refine Kd.C_drew ?_))); (case side2 => exact HC532_1.out); (case side3 => repeat (first | exact HR533_1.out | (with_reducible refine Kd.C_alloc ?_ _) | (with_reducible refine Kd.C_drewN ?_ _) | (with_reducible refine Kd.C_drew ?_))); (case side4 => exact HC533_1.out); rintro e w' ⟨rfl, ⟨nd, rfl⟩⟩; (try first | exact ⟨rfl, _, World.drewN_drewN _ _ _⟩ | exact ⟨rfl, _, Eq.trans (World.drewN_drewN _ _ _) (congrArg (World.drewN _) (Nat.add_assoc _ _ _))⟩)))
         repeat (go_quiet (first | (go_at_call 22; (with_reducible refine (garnerref02_Bytes.calls k1 _ _ ((rd_T135 l0 x5_1).f1) _ _ ((rd_T135 l1 x5_1).f1) false _ ?side1 ?side2 ?side3 ?side4 A8.out).mono ?_); (case side1 => repeat (first | exact HR532_1.out | (with_reducible refine Kd.C_alloc ?_ _) | (with_reducible refine Kd.C_drewN ?_ _) | (with_reducible refine Kd.C_drew ?_))); (case side2 => exact HC532_1.out); (case side3 => repeat (first | exact HR533_1.out | (with_reducible refine Kd.C_alloc ?_ _) | (with_reducible refine Kd.C_drewN ?_ _) | (with_reducible refine Kd.C_drew ?_))); (case side4 => exact HC533_1.out); rintro e w' ⟨rfl, ⟨nd, rfl⟩⟩; (try first | exact ⟨rfl, _, World.drewN_drewN _ _ _⟩ | exact ⟨rfl, _, Eq.trans (World.drewN_drewN _ _ _) (congrArg (World.drewN _) (Nat.add_assoc _ _ _))⟩))); try go_wp2_with (first | (go_at_call 22; (with_reducible refine (garnerref02_Bytes.calls k1 _ _ ((rd_T135 l0 x5_1).f1) _ _ ((rd_T135 l1 x5_1).f1) false _ ?side1 ?side2 ?side3 ?side4 A8.out).mono ?_); (case side1 => repeat (first | exact HR532_1.out | (with_reducible refine Kd.C_alloc ?_ _) | (with_reducible refine Kd.C_drewN ?_ _) | (with_reducible refine Kd.C_drew ?_))); (case side2 => exact HC532_1.out); (case side3 => repeat (first | exact HR533_1.out | (with_reducible refine Kd.C_alloc ?_ _) | (with_reducible refine Kd.C_drewN ?_ _) | (with_reducible refine Kd.C_drew ?_))); (case side4 => exact HC533_1.out); rintro e w' ⟨rfl, ⟨nd, rfl⟩⟩; (try first | exact ⟨rfl, _, World.drewN_drewN _ _ _⟩ | exact ⟨rfl, _, Eq.trans (World.drewN_drewN _ _ _) (congrArg (World.drewN _) (Nat.add_assoc _ _ _))⟩))))
         go_ret
         exact ⟨by first | rfl | (simp; done) | (simp [*]; done), by repeat (first | exact Drawn0.refl _ | apply Drawn0.step)⟩
       ·rw [if_neg c7] at H
        have c7b0 : (((rd_T135 l0 x5_1).f0).toList == ((rd_T135 l1 x5_1).f0).toList) = false := beq_eq_false_iff_ne.mpr c7
        have c7b1 : (((rd_T135 l0 x5_1).f0).toList != ((rd_T135 l1 x5_1).f0).toList) = true := bne_iff_ne.mpr c7
        obtain rfl := Option.some.inj H
        have p530 : 0 ≤ (x5_1 : Int) := of_decide_eq_true pS
        have q530 : x5_1 < (l0.length : Int) := of_decide_eq_true pS
        obtain ⟨ad530, A530_1, c530_1, e530, hx530_0, hx530_1, hl530_1, hi530_1⟩ := at_T135 HR0.out x5_1 p530 q530
        cases e530
        have HR530_1 := Aside0.mk hi530_1
        have HC530_1 := Aside0.mk hl530_1
        clear hi530_1 hl530_1
        replace p530 := eq_true p530
        replace q530 := eq_true q530
        have p531 : 0 ≤ (x5_1 : Int) := of_decide_eq_true pS
        have q531 : x5_1 < (l1.length : Int) := of_decide_eq_true pS
        obtain ⟨ad531, A531_1, c531_1, e531, hx531_0, hx531_1, hl531_1, hi531_1⟩ := at_T135 HR1.out x5_1 p531 q531
        cases e531
        have HR531_1 := Aside0.mk hi531_1
        have HC531_1 := Aside0.mk hl531_1
        clear hi531_1 hl531_1
        replace p531 := eq_true p531
        replace q531 := eq_true q531
        go_wp2
        repeat (go_quiet (fail); try go_wp2)
        go_ret
        exact ⟨by first | rfl | (simp; done) | (simp [*]; done), by repeat (first | exact Drawn0.refl _ | apply Drawn0.step)⟩
      ·rw [if_neg c6] at H
       exact absurd H (by simp)
     ·rw [if_neg c5] at H
      exact absurd H (by simp)
    ·rw [if_neg c4] at H
     have c4b0 : decide (x5_1 < (l0.length : Int)) = false := decide_eq_false c4
     clear c4
     obtain rfl := Option.some.inj H
     go_wp2
     repeat (go_quiet (fail); try go_wp2)
     go_ret
     exact ⟨by first | rfl | (simp; done) | (simp [*]; done), by repeat (first | exact Drawn0.refl _ | apply Drawn0.step)⟩
 ·rw [if_neg c3] at H
  have c3b0 : ((l0.length : Int) == (l1.length : Int)) = false := beq_eq_false_iff_ne.mpr c3
  have c3b1 : ((l0.length : Int) != (l1.length : Int)) = true := bne_iff_ne.mpr c3
  have c3b2 : (l0.length == l1.length) = false := by first | simpa using c3 | (simp at c3 ⊢; omega)
  obtain rfl := Option.some.inj H
  go_enter Try.func18, Try.ntmps18
  go_wp2
  repeat (go_quiet (fail); try go_wp2)
  go_ret
  exact ⟨by first | rfl | (simp; done) | (simp [*]; done), by repeat (first | exact Drawn0.refl _ | apply Drawn0.step)⟩
def garnerlaw27_ExportGets.f (k : Nat) (l0 : List Int) : Option (Bool) := if (l0.length : Int) > 5000 then ((garnerlaw27_awake.f k).bind fun t535 => (some t535)) else ((some (([] : List Int) : List Int)).bind fun y536 => (if y536.length + l0.length < 140737488355328 then ((export_Get.f k (y536 ++ l0)).bind fun bt542 => ((garnerref27_Get.f k l0).bind fun bt548 => (if bt542.1 = bt548.1 then (if bt542.2.1 = bt548.2.1 then ((garnerref27_Same.f k bt542.2.2.1 bt548.2.2.1).bind fun t555 => (if t555 = true then (if ((bt542.2.2.2 == 0) == bt548.2.2.2) = true then (if ((bt542.2.2.2 == 2) == (!bt548.2.2.2)) = true then ((garnerlaw27_awake.f k).bind fun t556 => (some t556)) else (some false)) else (some false)) else (some false))) else (some false)) else (some false)))) else (none)))
theorem garnerlaw27_ExportGets.mono : ∀ a0 k, LeO (garnerlaw27_ExportGets.f k a0) (garnerlaw27_ExportGets.f (k + 1) a0) := by
 intro a0 k
 unfold garnerlaw27_ExportGets.f
 repeat' first
   | (with_reducible exact export_Get.mono _ _)
   | (with_reducible exact garnerlaw27_awake.mono _)
   | (with_reducible exact garnerref27_Get.mono _ _)
   | (with_reducible exact garnerref27_Same.mono _ _ _)
   | (with_reducible exact LeO.refl _)
   | (with_reducible exact LeO.none _)
   | (with_reducible refine LeO.ite ?_ ?_)
   | (with_reducible refine LeO.bind ?_ (fun _ => ?_))
   | exact export_Get.mono _ _
   | exact garnerlaw27_awake.mono _
   | exact garnerref27_Get.mono _ _
   | exact garnerref27_Same.mono _ _ _
   | exact LeO.none _
   | refine LeO.ite ?_ ?_
   | refine LeO.bind ?_ (fun _ => ?_)
set_option maxHeartbeats 8000000 in
set_option maxRecDepth 100000 in
theorem garnerlaw27_ExportGets.calls (k : Nat) (A0 : Option Addr) (c0 : Nat) (l0 : List Int) (r : Bool) (w : World) (hr0 : Kd.C (Kd.int .u8) w A0 l0.length l0) (hc0 : l0.length ≤ c0) (h : garnerlaw27_ExportGets.f k l0 = some r) :
  Calls Try.prog 3 #[.slice A0 l0.length c0] w fun e w' => e = .returned (.bool r) ∧ Below w.heap.size w w' := by
 have hu29 := Try.underlying29
 have HR0 := Aside0.mk hr0
 have HC0 := Aside0.mk hc0
 clear hr0 hc0
 have HB := Aside0.mk (Below.refl w.heap.size w)
 have H : (if (l0.length : Int) > 5000 then ((garnerlaw27_awake.f k).bind fun t535 => (some t535)) else ((some (([] : List Int) : List Int)).bind fun y536 => (if y536.length + l0.length < 140737488355328 then ((export_Get.f k (y536 ++ l0)).bind fun bt542 => ((garnerref27_Get.f k l0).bind fun bt548 => (if bt542.1 = bt548.1 then (if bt542.2.1 = bt548.2.1 then ((garnerref27_Same.f k bt542.2.2.1 bt548.2.2.1).bind fun t555 => (if t555 = true then (if ((bt542.2.2.2 == 0) == bt548.2.2.2) = true then (if ((bt542.2.2.2 == 2) == (!bt548.2.2.2)) = true then ((garnerlaw27_awake.f k).bind fun t556 => (some t556)) else (some false)) else (some false)) else (some false))) else (some false)) else (some false)))) else (none)))) = some r := h
 clear h
 by_cases c2 : (l0.length : Int) > 5000
 ·rw [if_pos c2] at H
  have c2b0 : decide (5000 < (l0.length : Int)) = true := decide_eq_true c2
  have c2b1 : decide (5000 < l0.length) = true := decide_eq_true (by omega)
  clear c2
  replace H := Option.bind_eq_some_iff.mp H
  obtain ⟨t535, A30, H⟩ := H
  replace H : (some t535) = some r := H
  have A3 := Aside0.mk A30
  clear A30
  obtain rfl := Option.some.inj H
  go_enter Try.func3, Try.ntmps3
  go_wp2_with (first | ((with_reducible refine gate_callee (f := 15) rfl ?_); refine goesL_ (some 12) rfl rfl Try.func15 (by kernel_rfl) rfl #[] rfl pL ?_; (with_reducible refine (garnerlaw27_awake.calls k  t535 _ A3.out).mono ?_); rintro e w4 ⟨rfl, hb⟩; refine ⟨_, rfl, ?_⟩; have n0_ := Aside0.mk (below_step (pB HB.out) hb); clear HB; have HB := n0_; clear n0_; (try clear hb); (try clear hb2); (try clear hk); (try clear hi)))
  go_ret
  exact ⟨by first | rfl | (simp [errW_none, errW_some] <;> rfl) | (simp [*, errW_none, errW_some] <;> rfl), by repeat (first | (with_reducible first | exact HB.out | apply below_alloc | apply pw_below_drewN | apply below_drew1) | exact HB.out)⟩
 ·rw [if_neg c2] at H
  have c2b0 : decide (5000 < (l0.length : Int)) = false := decide_eq_false c2
  have c2b1 : decide (5000 < l0.length) = false := decide_eq_false (by omega)
  clear c2
  obtain ⟨y536, hy536⟩ : ∃ y_ : List Int, y_ = (([] : List Int)) := ⟨_, rfl⟩
  replace H : (if y536.length + l0.length < 140737488355328 then ((export_Get.f k (y536 ++ l0)).bind fun bt542 => ((garnerref27_Get.f k l0).bind fun bt548 => (if bt542.1 = bt548.1 then (if bt542.2.1 = bt548.2.1 then ((garnerref27_Same.f k bt542.2.2.1 bt548.2.2.1).bind fun t555 => (if t555 = true then (if ((bt542.2.2.2 == 0) == bt548.2.2.2) = true then (if ((bt542.2.2.2 == 2) == (!bt548.2.2.2)) = true then ((garnerlaw27_awake.f k).bind fun t556 => (some t556)) else (some false)) else (some false)) else (some false))) else (some false)) else (some false)))) else (none)) = some r := by first | (rw [hy536]; with_reducible exact H) | (have H2_ := (Option.bind_some _ _).symm.trans H; rw [hy536]; with_reducible exact H2_) | (have H2_ := (Option.bind_some _ _).symm.trans H; with_reducible exact H2_) | with_reducible exact H | (rw [hy536]; exact H) | exact H
  have Ny536 := Aside0.mk hy536
  clear hy536
  by_cases c5 : y536.length + l0.length < 140737488355328
  ·rw [if_pos c5] at H
   have LMc5 := Aside0.mk c5
   clear c5
   obtain ⟨y539, hy539⟩ : ∃ y_ : List Int, y_ = (y536 ++ l0) := ⟨_, rfl⟩
   replace H : ((export_Get.f k y539).bind fun bt542 => ((garnerref27_Get.f k l0).bind fun bt548 => (if bt542.1 = bt548.1 then (if bt542.2.1 = bt548.2.1 then ((garnerref27_Same.f k bt542.2.2.1 bt548.2.2.1).bind fun t555 => (if t555 = true then (if ((bt542.2.2.2 == 0) == bt548.2.2.2) = true then (if ((bt542.2.2.2 == 2) == (!bt548.2.2.2)) = true then ((garnerlaw27_awake.f k).bind fun t556 => (some t556)) else (some false)) else (some false)) else (some false))) else (some false)) else (some false)))) = some r := by first | (rw [hy539]; with_reducible exact H) | (have H2_ := (Option.bind_some _ _).symm.trans H; rw [hy539]; with_reducible exact H2_) | (have H2_ := (Option.bind_some _ _).symm.trans H; with_reducible exact H2_) | with_reducible exact H | (rw [hy539]; exact H) | exact H
   have Ny539 := Aside0.mk hy539
   clear hy539
   replace H := Option.bind_eq_some_iff.mp H
   obtain ⟨⟨t542, t543, t544, t547⟩, A60, H⟩ := H
   replace H : ((garnerref27_Get.f k l0).bind fun bt548 => (if t542 = bt548.1 then (if t543 = bt548.2.1 then ((garnerref27_Same.f k t544 bt548.2.2.1).bind fun t555 => (if t555 = true then (if ((t547 == 0) == bt548.2.2.2) = true then (if ((t547 == 2) == (!bt548.2.2.2)) = true then ((garnerlaw27_awake.f k).bind fun t556 => (some t556)) else (some false)) else (some false)) else (some false))) else (some false)) else (some false))) = some r := H
   have A6 := Aside0.mk A60
   clear A60
   replace H := Option.bind_eq_some_iff.mp H
   obtain ⟨⟨t548, t549, t550, t553⟩, A70, H⟩ := H
   replace H : (if t542 = t548 then (if t543 = t549 then ((garnerref27_Same.f k t544 t550).bind fun t555 => (if t555 = true then (if ((t547 == 0) == t553) = true then (if ((t547 == 2) == (!t553)) = true then ((garnerlaw27_awake.f k).bind fun t556 => (some t556)) else (some false)) else (some false)) else (some false))) else (some false)) else (some false)) = some r := H
   have A7 := Aside0.mk A70
   clear A70
   by_cases c8 : t542 = t548
   ·rw [if_pos c8] at H
    have c8b0 : (t542 == t548) = true := beq_iff_eq.mpr c8
    have c8b1 : (t542 != t548) = false := bne_eq_false_iff_eq.mpr c8
    clear c8
    by_cases c9 : t543 = t549
    ·rw [if_pos c9] at H
     have c9b0 : (t543 == t549) = true := beq_iff_eq.mpr c9
     have c9b1 : (t543 != t549) = false := bne_eq_false_iff_eq.mpr c9
     clear c9
     replace H := Option.bind_eq_some_iff.mp H
     obtain ⟨t555, A100, H⟩ := H
     replace H : (if t555 = true then (if ((t547 == 0) == t553) = true then (if ((t547 == 2) == (!t553)) = true then ((garnerlaw27_awake.f k).bind fun t556 => (some t556)) else (some false)) else (some false)) else (some false)) = some r := H
     have A10 := Aside0.mk A100
     clear A100
     by_cases c11 : t555 = true
     ·subst c11
      have H1 : (if ((t547 == 0) == t553) = true then (if ((t547 == 2) == (!t553)) = true then ((garnerlaw27_awake.f k).bind fun t556 => (some t556)) else (some false)) else (some false)) = some r := by rw [if_pos rfl] at H; exact H
      clear H
      have H := H1
      clear H1
      by_cases c12 : ((t547 == 0) == t553) = true
      ·rw [if_pos c12] at H
       have c12b0 : ((t547 == 0) == t553) = true := c12
       (try (have c12b1 : decide ((t547 == 0) = t553) = true := by simpa using c12))
       (try (have c12b2 : ((t547 == 0) == t553) = true := by simpa using c12))
       clear c12
       by_cases c13 : ((t547 == 2) == (!t553)) = true
       ·rw [if_pos c13] at H
        have c13b0 : ((t547 == 2) == (!t553)) = true := c13
        (try (have c13b1 : decide ((t547 == 2) = (!t553)) = true := by simpa using c13))
        (try (have c13b2 : ((t547 == 2) == (!t553)) = true := by simpa using c13))
        clear c13
        replace H := Option.bind_eq_some_iff.mp H
        obtain ⟨t556, A140, H⟩ := H
        replace H : (some t556) = some r := H
        have A14 := Aside0.mk A140
        clear A140
        obtain rfl := Option.some.inj H
        go_enter Try.func3, Try.ntmps3
        go_wp2_with (first | ((with_reducible refine gate_dst (N := 14) rfl ?_); refine Kd.R_lit (Kd.int .u8) _ 5 ?hg (N := 14) ?hd (xs := ([] : List Int)) (inner := []) (ok := fun _ => True) (okp := fun _ => True) ?hr ?hp (fun _ hk => hk) trivial (Below.refl _ _) (Nat.le_refl _) (by simp) ?_; (case hd => rfl); (case hg => rfl); (case hr => first | (go_simp; done) | (go_simp; rfl)); (case hp => exact (Reps.none _ _)); intro v537 w15 ho16 hb hg_ hnew_; clear hg_ hnew_; (first | rw [← Ny536.out] at ho16 | (simp only [Int.reduceToNat] at ho16; rw [← Ny536.out] at ho16)); have n0_ := Aside0.mk (Kd.R_lower ho16 (below_size (pB HB.out))); have n1_ := Aside0.mk (below_step (pB HB.out) hb); clear HB; have HO538 := n0_; have HB := n1_; clear n0_ n1_ hb ho16) | ((with_reducible refine gate_builtin (b := .append) (xs := #[.tmp 14, .tmp 15]) rfl ?_); at_builtin; refine Kd.R_append_rows (Kd.int .u8) (w0 := w) w.heap.size rfl (.tmp 14) (.tmp 15) 22 5 (.int .u8 0) 1 rfl Try.underlying22 info5 rfl (by decide) (by omega) v537 y536 l0 _ _ _ (fun _ => True) (fun _ => False) rfl rfl ?aO ?aR (fun _ _ h => h) (fun _ h => h.elim) ?aF ?aB ?aS ?aL ?_; (case aR => exact pC (Kd.C_below HR0.out HB.out)); (case aB => exact (pB HB.out)); (case aF => exact (fun _ _ => trivial)); (case aO => exact (pR HO538.out)); (case aS => exact (below_size (pB HB.out))); (case aL => have := LMc5.out; omega); intro v540 w17 ho hb hg hat; rw [← Ny539.out] at ho; have n0_ := Aside0.mk (hb); have n1_ := Aside0.mk (ho); clear HB HO538; have HB := n0_; have HO541 := n1_; clear n0_ n1_ ho hb hg hat; obtain ⟨Ao18, co18, eo18⟩ := Kd.R_slice HO541.out; subst eo18) | ((with_reducible refine gate_callee (f := 16) rfl ?_); refine goesL_ (some 17) rfl rfl Try.func16 (by kernel_rfl) rfl #[.slice Ao18 y539.length co18] rfl pL ?_; (with_reducible refine (export_Get.calls k _ _ y539 t542 t543 t544 t547 _ ?side1 ?side2 A6.out).mono ?_); (case side1 => exact pC (Kd.R_reads' HO541.out).2.2); (case side2 => exact (Kd.R_reads' HO541.out).2.1); rintro e w19 ⟨v545, rfl, ho0, hb⟩; refine ⟨_, rfl, ?_⟩; have n0_ := Aside0.mk (Kd.R_below (pR HO541.out) hb); have n1_ := Aside0.mk (Kd.N_lower (Kd.N_mono (ok' := fun k_ => some k_ ≠ (.slice Ao18 y539.length co18 : Value).ownBlock) ho0 (fun k_ hk_ => (Kd.fresh' (Kd.R_lt (pR HO541.out)) k_ hk_))) (below_size (pB HB.out))); have n2_ := Aside0.mk (below_step (pB HB.out) hb); clear HO541 HB; have HO541 := n0_; have HO546 := n1_; have HB := n2_; clear n0_ n1_ n2_; (try clear hb); (try clear hb2); (try clear hk); (try clear hi); (try clear ho0)) | ((with_reducible refine gate_callee (f := 17) rfl ?_); refine goesL_ (some 24) rfl rfl Try.func17 (by kernel_rfl) rfl #[.slice A0 l0.length c0] rfl pL ?_; (with_reducible refine (garnerref27_Get.calls k _ _ l0 t548 t549 t550 t553 _ ?side1 ?side2 A7.out).mono ?_); (case side1 => exact pC (Kd.C_below HR0.out HB.out)); (case side2 => exact HC0.out); rintro e w20 ⟨v551, rfl, ho0, hb⟩; refine ⟨_, rfl, ?_⟩; have n0_ := Aside0.mk (Kd.R_below (pR HO541.out) hb); have n1_ := Aside0.mk (Kd.N_elder' (pN HO546.out) (Kd.N_base ho0) hb); have n2_ := Aside0.mk (Kd.N_lower (Kd.N_mono (ok' := fun k_ => some k_ ≠ (.slice Ao18 y539.length co18 : Value).ownBlock ∧ some k_ ≠ (v545 : Value).ownBlock) ho0 (fun k_ hk_ => ⟨(Kd.fresh' (Kd.R_lt (pR HO541.out)) k_ hk_), (Kd.fresh' (Kd.N_lt (pN HO546.out)) k_ hk_)⟩)) (below_size (pB HB.out))); have n3_ := Aside0.mk (below_step (pB HB.out) hb); clear HO541 HO546 HB; have HO541 := n0_; have HO546 := n1_; have HO552 := n2_; have HB := n3_; clear n0_ n1_ n2_ n3_; (try clear hb); (try clear hb2); (try clear hk); (try clear hi); (try clear ho0)) | ((with_reducible refine gate_dst (N := 7) rfl ?_); refine box_event ?hg (N := 7) ?hd (cs := #[.int .i64 0, .int .i64 0, .slice none 0 0]) (t := 29) ?hr ?_; (case hd => rfl); (case hg => rfl); (case hr => first | (go_simp; done) | (go_simp; rfl)); intro gb554 hg w21 hbox hb; have n0_ := Aside0.mk (Kd.R_below (pR HO541.out) hb); have n1_ := Aside0.mk (Kd.N_below (Kd.N_elderB (pN HO546.out) gb554 (Nat.le_of_eq hg.symm)) hb); have n2_ := Aside0.mk (Kd.N_below (Kd.N_elderB (pN HO552.out) gb554 (Nat.le_of_eq hg.symm)) hb); have n3_ := Aside0.mk (below_step (pB HB.out) hb); have n4_ := Aside0.mk (hbox); have n5_ := Aside0.mk ((by rw [hg]; exact (below_size (pB HB.out)) : w.heap.size ≤ gb554)); have n6_ := Aside0.mk ((by rw [hg]; exact (below_size (pB HB.out)) : w.heap.size ≤ gb554)); clear HO541 HO546 HO552 HB; have HO541 := n0_; have HO546 := n1_; have HO552 := n2_; have HB := n3_; have BK554 := n4_; have GW554 := n5_; have GE554 := n6_; clear n0_ n1_ n2_ n3_ n4_ n5_ n6_ hb hbox hg; have hcz22_0 : w21.cell? ⟨gb554, 0, none⟩ = some (.int .i64 0) := (blk_cell BK554.out 0).trans rfl; have hcz22_1 : w21.cell? ⟨gb554, 1, none⟩ = some (.int .i64 0) := (blk_cell BK554.out 1).trans rfl; have hcz22_2 : w21.cell? ⟨gb554, 2, none⟩ = some (.slice none 0 0) := (blk_cell BK554.out 2).trans rfl; have hfz22_0 := blk_frozen BK554.out 0; have hfz22_1 := blk_frozen BK554.out 1; have hfz22_2 := blk_frozen BK554.out 2; obtain ⟨Ao23, co23, eo23⟩ := Kd.N_slice HO552.out; subst eo23; obtain ⟨Ao24, co24, eo24⟩ := Kd.N_slice HO546.out; subst eo24) | (go_at_call 18; (with_reducible refine (garnerref27_Same.calls k _ _ t544 _ _ t550 true _ ?side1 ?side2 ?side3 ?side4 A10.out).mono ?_); (case side1 => refine (Kd.N_reads' (e := 135) (base := w.heap.size) (ok := fun k_ => ((some k_ ≠ (.slice Ao18 y539.length co18 : Value).ownBlock ∧ some k_ ≠ (.slice Ao23 t550.length co23 : Value).ownBlock) ∧ k_ ≠ gb554)) (n := t544.length) (c := co24) ?_).2.2; exact (by (with_reducible repeat (first | apply Kd.N_alloc | apply Kd.N_drewN | apply Kd.N_drew)); exact (Kd.N_mono (Kd.N_far (p := ⟨gb554, 2, none⟩) (Kd.N_far (p := ⟨gb554, 1, none⟩) (Kd.N_far (p := ⟨gb554, 0, none⟩) (Kd.N_mono HO546.out (fun k_ hk => (⟨hk, hk.2⟩ : _ ∧ k_ ≠ gb554))) (fun _ hk => hk.2) (.int .i64 t548)) (fun _ hk => hk.2) (.int .i64 t549)) (fun _ hk => hk.2) (.slice Ao23 t550.length co23)) (fun _ h_ => h_.1)))); (case side2 => exact (Kd.N_reads' HO546.out).2.1); (case side3 => refine (Kd.N_reads' (e := 135) (base := w.heap.size) (ok := fun k_ => ((some k_ ≠ (.slice Ao18 y539.length co18 : Value).ownBlock ∧ some k_ ≠ (.slice Ao24 t544.length co24 : Value).ownBlock) ∧ k_ ≠ gb554)) (n := t550.length) (c := co23) ?_).2.2; exact (by (with_reducible repeat (first | apply Kd.N_alloc | apply Kd.N_drewN | apply Kd.N_drew)); exact (Kd.N_mono (Kd.N_far (p := ⟨gb554, 2, none⟩) (Kd.N_far (p := ⟨gb554, 1, none⟩) (Kd.N_far (p := ⟨gb554, 0, none⟩) (Kd.N_mono HO552.out (fun k_ hk => (⟨hk, hk.2⟩ : _ ∧ k_ ≠ gb554))) (fun _ hk => hk.2) (.int .i64 t548)) (fun _ hk => hk.2) (.int .i64 t549)) (fun _ hk => hk.2) (.slice Ao23 t550.length co23)) (fun _ h_ => h_.1)))); (case side4 => exact (Kd.N_reads' HO552.out).2.1); rintro e w' ⟨rfl, ⟨nd, rfl⟩⟩) | (go_at_call 15; (with_reducible refine (garnerlaw27_awake.calls k  t556 _ A14.out).mono ?_); rintro e w25 ⟨rfl, hb⟩; have n0_ := Aside0.mk (Kd.R_below (by (with_reducible repeat (first | apply Kd.R_alloc | apply Kd.R_drewN | apply Kd.R_drew)); exact (Kd.R_mono (Kd.R_far (p := ⟨gb554, 2, none⟩) (Kd.R_far (p := ⟨gb554, 1, none⟩) (Kd.R_far (p := ⟨gb554, 0, none⟩) (Kd.R_types HO541.out BK554.out (by decide)) (fun _ hk => hk.2) (.int .i64 t548)) (fun _ hk => hk.2) (.int .i64 t549)) (fun _ hk => hk.2) (.slice Ao23 t550.length co23)) (fun _ h_ => h_.1))) hb); have n1_ := Aside0.mk (Kd.N_below (by (with_reducible repeat (first | apply Kd.N_alloc | apply Kd.N_drewN | apply Kd.N_drew)); exact (Kd.N_mono (Kd.N_far (p := ⟨gb554, 2, none⟩) (Kd.N_far (p := ⟨gb554, 1, none⟩) (Kd.N_far (p := ⟨gb554, 0, none⟩) (Kd.N_mono HO546.out (fun k_ hk => (⟨hk, hk.2⟩ : _ ∧ k_ ≠ gb554))) (fun _ hk => hk.2) (.int .i64 t548)) (fun _ hk => hk.2) (.int .i64 t549)) (fun _ hk => hk.2) (.slice Ao23 t550.length co23)) (fun _ h_ => h_.1))) hb); have n2_ := Aside0.mk (Kd.N_below (by (with_reducible repeat (first | apply Kd.N_alloc | apply Kd.N_drewN | apply Kd.N_drew)); exact (Kd.N_mono (Kd.N_far (p := ⟨gb554, 2, none⟩) (Kd.N_far (p := ⟨gb554, 1, none⟩) (Kd.N_far (p := ⟨gb554, 0, none⟩) (Kd.N_mono HO552.out (fun k_ hk => (⟨hk, hk.2⟩ : _ ∧ k_ ≠ gb554))) (fun _ hk => hk.2) (.int .i64 t548)) (fun _ hk => hk.2) (.int .i64 t549)) (fun _ hk => hk.2) (.slice Ao23 t550.length co23)) (fun _ h_ => h_.1))) hb); have n3_ := Aside0.mk (blk_below (g := gb554) (o := .cells #[.int .i64 t548, .int .i64 t549, .slice Ao23 t550.length co23] 29 (0, 0)) (by (with_reducible repeat (first | refine blk_drewN ?_ _ | refine blk_drew ?_ | refine blk_alloc ?_ _)); refine blk_put (cs := #[.int .i64 t548, .int .i64 t549, .slice none 0 0]) ?_ 2 _ rfl; (with_reducible repeat (first | refine blk_drewN ?_ _ | refine blk_drew ?_ | refine blk_alloc ?_ _)); refine blk_put (cs := #[.int .i64 t548, .int .i64 0, .slice none 0 0]) ?_ 1 _ rfl; (with_reducible repeat (first | refine blk_drewN ?_ _ | refine blk_drew ?_ | refine blk_alloc ?_ _)); refine blk_put (cs := #[.int .i64 0, .int .i64 0, .slice none 0 0]) ?_ 0 _ rfl; (with_reducible repeat (first | refine blk_drewN ?_ _ | refine blk_drew ?_ | refine blk_alloc ?_ _)); exact BK554.out) hb); have n4_ := Aside0.mk (below_step (pE HB.out GE554.out) hb); clear HO541 HO546 HO552 BK554 HB; have HO541 := n0_; have HO546 := n1_; have HO552 := n2_; have BK554 := n3_; have HB := n4_; clear n0_ n1_ n2_ n3_ n4_; (try clear hb); (try clear hb2); (try clear hk); (try clear hi)))
        go_ret
        exact ⟨by first | rfl | (simp [errW_none, errW_some] <;> rfl) | (simp [*, errW_none, errW_some] <;> rfl), by repeat (first | (with_reducible first | exact HB.out | apply below_alloc | apply pw_below_drewN | apply below_drew1 | refine below_set ?_ GE554.out) | exact HB.out)⟩
       ·rw [if_neg c13] at H
        have c13b0 : ((t547 == 2) == (!t553)) = false := by simpa using c13
        (try (have c13b1 : decide ((t547 == 2) = (!t553)) = false := by simpa using c13))
        (try (have c13b2 : ((t547 == 2) == (!t553)) = false := by simpa using c13))
        (try (have c13b3 : ¬ ((t547 == 2) = (!t553)) := by simpa using c13))
        clear c13
        obtain rfl := Option.some.inj H
        go_enter Try.func3, Try.ntmps3
        go_wp2_with (first | ((with_reducible refine gate_dst (N := 14) rfl ?_); refine Kd.R_lit (Kd.int .u8) _ 5 ?hg (N := 14) ?hd (xs := ([] : List Int)) (inner := []) (ok := fun _ => True) (okp := fun _ => True) ?hr ?hp (fun _ hk => hk) trivial (Below.refl _ _) (Nat.le_refl _) (by simp) ?_; (case hd => rfl); (case hg => rfl); (case hr => first | (go_simp; done) | (go_simp; rfl)); (case hp => exact (Reps.none _ _)); intro v537 w26 ho27 hb hg_ hnew_; clear hg_ hnew_; (first | rw [← Ny536.out] at ho27 | (simp only [Int.reduceToNat] at ho27; rw [← Ny536.out] at ho27)); have n0_ := Aside0.mk (Kd.R_lower ho27 (below_size (pB HB.out))); have n1_ := Aside0.mk (below_step (pB HB.out) hb); clear HB; have HO538 := n0_; have HB := n1_; clear n0_ n1_ hb ho27) | ((with_reducible refine gate_builtin (b := .append) (xs := #[.tmp 14, .tmp 15]) rfl ?_); at_builtin; refine Kd.R_append_rows (Kd.int .u8) (w0 := w) w.heap.size rfl (.tmp 14) (.tmp 15) 22 5 (.int .u8 0) 1 rfl Try.underlying22 info5 rfl (by decide) (by omega) v537 y536 l0 _ _ _ (fun _ => True) (fun _ => False) rfl rfl ?aO ?aR (fun _ _ h => h) (fun _ h => h.elim) ?aF ?aB ?aS ?aL ?_; (case aR => exact pC (Kd.C_below HR0.out HB.out)); (case aB => exact (pB HB.out)); (case aF => exact (fun _ _ => trivial)); (case aO => exact (pR HO538.out)); (case aS => exact (below_size (pB HB.out))); (case aL => have := LMc5.out; omega); intro v540 w28 ho hb hg hat; rw [← Ny539.out] at ho; have n0_ := Aside0.mk (hb); have n1_ := Aside0.mk (ho); clear HB HO538; have HB := n0_; have HO541 := n1_; clear n0_ n1_ ho hb hg hat; obtain ⟨Ao29, co29, eo29⟩ := Kd.R_slice HO541.out; subst eo29) | ((with_reducible refine gate_callee (f := 16) rfl ?_); refine goesL_ (some 17) rfl rfl Try.func16 (by kernel_rfl) rfl #[.slice Ao29 y539.length co29] rfl pL ?_; (with_reducible refine (export_Get.calls k _ _ y539 t542 t543 t544 t547 _ ?side1 ?side2 A6.out).mono ?_); (case side1 => exact pC (Kd.R_reads' HO541.out).2.2); (case side2 => exact (Kd.R_reads' HO541.out).2.1); rintro e w30 ⟨v545, rfl, ho0, hb⟩; refine ⟨_, rfl, ?_⟩; have n0_ := Aside0.mk (Kd.R_below (pR HO541.out) hb); have n1_ := Aside0.mk (Kd.N_lower (Kd.N_mono (ok' := fun k_ => some k_ ≠ (.slice Ao29 y539.length co29 : Value).ownBlock) ho0 (fun k_ hk_ => (Kd.fresh' (Kd.R_lt (pR HO541.out)) k_ hk_))) (below_size (pB HB.out))); have n2_ := Aside0.mk (below_step (pB HB.out) hb); clear HO541 HB; have HO541 := n0_; have HO546 := n1_; have HB := n2_; clear n0_ n1_ n2_; (try clear hb); (try clear hb2); (try clear hk); (try clear hi); (try clear ho0)) | ((with_reducible refine gate_callee (f := 17) rfl ?_); refine goesL_ (some 24) rfl rfl Try.func17 (by kernel_rfl) rfl #[.slice A0 l0.length c0] rfl pL ?_; (with_reducible refine (garnerref27_Get.calls k _ _ l0 t548 t549 t550 t553 _ ?side1 ?side2 A7.out).mono ?_); (case side1 => exact pC (Kd.C_below HR0.out HB.out)); (case side2 => exact HC0.out); rintro e w31 ⟨v551, rfl, ho0, hb⟩; refine ⟨_, rfl, ?_⟩; have n0_ := Aside0.mk (Kd.R_below (pR HO541.out) hb); have n1_ := Aside0.mk (Kd.N_elder' (pN HO546.out) (Kd.N_base ho0) hb); have n2_ := Aside0.mk (Kd.N_lower (Kd.N_mono (ok' := fun k_ => some k_ ≠ (.slice Ao29 y539.length co29 : Value).ownBlock ∧ some k_ ≠ (v545 : Value).ownBlock) ho0 (fun k_ hk_ => ⟨(Kd.fresh' (Kd.R_lt (pR HO541.out)) k_ hk_), (Kd.fresh' (Kd.N_lt (pN HO546.out)) k_ hk_)⟩)) (below_size (pB HB.out))); have n3_ := Aside0.mk (below_step (pB HB.out) hb); clear HO541 HO546 HB; have HO541 := n0_; have HO546 := n1_; have HO552 := n2_; have HB := n3_; clear n0_ n1_ n2_ n3_; (try clear hb); (try clear hb2); (try clear hk); (try clear hi); (try clear ho0)) | ((with_reducible refine gate_dst (N := 7) rfl ?_); refine box_event ?hg (N := 7) ?hd (cs := #[.int .i64 0, .int .i64 0, .slice none 0 0]) (t := 29) ?hr ?_; (case hd => rfl); (case hg => rfl); (case hr => first | (go_simp; done) | (go_simp; rfl)); intro gb554 hg w32 hbox hb; have n0_ := Aside0.mk (Kd.R_below (pR HO541.out) hb); have n1_ := Aside0.mk (Kd.N_below (Kd.N_elderB (pN HO546.out) gb554 (Nat.le_of_eq hg.symm)) hb); have n2_ := Aside0.mk (Kd.N_below (Kd.N_elderB (pN HO552.out) gb554 (Nat.le_of_eq hg.symm)) hb); have n3_ := Aside0.mk (below_step (pB HB.out) hb); have n4_ := Aside0.mk (hbox); have n5_ := Aside0.mk ((by rw [hg]; exact (below_size (pB HB.out)) : w.heap.size ≤ gb554)); have n6_ := Aside0.mk ((by rw [hg]; exact (below_size (pB HB.out)) : w.heap.size ≤ gb554)); clear HO541 HO546 HO552 HB; have HO541 := n0_; have HO546 := n1_; have HO552 := n2_; have HB := n3_; have BK554 := n4_; have GW554 := n5_; have GE554 := n6_; clear n0_ n1_ n2_ n3_ n4_ n5_ n6_ hb hbox hg; have hcz33_0 : w32.cell? ⟨gb554, 0, none⟩ = some (.int .i64 0) := (blk_cell BK554.out 0).trans rfl; have hcz33_1 : w32.cell? ⟨gb554, 1, none⟩ = some (.int .i64 0) := (blk_cell BK554.out 1).trans rfl; have hcz33_2 : w32.cell? ⟨gb554, 2, none⟩ = some (.slice none 0 0) := (blk_cell BK554.out 2).trans rfl; have hfz33_0 := blk_frozen BK554.out 0; have hfz33_1 := blk_frozen BK554.out 1; have hfz33_2 := blk_frozen BK554.out 2; obtain ⟨Ao34, co34, eo34⟩ := Kd.N_slice HO552.out; subst eo34; obtain ⟨Ao35, co35, eo35⟩ := Kd.N_slice HO546.out; subst eo35) | (go_at_call 18; (with_reducible refine (garnerref27_Same.calls k _ _ t544 _ _ t550 true _ ?side1 ?side2 ?side3 ?side4 A10.out).mono ?_); (case side1 => refine (Kd.N_reads' (e := 135) (base := w.heap.size) (ok := fun k_ => ((some k_ ≠ (.slice Ao29 y539.length co29 : Value).ownBlock ∧ some k_ ≠ (.slice Ao34 t550.length co34 : Value).ownBlock) ∧ k_ ≠ gb554)) (n := t544.length) (c := co35) ?_).2.2; exact (by (with_reducible repeat (first | apply Kd.N_alloc | apply Kd.N_drewN | apply Kd.N_drew)); exact (Kd.N_mono (Kd.N_far (p := ⟨gb554, 2, none⟩) (Kd.N_far (p := ⟨gb554, 1, none⟩) (Kd.N_far (p := ⟨gb554, 0, none⟩) (Kd.N_mono HO546.out (fun k_ hk => (⟨hk, hk.2⟩ : _ ∧ k_ ≠ gb554))) (fun _ hk => hk.2) (.int .i64 t548)) (fun _ hk => hk.2) (.int .i64 t549)) (fun _ hk => hk.2) (.slice Ao34 t550.length co34)) (fun _ h_ => h_.1)))); (case side2 => exact (Kd.N_reads' HO546.out).2.1); (case side3 => refine (Kd.N_reads' (e := 135) (base := w.heap.size) (ok := fun k_ => ((some k_ ≠ (.slice Ao29 y539.length co29 : Value).ownBlock ∧ some k_ ≠ (.slice Ao35 t544.length co35 : Value).ownBlock) ∧ k_ ≠ gb554)) (n := t550.length) (c := co34) ?_).2.2; exact (by (with_reducible repeat (first | apply Kd.N_alloc | apply Kd.N_drewN | apply Kd.N_drew)); exact (Kd.N_mono (Kd.N_far (p := ⟨gb554, 2, none⟩) (Kd.N_far (p := ⟨gb554, 1, none⟩) (Kd.N_far (p := ⟨gb554, 0, none⟩) (Kd.N_mono HO552.out (fun k_ hk => (⟨hk, hk.2⟩ : _ ∧ k_ ≠ gb554))) (fun _ hk => hk.2) (.int .i64 t548)) (fun _ hk => hk.2) (.int .i64 t549)) (fun _ hk => hk.2) (.slice Ao34 t550.length co34)) (fun _ h_ => h_.1)))); (case side4 => exact (Kd.N_reads' HO552.out).2.1); rintro e w' ⟨rfl, ⟨nd, rfl⟩⟩))
        go_ret
        exact ⟨by first | rfl | (simp [errW_none, errW_some] <;> rfl) | (simp [*, errW_none, errW_some] <;> rfl), by repeat (first | (with_reducible first | exact HB.out | apply below_alloc | apply pw_below_drewN | apply below_drew1 | refine below_set ?_ GE554.out) | exact HB.out)⟩
      ·rw [if_neg c12] at H
       have c12b0 : ((t547 == 0) == t553) = false := by simpa using c12
       (try (have c12b1 : decide ((t547 == 0) = t553) = false := by simpa using c12))
       (try (have c12b2 : ((t547 == 0) == t553) = false := by simpa using c12))
       (try (have c12b3 : ¬ ((t547 == 0) = t553) := by simpa using c12))
       clear c12
       obtain rfl := Option.some.inj H
       go_enter Try.func3, Try.ntmps3
       go_wp2_with (first | ((with_reducible refine gate_dst (N := 14) rfl ?_); refine Kd.R_lit (Kd.int .u8) _ 5 ?hg (N := 14) ?hd (xs := ([] : List Int)) (inner := []) (ok := fun _ => True) (okp := fun _ => True) ?hr ?hp (fun _ hk => hk) trivial (Below.refl _ _) (Nat.le_refl _) (by simp) ?_; (case hd => rfl); (case hg => rfl); (case hr => first | (go_simp; done) | (go_simp; rfl)); (case hp => exact (Reps.none _ _)); intro v537 w36 ho37 hb hg_ hnew_; clear hg_ hnew_; (first | rw [← Ny536.out] at ho37 | (simp only [Int.reduceToNat] at ho37; rw [← Ny536.out] at ho37)); have n0_ := Aside0.mk (Kd.R_lower ho37 (below_size (pB HB.out))); have n1_ := Aside0.mk (below_step (pB HB.out) hb); clear HB; have HO538 := n0_; have HB := n1_; clear n0_ n1_ hb ho37) | ((with_reducible refine gate_builtin (b := .append) (xs := #[.tmp 14, .tmp 15]) rfl ?_); at_builtin; refine Kd.R_append_rows (Kd.int .u8) (w0 := w) w.heap.size rfl (.tmp 14) (.tmp 15) 22 5 (.int .u8 0) 1 rfl Try.underlying22 info5 rfl (by decide) (by omega) v537 y536 l0 _ _ _ (fun _ => True) (fun _ => False) rfl rfl ?aO ?aR (fun _ _ h => h) (fun _ h => h.elim) ?aF ?aB ?aS ?aL ?_; (case aR => exact pC (Kd.C_below HR0.out HB.out)); (case aB => exact (pB HB.out)); (case aF => exact (fun _ _ => trivial)); (case aO => exact (pR HO538.out)); (case aS => exact (below_size (pB HB.out))); (case aL => have := LMc5.out; omega); intro v540 w38 ho hb hg hat; rw [← Ny539.out] at ho; have n0_ := Aside0.mk (hb); have n1_ := Aside0.mk (ho); clear HB HO538; have HB := n0_; have HO541 := n1_; clear n0_ n1_ ho hb hg hat; obtain ⟨Ao39, co39, eo39⟩ := Kd.R_slice HO541.out; subst eo39) | ((with_reducible refine gate_callee (f := 16) rfl ?_); refine goesL_ (some 17) rfl rfl Try.func16 (by kernel_rfl) rfl #[.slice Ao39 y539.length co39] rfl pL ?_; (with_reducible refine (export_Get.calls k _ _ y539 t542 t543 t544 t547 _ ?side1 ?side2 A6.out).mono ?_); (case side1 => exact pC (Kd.R_reads' HO541.out).2.2); (case side2 => exact (Kd.R_reads' HO541.out).2.1); rintro e w40 ⟨v545, rfl, ho0, hb⟩; refine ⟨_, rfl, ?_⟩; have n0_ := Aside0.mk (Kd.R_below (pR HO541.out) hb); have n1_ := Aside0.mk (Kd.N_lower (Kd.N_mono (ok' := fun k_ => some k_ ≠ (.slice Ao39 y539.length co39 : Value).ownBlock) ho0 (fun k_ hk_ => (Kd.fresh' (Kd.R_lt (pR HO541.out)) k_ hk_))) (below_size (pB HB.out))); have n2_ := Aside0.mk (below_step (pB HB.out) hb); clear HO541 HB; have HO541 := n0_; have HO546 := n1_; have HB := n2_; clear n0_ n1_ n2_; (try clear hb); (try clear hb2); (try clear hk); (try clear hi); (try clear ho0)) | ((with_reducible refine gate_callee (f := 17) rfl ?_); refine goesL_ (some 24) rfl rfl Try.func17 (by kernel_rfl) rfl #[.slice A0 l0.length c0] rfl pL ?_; (with_reducible refine (garnerref27_Get.calls k _ _ l0 t548 t549 t550 t553 _ ?side1 ?side2 A7.out).mono ?_); (case side1 => exact pC (Kd.C_below HR0.out HB.out)); (case side2 => exact HC0.out); rintro e w41 ⟨v551, rfl, ho0, hb⟩; refine ⟨_, rfl, ?_⟩; have n0_ := Aside0.mk (Kd.R_below (pR HO541.out) hb); have n1_ := Aside0.mk (Kd.N_elder' (pN HO546.out) (Kd.N_base ho0) hb); have n2_ := Aside0.mk (Kd.N_lower (Kd.N_mono (ok' := fun k_ => some k_ ≠ (.slice Ao39 y539.length co39 : Value).ownBlock ∧ some k_ ≠ (v545 : Value).ownBlock) ho0 (fun k_ hk_ => ⟨(Kd.fresh' (Kd.R_lt (pR HO541.out)) k_ hk_), (Kd.fresh' (Kd.N_lt (pN HO546.out)) k_ hk_)⟩)) (below_size (pB HB.out))); have n3_ := Aside0.mk (below_step (pB HB.out) hb); clear HO541 HO546 HB; have HO541 := n0_; have HO546 := n1_; have HO552 := n2_; have HB := n3_; clear n0_ n1_ n2_ n3_; (try clear hb); (try clear hb2); (try clear hk); (try clear hi); (try clear ho0)) | ((with_reducible refine gate_dst (N := 7) rfl ?_); refine box_event ?hg (N := 7) ?hd (cs := #[.int .i64 0, .int .i64 0, .slice none 0 0]) (t := 29) ?hr ?_; (case hd => rfl); (case hg => rfl); (case hr => first | (go_simp; done) | (go_simp; rfl)); intro gb554 hg w42 hbox hb; have n0_ := Aside0.mk (Kd.R_below (pR HO541.out) hb); have n1_ := Aside0.mk (Kd.N_below (Kd.N_elderB (pN HO546.out) gb554 (Nat.le_of_eq hg.symm)) hb); have n2_ := Aside0.mk (Kd.N_below (Kd.N_elderB (pN HO552.out) gb554 (Nat.le_of_eq hg.symm)) hb); have n3_ := Aside0.mk (below_step (pB HB.out) hb); have n4_ := Aside0.mk (hbox); have n5_ := Aside0.mk ((by rw [hg]; exact (below_size (pB HB.out)) : w.heap.size ≤ gb554)); have n6_ := Aside0.mk ((by rw [hg]; exact (below_size (pB HB.out)) : w.heap.size ≤ gb554)); clear HO541 HO546 HO552 HB; have HO541 := n0_; have HO546 := n1_; have HO552 := n2_; have HB := n3_; have BK554 := n4_; have GW554 := n5_; have GE554 := n6_; clear n0_ n1_ n2_ n3_ n4_ n5_ n6_ hb hbox hg; have hcz43_0 : w42.cell? ⟨gb554, 0, none⟩ = some (.int .i64 0) := (blk_cell BK554.out 0).trans rfl; have hcz43_1 : w42.cell? ⟨gb554, 1, none⟩ = some (.int .i64 0) := (blk_cell BK554.out 1).trans rfl; have hcz43_2 : w42.cell? ⟨gb554, 2, none⟩ = some (.slice none 0 0) := (blk_cell BK554.out 2).trans rfl; have hfz43_0 := blk_frozen BK554.out 0; have hfz43_1 := blk_frozen BK554.out 1; have hfz43_2 := blk_frozen BK554.out 2; obtain ⟨Ao44, co44, eo44⟩ := Kd.N_slice HO552.out; subst eo44; obtain ⟨Ao45, co45, eo45⟩ := Kd.N_slice HO546.out; subst eo45) | (go_at_call 18; (with_reducible refine (garnerref27_Same.calls k _ _ t544 _ _ t550 true _ ?side1 ?side2 ?side3 ?side4 A10.out).mono ?_); (case side1 => refine (Kd.N_reads' (e := 135) (base := w.heap.size) (ok := fun k_ => ((some k_ ≠ (.slice Ao39 y539.length co39 : Value).ownBlock ∧ some k_ ≠ (.slice Ao44 t550.length co44 : Value).ownBlock) ∧ k_ ≠ gb554)) (n := t544.length) (c := co45) ?_).2.2; exact (by (with_reducible repeat (first | apply Kd.N_alloc | apply Kd.N_drewN | apply Kd.N_drew)); exact (Kd.N_mono (Kd.N_far (p := ⟨gb554, 2, none⟩) (Kd.N_far (p := ⟨gb554, 1, none⟩) (Kd.N_far (p := ⟨gb554, 0, none⟩) (Kd.N_mono HO546.out (fun k_ hk => (⟨hk, hk.2⟩ : _ ∧ k_ ≠ gb554))) (fun _ hk => hk.2) (.int .i64 t548)) (fun _ hk => hk.2) (.int .i64 t549)) (fun _ hk => hk.2) (.slice Ao44 t550.length co44)) (fun _ h_ => h_.1)))); (case side2 => exact (Kd.N_reads' HO546.out).2.1); (case side3 => refine (Kd.N_reads' (e := 135) (base := w.heap.size) (ok := fun k_ => ((some k_ ≠ (.slice Ao39 y539.length co39 : Value).ownBlock ∧ some k_ ≠ (.slice Ao45 t544.length co45 : Value).ownBlock) ∧ k_ ≠ gb554)) (n := t550.length) (c := co44) ?_).2.2; exact (by (with_reducible repeat (first | apply Kd.N_alloc | apply Kd.N_drewN | apply Kd.N_drew)); exact (Kd.N_mono (Kd.N_far (p := ⟨gb554, 2, none⟩) (Kd.N_far (p := ⟨gb554, 1, none⟩) (Kd.N_far (p := ⟨gb554, 0, none⟩) (Kd.N_mono HO552.out (fun k_ hk => (⟨hk, hk.2⟩ : _ ∧ k_ ≠ gb554))) (fun _ hk => hk.2) (.int .i64 t548)) (fun _ hk => hk.2) (.int .i64 t549)) (fun _ hk => hk.2) (.slice Ao44 t550.length co44)) (fun _ h_ => h_.1)))); (case side4 => exact (Kd.N_reads' HO552.out).2.1); rintro e w' ⟨rfl, ⟨nd, rfl⟩⟩))
       go_ret
       exact ⟨by first | rfl | (simp [errW_none, errW_some] <;> rfl) | (simp [*, errW_none, errW_some] <;> rfl), by repeat (first | (with_reducible first | exact HB.out | apply below_alloc | apply pw_below_drewN | apply below_drew1 | refine below_set ?_ GE554.out) | exact HB.out)⟩
     ·replace c11 := Bool.eq_false_iff.mpr c11
      subst c11
      have H1 : (some false) = some r := by rw [if_neg (show ¬ (false = true) by decide)] at H; exact H
      clear H
      have H := H1
      clear H1
      obtain rfl := Option.some.inj H
      go_enter Try.func3, Try.ntmps3
      go_wp2_with (first | ((with_reducible refine gate_dst (N := 14) rfl ?_); refine Kd.R_lit (Kd.int .u8) _ 5 ?hg (N := 14) ?hd (xs := ([] : List Int)) (inner := []) (ok := fun _ => True) (okp := fun _ => True) ?hr ?hp (fun _ hk => hk) trivial (Below.refl _ _) (Nat.le_refl _) (by simp) ?_; (case hd => rfl); (case hg => rfl); (case hr => first | (go_simp; done) | (go_simp; rfl)); (case hp => exact (Reps.none _ _)); intro v537 w46 ho47 hb hg_ hnew_; clear hg_ hnew_; (first | rw [← Ny536.out] at ho47 | (simp only [Int.reduceToNat] at ho47; rw [← Ny536.out] at ho47)); have n0_ := Aside0.mk (Kd.R_lower ho47 (below_size (pB HB.out))); have n1_ := Aside0.mk (below_step (pB HB.out) hb); clear HB; have HO538 := n0_; have HB := n1_; clear n0_ n1_ hb ho47) | ((with_reducible refine gate_builtin (b := .append) (xs := #[.tmp 14, .tmp 15]) rfl ?_); at_builtin; refine Kd.R_append_rows (Kd.int .u8) (w0 := w) w.heap.size rfl (.tmp 14) (.tmp 15) 22 5 (.int .u8 0) 1 rfl Try.underlying22 info5 rfl (by decide) (by omega) v537 y536 l0 _ _ _ (fun _ => True) (fun _ => False) rfl rfl ?aO ?aR (fun _ _ h => h) (fun _ h => h.elim) ?aF ?aB ?aS ?aL ?_; (case aR => exact pC (Kd.C_below HR0.out HB.out)); (case aB => exact (pB HB.out)); (case aF => exact (fun _ _ => trivial)); (case aO => exact (pR HO538.out)); (case aS => exact (below_size (pB HB.out))); (case aL => have := LMc5.out; omega); intro v540 w48 ho hb hg hat; rw [← Ny539.out] at ho; have n0_ := Aside0.mk (hb); have n1_ := Aside0.mk (ho); clear HB HO538; have HB := n0_; have HO541 := n1_; clear n0_ n1_ ho hb hg hat; obtain ⟨Ao49, co49, eo49⟩ := Kd.R_slice HO541.out; subst eo49) | ((with_reducible refine gate_callee (f := 16) rfl ?_); refine goesL_ (some 17) rfl rfl Try.func16 (by kernel_rfl) rfl #[.slice Ao49 y539.length co49] rfl pL ?_; (with_reducible refine (export_Get.calls k _ _ y539 t542 t543 t544 t547 _ ?side1 ?side2 A6.out).mono ?_); (case side1 => exact pC (Kd.R_reads' HO541.out).2.2); (case side2 => exact (Kd.R_reads' HO541.out).2.1); rintro e w50 ⟨v545, rfl, ho0, hb⟩; refine ⟨_, rfl, ?_⟩; have n0_ := Aside0.mk (Kd.R_below (pR HO541.out) hb); have n1_ := Aside0.mk (Kd.N_lower (Kd.N_mono (ok' := fun k_ => some k_ ≠ (.slice Ao49 y539.length co49 : Value).ownBlock) ho0 (fun k_ hk_ => (Kd.fresh' (Kd.R_lt (pR HO541.out)) k_ hk_))) (below_size (pB HB.out))); have n2_ := Aside0.mk (below_step (pB HB.out) hb); clear HO541 HB; have HO541 := n0_; have HO546 := n1_; have HB := n2_; clear n0_ n1_ n2_; (try clear hb); (try clear hb2); (try clear hk); (try clear hi); (try clear ho0)) | ((with_reducible refine gate_callee (f := 17) rfl ?_); refine goesL_ (some 24) rfl rfl Try.func17 (by kernel_rfl) rfl #[.slice A0 l0.length c0] rfl pL ?_; (with_reducible refine (garnerref27_Get.calls k _ _ l0 t548 t549 t550 t553 _ ?side1 ?side2 A7.out).mono ?_); (case side1 => exact pC (Kd.C_below HR0.out HB.out)); (case side2 => exact HC0.out); rintro e w51 ⟨v551, rfl, ho0, hb⟩; refine ⟨_, rfl, ?_⟩; have n0_ := Aside0.mk (Kd.R_below (pR HO541.out) hb); have n1_ := Aside0.mk (Kd.N_elder' (pN HO546.out) (Kd.N_base ho0) hb); have n2_ := Aside0.mk (Kd.N_lower (Kd.N_mono (ok' := fun k_ => some k_ ≠ (.slice Ao49 y539.length co49 : Value).ownBlock ∧ some k_ ≠ (v545 : Value).ownBlock) ho0 (fun k_ hk_ => ⟨(Kd.fresh' (Kd.R_lt (pR HO541.out)) k_ hk_), (Kd.fresh' (Kd.N_lt (pN HO546.out)) k_ hk_)⟩)) (below_size (pB HB.out))); have n3_ := Aside0.mk (below_step (pB HB.out) hb); clear HO541 HO546 HB; have HO541 := n0_; have HO546 := n1_; have HO552 := n2_; have HB := n3_; clear n0_ n1_ n2_ n3_; (try clear hb); (try clear hb2); (try clear hk); (try clear hi); (try clear ho0)) | ((with_reducible refine gate_dst (N := 7) rfl ?_); refine box_event ?hg (N := 7) ?hd (cs := #[.int .i64 0, .int .i64 0, .slice none 0 0]) (t := 29) ?hr ?_; (case hd => rfl); (case hg => rfl); (case hr => first | (go_simp; done) | (go_simp; rfl)); intro gb554 hg w52 hbox hb; have n0_ := Aside0.mk (Kd.R_below (pR HO541.out) hb); have n1_ := Aside0.mk (Kd.N_below (Kd.N_elderB (pN HO546.out) gb554 (Nat.le_of_eq hg.symm)) hb); have n2_ := Aside0.mk (Kd.N_below (Kd.N_elderB (pN HO552.out) gb554 (Nat.le_of_eq hg.symm)) hb); have n3_ := Aside0.mk (below_step (pB HB.out) hb); have n4_ := Aside0.mk (hbox); have n5_ := Aside0.mk ((by rw [hg]; exact (below_size (pB HB.out)) : w.heap.size ≤ gb554)); have n6_ := Aside0.mk ((by rw [hg]; exact (below_size (pB HB.out)) : w.heap.size ≤ gb554)); clear HO541 HO546 HO552 HB; have HO541 := n0_; have HO546 := n1_; have HO552 := n2_; have HB := n3_; have BK554 := n4_; have GW554 := n5_; have GE554 := n6_; clear n0_ n1_ n2_ n3_ n4_ n5_ n6_ hb hbox hg; have hcz53_0 : w52.cell? ⟨gb554, 0, none⟩ = some (.int .i64 0) := (blk_cell BK554.out 0).trans rfl; have hcz53_1 : w52.cell? ⟨gb554, 1, none⟩ = some (.int .i64 0) := (blk_cell BK554.out 1).trans rfl; have hcz53_2 : w52.cell? ⟨gb554, 2, none⟩ = some (.slice none 0 0) := (blk_cell BK554.out 2).trans rfl; have hfz53_0 := blk_frozen BK554.out 0; have hfz53_1 := blk_frozen BK554.out 1; have hfz53_2 := blk_frozen BK554.out 2; obtain ⟨Ao54, co54, eo54⟩ := Kd.N_slice HO552.out; subst eo54; obtain ⟨Ao55, co55, eo55⟩ := Kd.N_slice HO546.out; subst eo55) | (go_at_call 18; (with_reducible refine (garnerref27_Same.calls k _ _ t544 _ _ t550 false _ ?side1 ?side2 ?side3 ?side4 A10.out).mono ?_); (case side1 => refine (Kd.N_reads' (e := 135) (base := w.heap.size) (ok := fun k_ => ((some k_ ≠ (.slice Ao49 y539.length co49 : Value).ownBlock ∧ some k_ ≠ (.slice Ao54 t550.length co54 : Value).ownBlock) ∧ k_ ≠ gb554)) (n := t544.length) (c := co55) ?_).2.2; exact (by (with_reducible repeat (first | apply Kd.N_alloc | apply Kd.N_drewN | apply Kd.N_drew)); exact (Kd.N_mono (Kd.N_far (p := ⟨gb554, 2, none⟩) (Kd.N_far (p := ⟨gb554, 1, none⟩) (Kd.N_far (p := ⟨gb554, 0, none⟩) (Kd.N_mono HO546.out (fun k_ hk => (⟨hk, hk.2⟩ : _ ∧ k_ ≠ gb554))) (fun _ hk => hk.2) (.int .i64 t548)) (fun _ hk => hk.2) (.int .i64 t549)) (fun _ hk => hk.2) (.slice Ao54 t550.length co54)) (fun _ h_ => h_.1)))); (case side2 => exact (Kd.N_reads' HO546.out).2.1); (case side3 => refine (Kd.N_reads' (e := 135) (base := w.heap.size) (ok := fun k_ => ((some k_ ≠ (.slice Ao49 y539.length co49 : Value).ownBlock ∧ some k_ ≠ (.slice Ao55 t544.length co55 : Value).ownBlock) ∧ k_ ≠ gb554)) (n := t550.length) (c := co54) ?_).2.2; exact (by (with_reducible repeat (first | apply Kd.N_alloc | apply Kd.N_drewN | apply Kd.N_drew)); exact (Kd.N_mono (Kd.N_far (p := ⟨gb554, 2, none⟩) (Kd.N_far (p := ⟨gb554, 1, none⟩) (Kd.N_far (p := ⟨gb554, 0, none⟩) (Kd.N_mono HO552.out (fun k_ hk => (⟨hk, hk.2⟩ : _ ∧ k_ ≠ gb554))) (fun _ hk => hk.2) (.int .i64 t548)) (fun _ hk => hk.2) (.int .i64 t549)) (fun _ hk => hk.2) (.slice Ao54 t550.length co54)) (fun _ h_ => h_.1)))); (case side4 => exact (Kd.N_reads' HO552.out).2.1); rintro e w' ⟨rfl, ⟨nd, rfl⟩⟩))
      go_ret
      exact ⟨by first | rfl | (simp [errW_none, errW_some] <;> rfl) | (simp [*, errW_none, errW_some] <;> rfl), by repeat (first | (with_reducible first | exact HB.out | apply below_alloc | apply pw_below_drewN | apply below_drew1 | refine below_set ?_ GE554.out) | exact HB.out)⟩
    ·rw [if_neg c9] at H
     have c9b0 : (t543 == t549) = false := beq_eq_false_iff_ne.mpr c9
     have c9b1 : (t543 != t549) = true := bne_iff_ne.mpr c9
     obtain rfl := Option.some.inj H
     go_enter Try.func3, Try.ntmps3
     go_wp2_with (first | ((with_reducible refine gate_dst (N := 14) rfl ?_); refine Kd.R_lit (Kd.int .u8) _ 5 ?hg (N := 14) ?hd (xs := ([] : List Int)) (inner := []) (ok := fun _ => True) (okp := fun _ => True) ?hr ?hp (fun _ hk => hk) trivial (Below.refl _ _) (Nat.le_refl _) (by simp) ?_; (case hd => rfl); (case hg => rfl); (case hr => first | (go_simp; done) | (go_simp; rfl)); (case hp => exact (Reps.none _ _)); intro v537 w56 ho57 hb hg_ hnew_; clear hg_ hnew_; (first | rw [← Ny536.out] at ho57 | (simp only [Int.reduceToNat] at ho57; rw [← Ny536.out] at ho57)); have n0_ := Aside0.mk (Kd.R_lower ho57 (below_size (pB HB.out))); have n1_ := Aside0.mk (below_step (pB HB.out) hb); clear HB; have HO538 := n0_; have HB := n1_; clear n0_ n1_ hb ho57) | ((with_reducible refine gate_builtin (b := .append) (xs := #[.tmp 14, .tmp 15]) rfl ?_); at_builtin; refine Kd.R_append_rows (Kd.int .u8) (w0 := w) w.heap.size rfl (.tmp 14) (.tmp 15) 22 5 (.int .u8 0) 1 rfl Try.underlying22 info5 rfl (by decide) (by omega) v537 y536 l0 _ _ _ (fun _ => True) (fun _ => False) rfl rfl ?aO ?aR (fun _ _ h => h) (fun _ h => h.elim) ?aF ?aB ?aS ?aL ?_; (case aR => exact pC (Kd.C_below HR0.out HB.out)); (case aB => exact (pB HB.out)); (case aF => exact (fun _ _ => trivial)); (case aO => exact (pR HO538.out)); (case aS => exact (below_size (pB HB.out))); (case aL => have := LMc5.out; omega); intro v540 w58 ho hb hg hat; rw [← Ny539.out] at ho; have n0_ := Aside0.mk (hb); have n1_ := Aside0.mk (ho); clear HB HO538; have HB := n0_; have HO541 := n1_; clear n0_ n1_ ho hb hg hat; obtain ⟨Ao59, co59, eo59⟩ := Kd.R_slice HO541.out; subst eo59) | ((with_reducible refine gate_callee (f := 16) rfl ?_); refine goesL_ (some 17) rfl rfl Try.func16 (by kernel_rfl) rfl #[.slice Ao59 y539.length co59] rfl pL ?_; (with_reducible refine (export_Get.calls k _ _ y539 t542 t543 t544 t547 _ ?side1 ?side2 A6.out).mono ?_); (case side1 => exact pC (Kd.R_reads' HO541.out).2.2); (case side2 => exact (Kd.R_reads' HO541.out).2.1); rintro e w60 ⟨v545, rfl, ho0, hb⟩; refine ⟨_, rfl, ?_⟩; have n0_ := Aside0.mk (Kd.R_below (pR HO541.out) hb); have n1_ := Aside0.mk (Kd.N_lower (Kd.N_mono (ok' := fun k_ => some k_ ≠ (.slice Ao59 y539.length co59 : Value).ownBlock) ho0 (fun k_ hk_ => (Kd.fresh' (Kd.R_lt (pR HO541.out)) k_ hk_))) (below_size (pB HB.out))); have n2_ := Aside0.mk (below_step (pB HB.out) hb); clear HO541 HB; have HO541 := n0_; have HO546 := n1_; have HB := n2_; clear n0_ n1_ n2_; (try clear hb); (try clear hb2); (try clear hk); (try clear hi); (try clear ho0)) | ((with_reducible refine gate_callee (f := 17) rfl ?_); refine goesL_ (some 24) rfl rfl Try.func17 (by kernel_rfl) rfl #[.slice A0 l0.length c0] rfl pL ?_; (with_reducible refine (garnerref27_Get.calls k _ _ l0 t548 t549 t550 t553 _ ?side1 ?side2 A7.out).mono ?_); (case side1 => exact pC (Kd.C_below HR0.out HB.out)); (case side2 => exact HC0.out); rintro e w61 ⟨v551, rfl, ho0, hb⟩; refine ⟨_, rfl, ?_⟩; have n0_ := Aside0.mk (Kd.R_below (pR HO541.out) hb); have n1_ := Aside0.mk (Kd.N_elder' (pN HO546.out) (Kd.N_base ho0) hb); have n2_ := Aside0.mk (Kd.N_lower (Kd.N_mono (ok' := fun k_ => some k_ ≠ (.slice Ao59 y539.length co59 : Value).ownBlock ∧ some k_ ≠ (v545 : Value).ownBlock) ho0 (fun k_ hk_ => ⟨(Kd.fresh' (Kd.R_lt (pR HO541.out)) k_ hk_), (Kd.fresh' (Kd.N_lt (pN HO546.out)) k_ hk_)⟩)) (below_size (pB HB.out))); have n3_ := Aside0.mk (below_step (pB HB.out) hb); clear HO541 HO546 HB; have HO541 := n0_; have HO546 := n1_; have HO552 := n2_; have HB := n3_; clear n0_ n1_ n2_ n3_; (try clear hb); (try clear hb2); (try clear hk); (try clear hi); (try clear ho0)) | ((with_reducible refine gate_dst (N := 7) rfl ?_); refine box_event ?hg (N := 7) ?hd (cs := #[.int .i64 0, .int .i64 0, .slice none 0 0]) (t := 29) ?hr ?_; (case hd => rfl); (case hg => rfl); (case hr => first | (go_simp; done) | (go_simp; rfl)); intro gb554 hg w62 hbox hb; have n0_ := Aside0.mk (Kd.R_below (pR HO541.out) hb); have n1_ := Aside0.mk (Kd.N_below (Kd.N_elderB (pN HO546.out) gb554 (Nat.le_of_eq hg.symm)) hb); have n2_ := Aside0.mk (Kd.N_below (Kd.N_elderB (pN HO552.out) gb554 (Nat.le_of_eq hg.symm)) hb); have n3_ := Aside0.mk (below_step (pB HB.out) hb); have n4_ := Aside0.mk (hbox); have n5_ := Aside0.mk ((by rw [hg]; exact (below_size (pB HB.out)) : w.heap.size ≤ gb554)); have n6_ := Aside0.mk ((by rw [hg]; exact (below_size (pB HB.out)) : w.heap.size ≤ gb554)); clear HO541 HO546 HO552 HB; have HO541 := n0_; have HO546 := n1_; have HO552 := n2_; have HB := n3_; have BK554 := n4_; have GW554 := n5_; have GE554 := n6_; clear n0_ n1_ n2_ n3_ n4_ n5_ n6_ hb hbox hg; have hcz63_0 : w62.cell? ⟨gb554, 0, none⟩ = some (.int .i64 0) := (blk_cell BK554.out 0).trans rfl; have hcz63_1 : w62.cell? ⟨gb554, 1, none⟩ = some (.int .i64 0) := (blk_cell BK554.out 1).trans rfl; have hcz63_2 : w62.cell? ⟨gb554, 2, none⟩ = some (.slice none 0 0) := (blk_cell BK554.out 2).trans rfl; have hfz63_0 := blk_frozen BK554.out 0; have hfz63_1 := blk_frozen BK554.out 1; have hfz63_2 := blk_frozen BK554.out 2; obtain ⟨Ao64, co64, eo64⟩ := Kd.N_slice HO552.out; subst eo64))
     go_ret
     exact ⟨by first | rfl | (simp [errW_none, errW_some] <;> rfl) | (simp [*, errW_none, errW_some] <;> rfl), by repeat (first | (with_reducible first | exact HB.out | apply below_alloc | apply pw_below_drewN | apply below_drew1 | refine below_set ?_ GE554.out) | exact HB.out)⟩
   ·rw [if_neg c8] at H
    have c8b0 : (t542 == t548) = false := beq_eq_false_iff_ne.mpr c8
    have c8b1 : (t542 != t548) = true := bne_iff_ne.mpr c8
    obtain rfl := Option.some.inj H
    go_enter Try.func3, Try.ntmps3
    go_wp2_with (first | ((with_reducible refine gate_dst (N := 14) rfl ?_); refine Kd.R_lit (Kd.int .u8) _ 5 ?hg (N := 14) ?hd (xs := ([] : List Int)) (inner := []) (ok := fun _ => True) (okp := fun _ => True) ?hr ?hp (fun _ hk => hk) trivial (Below.refl _ _) (Nat.le_refl _) (by simp) ?_; (case hd => rfl); (case hg => rfl); (case hr => first | (go_simp; done) | (go_simp; rfl)); (case hp => exact (Reps.none _ _)); intro v537 w65 ho66 hb hg_ hnew_; clear hg_ hnew_; (first | rw [← Ny536.out] at ho66 | (simp only [Int.reduceToNat] at ho66; rw [← Ny536.out] at ho66)); have n0_ := Aside0.mk (Kd.R_lower ho66 (below_size (pB HB.out))); have n1_ := Aside0.mk (below_step (pB HB.out) hb); clear HB; have HO538 := n0_; have HB := n1_; clear n0_ n1_ hb ho66) | ((with_reducible refine gate_builtin (b := .append) (xs := #[.tmp 14, .tmp 15]) rfl ?_); at_builtin; refine Kd.R_append_rows (Kd.int .u8) (w0 := w) w.heap.size rfl (.tmp 14) (.tmp 15) 22 5 (.int .u8 0) 1 rfl Try.underlying22 info5 rfl (by decide) (by omega) v537 y536 l0 _ _ _ (fun _ => True) (fun _ => False) rfl rfl ?aO ?aR (fun _ _ h => h) (fun _ h => h.elim) ?aF ?aB ?aS ?aL ?_; (case aR => exact pC (Kd.C_below HR0.out HB.out)); (case aB => exact (pB HB.out)); (case aF => exact (fun _ _ => trivial)); (case aO => exact (pR HO538.out)); (case aS => exact (below_size (pB HB.out))); (case aL => have := LMc5.out; omega); intro v540 w67 ho hb hg hat; rw [← Ny539.out] at ho; have n0_ := Aside0.mk (hb); have n1_ := Aside0.mk (ho); clear HB HO538; have HB := n0_; have HO541 := n1_; clear n0_ n1_ ho hb hg hat; obtain ⟨Ao68, co68, eo68⟩ := Kd.R_slice HO541.out; subst eo68) | ((with_reducible refine gate_callee (f := 16) rfl ?_); refine goesL_ (some 17) rfl rfl Try.func16 (by kernel_rfl) rfl #[.slice Ao68 y539.length co68] rfl pL ?_; (with_reducible refine (export_Get.calls k _ _ y539 t542 t543 t544 t547 _ ?side1 ?side2 A6.out).mono ?_); (case side1 => exact pC (Kd.R_reads' HO541.out).2.2); (case side2 => exact (Kd.R_reads' HO541.out).2.1); rintro e w69 ⟨v545, rfl, ho0, hb⟩; refine ⟨_, rfl, ?_⟩; have n0_ := Aside0.mk (Kd.R_below (pR HO541.out) hb); have n1_ := Aside0.mk (Kd.N_lower (Kd.N_mono (ok' := fun k_ => some k_ ≠ (.slice Ao68 y539.length co68 : Value).ownBlock) ho0 (fun k_ hk_ => (Kd.fresh' (Kd.R_lt (pR HO541.out)) k_ hk_))) (below_size (pB HB.out))); have n2_ := Aside0.mk (below_step (pB HB.out) hb); clear HO541 HB; have HO541 := n0_; have HO546 := n1_; have HB := n2_; clear n0_ n1_ n2_; (try clear hb); (try clear hb2); (try clear hk); (try clear hi); (try clear ho0)) | ((with_reducible refine gate_callee (f := 17) rfl ?_); refine goesL_ (some 24) rfl rfl Try.func17 (by kernel_rfl) rfl #[.slice A0 l0.length c0] rfl pL ?_; (with_reducible refine (garnerref27_Get.calls k _ _ l0 t548 t549 t550 t553 _ ?side1 ?side2 A7.out).mono ?_); (case side1 => exact pC (Kd.C_below HR0.out HB.out)); (case side2 => exact HC0.out); rintro e w70 ⟨v551, rfl, ho0, hb⟩; refine ⟨_, rfl, ?_⟩; have n0_ := Aside0.mk (Kd.R_below (pR HO541.out) hb); have n1_ := Aside0.mk (Kd.N_elder' (pN HO546.out) (Kd.N_base ho0) hb); have n2_ := Aside0.mk (Kd.N_lower (Kd.N_mono (ok' := fun k_ => some k_ ≠ (.slice Ao68 y539.length co68 : Value).ownBlock ∧ some k_ ≠ (v545 : Value).ownBlock) ho0 (fun k_ hk_ => ⟨(Kd.fresh' (Kd.R_lt (pR HO541.out)) k_ hk_), (Kd.fresh' (Kd.N_lt (pN HO546.out)) k_ hk_)⟩)) (below_size (pB HB.out))); have n3_ := Aside0.mk (below_step (pB HB.out) hb); clear HO541 HO546 HB; have HO541 := n0_; have HO546 := n1_; have HO552 := n2_; have HB := n3_; clear n0_ n1_ n2_ n3_; (try clear hb); (try clear hb2); (try clear hk); (try clear hi); (try clear ho0)) | ((with_reducible refine gate_dst (N := 7) rfl ?_); refine box_event ?hg (N := 7) ?hd (cs := #[.int .i64 0, .int .i64 0, .slice none 0 0]) (t := 29) ?hr ?_; (case hd => rfl); (case hg => rfl); (case hr => first | (go_simp; done) | (go_simp; rfl)); intro gb554 hg w71 hbox hb; have n0_ := Aside0.mk (Kd.R_below (pR HO541.out) hb); have n1_ := Aside0.mk (Kd.N_below (Kd.N_elderB (pN HO546.out) gb554 (Nat.le_of_eq hg.symm)) hb); have n2_ := Aside0.mk (Kd.N_below (Kd.N_elderB (pN HO552.out) gb554 (Nat.le_of_eq hg.symm)) hb); have n3_ := Aside0.mk (below_step (pB HB.out) hb); have n4_ := Aside0.mk (hbox); have n5_ := Aside0.mk ((by rw [hg]; exact (below_size (pB HB.out)) : w.heap.size ≤ gb554)); have n6_ := Aside0.mk ((by rw [hg]; exact (below_size (pB HB.out)) : w.heap.size ≤ gb554)); clear HO541 HO546 HO552 HB; have HO541 := n0_; have HO546 := n1_; have HO552 := n2_; have HB := n3_; have BK554 := n4_; have GW554 := n5_; have GE554 := n6_; clear n0_ n1_ n2_ n3_ n4_ n5_ n6_ hb hbox hg; have hcz72_0 : w71.cell? ⟨gb554, 0, none⟩ = some (.int .i64 0) := (blk_cell BK554.out 0).trans rfl; have hcz72_1 : w71.cell? ⟨gb554, 1, none⟩ = some (.int .i64 0) := (blk_cell BK554.out 1).trans rfl; have hcz72_2 : w71.cell? ⟨gb554, 2, none⟩ = some (.slice none 0 0) := (blk_cell BK554.out 2).trans rfl; have hfz72_0 := blk_frozen BK554.out 0; have hfz72_1 := blk_frozen BK554.out 1; have hfz72_2 := blk_frozen BK554.out 2; obtain ⟨Ao73, co73, eo73⟩ := Kd.N_slice HO552.out; subst eo73))
    go_ret
    exact ⟨by first | rfl | (simp [errW_none, errW_some] <;> rfl) | (simp [*, errW_none, errW_some] <;> rfl), by repeat (first | (with_reducible first | exact HB.out | apply below_alloc | apply pw_below_drewN | apply below_drew1 | refine below_set ?_ GE554.out) | exact HB.out)⟩
  ·rw [if_neg c5] at H
   exact absurd H (by simp)
/-- THE ONE PURE STATEMENT of garnerlaw27_ExportGets: yours. -/
def garnerlaw27_ExportGets.Pure : Prop := ∀ (l0 : List Int), l0.length ≤ maxLen → l0.length * 1 ≤ 140737488351232 → (∀ x ∈ l0, (Lit.int .u8 x).wf = true) → ∃ k, garnerlaw27_ExportGets.f k l0 = some true
theorem garnerlaw27_ExportGets.walk (P : garnerlaw27_ExportGets.Pure) (a0 : Option Addr) (len0 cap0 : Nat) (z0 : List Int) (w : World) (w0 : (a0 = none ∧ len0 = 0 ∧ cap0 = 0 ∧ z0 = []) ∨ ∃ x, a0 = some x ∧ len0 ≤ cap0 ∧ cap0 ≤ maxLen ∧ z0.length = cap0 ∧ (∀ i, i < z0.length → w.cell? (x.add i) = some (.int .u8 (z0.getD i 0))) ∧ ∀ n ∈ z0, (Lit.int .u8 n).wf = true) (y0 : len0 * 1 ≤ 140737488351232) :
  Calls Try.prog 3 #[.slice a0 len0 cap0] w fun e w' => e = .returned (.bool true) ∧ Below w.heap.size w w' := by
 obtain ⟨l0, rfl, hr0, hm0, hw0, hc0⟩ := ReadsInt.ofRowC w0
 obtain ⟨k, h⟩ := P l0 hm0 y0 hw0
 refine (garnerlaw27_ExportGets.calls k _ _ l0 true w (Kd.C_of_reads (d := (0 : Int)) (h1 := fun _ => rfl) hr0) hc0 h).mono ?_
 rintro e w' ⟨rfl, hd⟩
 exact ⟨rfl, hd⟩
end Go.Proofs.Ytapamplgajkjlaa.PExportGets
