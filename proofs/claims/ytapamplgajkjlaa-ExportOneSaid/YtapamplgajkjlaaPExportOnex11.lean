/- Written by a program of this work (wip/tools/patch_print.py: the kit's print with changes of ours): the functions that the law reaches as plain Lean functions, and that the machine's calls answer just that. -/
import Derived.Test.YtapamplgajkjlaaPExportOnex0
namespace Go.Proofs.Ytapamplgajkjlaa.PExportOne
open Go.RowKit Go.Proofs.YtapamplgajkjlaaW.PrintWords Go.Proofs.YtapamplgajkjlaaW.PrintLast Go.Proofs.YtapamplgajkjlaaW.PrintMore
attribute [local go_sem] max2_int min2_int max_two min_two max_three min_three max_four min_four   -- for this text's walks alone
set_option linter.unusedVariables false
set_option linter.unusedSimpArgs false

attribute [local go_sem] wrap64_l1 wrap64_l2 wrap64_l3 wrap64_l4 wrap64_l5 str_leq str_gtr str_geq
/-! ### garnerref27_Sorted: function 24 -/
def garnerref27_Sorted.l0 : Nat → List (S135) → Int → Option (Bool)
 | 0, _, _ => none
 | k + 1, x0, x3 => if x3 < (x0.length : Int) then (if 0 ≤ x3 then (if ((rd_T135 x0 x3).f0).toList = ([] : List UInt8) then (some false) else (if (((rd_T135 x0 x3).f0).size : Int) > 64 then (some false) else (if (((rd_T135 x0 x3).f1).length : Int) > 4096 then (some false) else (if x3 > 0 then (if 0 ≤ (wrap64 (x3 - 1)) then (if (wrap64 (x3 - 1)) < (x0.length : Int) then (if ((Op.bytesLess (((rd_T135 x0 (wrap64 (x3 - 1))).f0).toList) (((rd_T135 x0 x3).f0).toList)) = true) then (garnerref27_Sorted.l0 k x0 (wrap64 (x3 + 1))) else (some false)) else (none)) else (none)) else (garnerref27_Sorted.l0 k x0 (wrap64 (x3 + 1))))))) else (none)) else (some (decide ((x0.length : Int) ≤ 4096)))
def garnerref27_Sorted.f (k : Nat) (l0 : List (S135)) : Option (Bool) := garnerref27_Sorted.l0 k l0 0
theorem garnerref27_Sorted.mono_l : ∀ k, (∀ y0 y1, LeO (garnerref27_Sorted.l0 k y0 y1) (garnerref27_Sorted.l0 (k + 1) y0 y1))
 | 0 => fun _ _ r h => by simp [garnerref27_Sorted.l0] at h
 | k + 1 => by
  have ih0 := garnerref27_Sorted.mono_l k
  ·intro y0 y1
   unfold garnerref27_Sorted.l0
   repeat' first
   | (with_reducible exact ih0 _ _)
   | (with_reducible exact LeO.refl _)
   | (with_reducible exact LeO.none _)
   | (with_reducible refine LeO.ite ?_ ?_)
   | (with_reducible refine LeO.bind ?_ (fun _ => ?_))
   | exact ih0 _ _
   | exact LeO.none _
   | refine LeO.ite ?_ ?_
   | refine LeO.bind ?_ (fun _ => ?_)
theorem garnerref27_Sorted.mono : ∀ a0 k, LeO (garnerref27_Sorted.f k a0) (garnerref27_Sorted.f (k + 1) a0) := by
 intro a0 k
 have ih0 := garnerref27_Sorted.mono_l k
 unfold garnerref27_Sorted.f
 repeat' first
   | (with_reducible exact ih0 _ _)
   | (with_reducible exact LeO.refl _)
   | (with_reducible exact LeO.none _)
   | (with_reducible refine LeO.ite ?_ ?_)
   | (with_reducible refine LeO.bind ?_ (fun _ => ?_))
   | exact ih0 _ _
   | exact LeO.none _
   | refine LeO.ite ?_ ?_
   | refine LeO.bind ?_ (fun _ => ?_)
set_option maxHeartbeats 8000000 in
set_option maxRecDepth 100000 in
theorem garnerref27_Sorted.calls (k : Nat) (A0 : Option Addr) (c0 : Nat) (l0 : List (S135)) (r : Bool) (w : World) (hr0 : Kd.C k135 w A0 l0.length l0) (hc0 : l0.length ≤ c0) (h : garnerref27_Sorted.f k l0 = some r) :
  Calls Try.prog 24 #[.slice A0 l0.length c0] w fun e w' => e = .returned (.bool r) ∧ Drawn0 w w' := by
 have HR0 := Aside0.mk hr0
 have HC0 := Aside0.mk hc0
 clear hr0 hc0
 have H : (garnerref27_Sorted.l0 k l0 0) = some r := h
 clear h
 have H' := Aside0.mk H
 clear H
 go_enter Try.func24, Try.ntmps24
 go_wp2
 repeat (go_quiet (fail); try go_wp2)
 go_loopg [3] k (fun kq v3 w' => ∃ (x3_1 : Int), v3 = .int .i64 x3_1 ∧ Aside0 (garnerref27_Sorted.l0 kq l0 x3_1 = some r) ∧ Aside0 (kq ≤ k) ∧ Drawn0 w w')
 case atStart => exact ⟨(0), (by first | rfl | (simp; done) | (simp [*]; done)), H', ⟨Nat.le_refl _⟩, by repeat (first | exact Drawn0.refl _ | apply Drawn0.step)⟩
 case round =>
  clear H'
  obtain ⟨x3_1, rfl, HA, HK1, ⟨m1, rfl⟩⟩ := hrel
  cases gk with
  | zero => exact absurd HA.out (by simp [garnerref27_Sorted.l0])
  | succ k1 =>
   have H := HA.out
   clear HA
   simp only [garnerref27_Sorted.l0] at H
   by_cases c2 : x3_1 < (l0.length : Int)
   ·rw [if_pos c2] at H
    have c2b0 : decide (x3_1 < (l0.length : Int)) = true := decide_eq_true c2
    clear c2
    by_cases c3 : 0 ≤ x3_1
    ·rw [if_pos c3] at H
     have c3b0 : decide (0 ≤ x3_1) = true := decide_eq_true c3
     clear c3
     by_cases c4 : ((rd_T135 l0 x3_1).f0).toList = ([] : List UInt8)
     ·rw [if_pos c4] at H
      have c4b0 : (((rd_T135 l0 x3_1).f0).toList == ([] : List UInt8)) = true := beq_iff_eq.mpr c4
      have c4b1 : (((rd_T135 l0 x3_1).f0).toList != ([] : List UInt8)) = false := bne_eq_false_iff_eq.mpr c4
      clear c4
      obtain rfl := Option.some.inj H
      have p418 : 0 ≤ (x3_1 : Int) := of_decide_eq_true pS
      have q418 : x3_1 < (l0.length : Int) := of_decide_eq_true pS
      obtain ⟨ad418, A418_1, c418_1, e418, hx418_0, hx418_1, hl418_1, hi418_1⟩ := at_T135 HR0.out x3_1 p418 q418
      cases e418
      have HR418_1 := Aside0.mk hi418_1
      have HC418_1 := Aside0.mk hl418_1
      clear hi418_1 hl418_1
      replace p418 := eq_true p418
      replace q418 := eq_true q418
      go_wp2
      repeat (go_quiet (fail); try go_wp2)
      go_ret
      exact ⟨by first | rfl | (simp; done) | (simp [*]; done), by repeat (first | exact Drawn0.refl _ | apply Drawn0.step)⟩
     ·rw [if_neg c4] at H
      have c4b0 : (((rd_T135 l0 x3_1).f0).toList == ([] : List UInt8)) = false := beq_eq_false_iff_ne.mpr c4
      have c4b1 : (((rd_T135 l0 x3_1).f0).toList != ([] : List UInt8)) = true := bne_iff_ne.mpr c4
      by_cases c5 : (((rd_T135 l0 x3_1).f0).size : Int) > 64
      ·rw [if_pos c5] at H
       have c5b0 : decide (64 < (((rd_T135 l0 x3_1).f0).size : Int)) = true := decide_eq_true c5
       have c5b1 : decide (64 < ((rd_T135 l0 x3_1).f0).size) = true := decide_eq_true (by omega)
       clear c5
       obtain rfl := Option.some.inj H
       have p418 : 0 ≤ (x3_1 : Int) := of_decide_eq_true pS
       have q418 : x3_1 < (l0.length : Int) := of_decide_eq_true pS
       obtain ⟨ad418, A418_1, c418_1, e418, hx418_0, hx418_1, hl418_1, hi418_1⟩ := at_T135 HR0.out x3_1 p418 q418
       cases e418
       have HR418_1 := Aside0.mk hi418_1
       have HC418_1 := Aside0.mk hl418_1
       clear hi418_1 hl418_1
       replace p418 := eq_true p418
       replace q418 := eq_true q418
       have p419 : 0 ≤ (x3_1 : Int) := of_decide_eq_true pS
       have q419 : x3_1 < (l0.length : Int) := of_decide_eq_true pS
       obtain ⟨ad419, A419_1, c419_1, e419, hx419_0, hx419_1, hl419_1, hi419_1⟩ := at_T135 HR0.out x3_1 p419 q419
       obtain rfl : ad418 = ad419 := (by injection e419)
       have HR419_1 := Aside0.mk hi419_1
       have HC419_1 := Aside0.mk hl419_1
       clear hi419_1 hl419_1
       replace p419 := eq_true p419
       replace q419 := eq_true q419
       have ea_ := Option.some.inj (hx418_1.symm.trans hx419_1)
       injection ea_ with ea_ en_ ec_
       subst ea_
       subst ec_
       clear en_
       go_wp2
       repeat (go_quiet (fail); try go_wp2)
       go_ret
       exact ⟨by first | rfl | (simp; done) | (simp [*]; done), by repeat (first | exact Drawn0.refl _ | apply Drawn0.step)⟩
      ·rw [if_neg c5] at H
       have c5b0 : decide (64 < (((rd_T135 l0 x3_1).f0).size : Int)) = false := decide_eq_false c5
       have c5b1 : decide (64 < ((rd_T135 l0 x3_1).f0).size) = false := decide_eq_false (by omega)
       clear c5
       by_cases c6 : (((rd_T135 l0 x3_1).f1).length : Int) > 4096
       ·rw [if_pos c6] at H
        have c6b0 : decide (4096 < (((rd_T135 l0 x3_1).f1).length : Int)) = true := decide_eq_true c6
        have c6b1 : decide (4096 < ((rd_T135 l0 x3_1).f1).length) = true := decide_eq_true (by omega)
        clear c6
        obtain rfl := Option.some.inj H
        have p418 : 0 ≤ (x3_1 : Int) := of_decide_eq_true pS
        have q418 : x3_1 < (l0.length : Int) := of_decide_eq_true pS
        obtain ⟨ad418, A418_1, c418_1, e418, hx418_0, hx418_1, hl418_1, hi418_1⟩ := at_T135 HR0.out x3_1 p418 q418
        cases e418
        have HR418_1 := Aside0.mk hi418_1
        have HC418_1 := Aside0.mk hl418_1
        clear hi418_1 hl418_1
        replace p418 := eq_true p418
        replace q418 := eq_true q418
        have p419 : 0 ≤ (x3_1 : Int) := of_decide_eq_true pS
        have q419 : x3_1 < (l0.length : Int) := of_decide_eq_true pS
        obtain ⟨ad419, A419_1, c419_1, e419, hx419_0, hx419_1, hl419_1, hi419_1⟩ := at_T135 HR0.out x3_1 p419 q419
        obtain rfl : ad418 = ad419 := (by injection e419)
        have HR419_1 := Aside0.mk hi419_1
        have HC419_1 := Aside0.mk hl419_1
        clear hi419_1 hl419_1
        replace p419 := eq_true p419
        replace q419 := eq_true q419
        have ea_ := Option.some.inj (hx418_1.symm.trans hx419_1)
        injection ea_ with ea_ en_ ec_
        subst ea_
        subst ec_
        clear en_
        have p420 : 0 ≤ (x3_1 : Int) := of_decide_eq_true pS
        have q420 : x3_1 < (l0.length : Int) := of_decide_eq_true pS
        obtain ⟨ad420, A420_1, c420_1, e420, hx420_0, hx420_1, hl420_1, hi420_1⟩ := at_T135 HR0.out x3_1 p420 q420
        obtain rfl : ad418 = ad420 := (by injection e420)
        have HR420_1 := Aside0.mk hi420_1
        have HC420_1 := Aside0.mk hl420_1
        clear hi420_1 hl420_1
        replace p420 := eq_true p420
        replace q420 := eq_true q420
        have ea_ := Option.some.inj (hx418_1.symm.trans hx420_1)
        injection ea_ with ea_ en_ ec_
        subst ea_
        subst ec_
        clear en_
        go_wp2
        repeat (go_quiet (fail); try go_wp2)
        go_ret
        exact ⟨by first | rfl | (simp; done) | (simp [*]; done), by repeat (first | exact Drawn0.refl _ | apply Drawn0.step)⟩
       ·rw [if_neg c6] at H
        have c6b0 : decide (4096 < (((rd_T135 l0 x3_1).f1).length : Int)) = false := decide_eq_false c6
        have c6b1 : decide (4096 < ((rd_T135 l0 x3_1).f1).length) = false := decide_eq_false (by omega)
        clear c6
        by_cases c7 : x3_1 > 0
        ·rw [if_pos c7] at H
         have c7b0 : decide (0 < x3_1) = true := decide_eq_true c7
         clear c7
         obtain ⟨ji8, hji8⟩ : ∃ j_ : Int, (wrap64 (x3_1 - 1)) = j_ := ⟨_, rfl⟩
         replace H : (if 0 ≤ (ji8) then (if (ji8) < (l0.length : Int) then (if ((Op.bytesLess (((rd_T135 l0 (ji8)).f0).toList) (((rd_T135 l0 x3_1).f0).toList)) = true) then (garnerref27_Sorted.l0 k1 l0 (wrap64 (x3_1 + 1))) else (some false)) else (none)) else (none)) = some r := by first | (rw [hji8] at H; exact H) | (simp only [hji8] at H ⊢; exact H)
         have hji8w : (IntKind.i64.wrap (x3_1 - 1)) = ji8 := (i64_w _).trans hji8
         by_cases c9 : 0 ≤ (ji8)
         ·rw [if_pos c9] at H
          have c9b0 : decide (0 ≤ (ji8)) = true := decide_eq_true c9
          clear c9
          by_cases c10 : (ji8) < (l0.length : Int)
          ·rw [if_pos c10] at H
           have c10b0 : decide ((ji8) < (l0.length : Int)) = true := decide_eq_true c10
           clear c10
           by_cases c11 : ((Op.bytesLess (((rd_T135 l0 (ji8)).f0).toList) (((rd_T135 l0 x3_1).f0).toList)) = true)
           ·rw [if_pos c11] at H
            have c11b0 : (Op.bytesLess (((rd_T135 l0 (ji8)).f0).toList) (((rd_T135 l0 x3_1).f0).toList)) = true := c11
            clear c11
            have H' := Aside0.mk H
            clear H
            have p418 : 0 ≤ (x3_1 : Int) := of_decide_eq_true pS
            have q418 : x3_1 < (l0.length : Int) := of_decide_eq_true pS
            obtain ⟨ad418, A418_1, c418_1, e418, hx418_0, hx418_1, hl418_1, hi418_1⟩ := at_T135 HR0.out x3_1 p418 q418
            cases e418
            have HR418_1 := Aside0.mk hi418_1
            have HC418_1 := Aside0.mk hl418_1
            clear hi418_1 hl418_1
            replace p418 := eq_true p418
            replace q418 := eq_true q418
            have p419 : 0 ≤ (x3_1 : Int) := of_decide_eq_true pS
            have q419 : x3_1 < (l0.length : Int) := of_decide_eq_true pS
            obtain ⟨ad419, A419_1, c419_1, e419, hx419_0, hx419_1, hl419_1, hi419_1⟩ := at_T135 HR0.out x3_1 p419 q419
            obtain rfl : ad418 = ad419 := (by injection e419)
            have HR419_1 := Aside0.mk hi419_1
            have HC419_1 := Aside0.mk hl419_1
            clear hi419_1 hl419_1
            replace p419 := eq_true p419
            replace q419 := eq_true q419
            have ea_ := Option.some.inj (hx418_1.symm.trans hx419_1)
            injection ea_ with ea_ en_ ec_
            subst ea_
            subst ec_
            clear en_
            have p420 : 0 ≤ (x3_1 : Int) := of_decide_eq_true pS
            have q420 : x3_1 < (l0.length : Int) := of_decide_eq_true pS
            obtain ⟨ad420, A420_1, c420_1, e420, hx420_0, hx420_1, hl420_1, hi420_1⟩ := at_T135 HR0.out x3_1 p420 q420
            obtain rfl : ad418 = ad420 := (by injection e420)
            have HR420_1 := Aside0.mk hi420_1
            have HC420_1 := Aside0.mk hl420_1
            clear hi420_1 hl420_1
            replace p420 := eq_true p420
            replace q420 := eq_true q420
            have ea_ := Option.some.inj (hx418_1.symm.trans hx420_1)
            injection ea_ with ea_ en_ ec_
            subst ea_
            subst ec_
            clear en_
            have p421 : 0 ≤ (x3_1 : Int) := of_decide_eq_true pS
            have q421 : x3_1 < (l0.length : Int) := of_decide_eq_true pS
            obtain ⟨ad421, A421_1, c421_1, e421, hx421_0, hx421_1, hl421_1, hi421_1⟩ := at_T135 HR0.out x3_1 p421 q421
            obtain rfl : ad418 = ad421 := (by injection e421)
            have HR421_1 := Aside0.mk hi421_1
            have HC421_1 := Aside0.mk hl421_1
            clear hi421_1 hl421_1
            replace p421 := eq_true p421
            replace q421 := eq_true q421
            have ea_ := Option.some.inj (hx418_1.symm.trans hx421_1)
            injection ea_ with ea_ en_ ec_
            subst ea_
            subst ec_
            clear en_
            have p422 : 0 ≤ ((ji8) : Int) := of_decide_eq_true pS
            have q422 : (ji8) < (l0.length : Int) := of_decide_eq_true pS
            obtain ⟨ad422, A422_1, c422_1, e422, hx422_0, hx422_1, hl422_1, hi422_1⟩ := at_T135 HR0.out (ji8) p422 q422
            obtain rfl : ad418 = ad422 := (by injection e422)
            have HR422_1 := Aside0.mk hi422_1
            have HC422_1 := Aside0.mk hl422_1
            clear hi422_1 hl422_1
            replace p422 := eq_true p422
            replace q422 := eq_true q422
            go_wp2
            repeat (go_quiet (fail); try go_wp2)
            go_roundg k1
            case measure => have := HK1.out; omega
            case rel => exact ⟨(wrap64 (x3_1 + 1)), (by first | rfl | (simp; done) | (simp [*]; done)), H', ⟨by have := HK1.out; omega⟩, by repeat (first | exact Drawn0.refl _ | apply Drawn0.step)⟩
           ·rw [if_neg c11] at H
            have c11b0 : (Op.bytesLess (((rd_T135 l0 (ji8)).f0).toList) (((rd_T135 l0 x3_1).f0).toList)) = false := by simpa using c11
            clear c11
            obtain rfl := Option.some.inj H
            have p418 : 0 ≤ (x3_1 : Int) := of_decide_eq_true pS
            have q418 : x3_1 < (l0.length : Int) := of_decide_eq_true pS
            obtain ⟨ad418, A418_1, c418_1, e418, hx418_0, hx418_1, hl418_1, hi418_1⟩ := at_T135 HR0.out x3_1 p418 q418
            cases e418
            have HR418_1 := Aside0.mk hi418_1
            have HC418_1 := Aside0.mk hl418_1
            clear hi418_1 hl418_1
            replace p418 := eq_true p418
            replace q418 := eq_true q418
            have p419 : 0 ≤ (x3_1 : Int) := of_decide_eq_true pS
            have q419 : x3_1 < (l0.length : Int) := of_decide_eq_true pS
            obtain ⟨ad419, A419_1, c419_1, e419, hx419_0, hx419_1, hl419_1, hi419_1⟩ := at_T135 HR0.out x3_1 p419 q419
            obtain rfl : ad418 = ad419 := (by injection e419)
            have HR419_1 := Aside0.mk hi419_1
            have HC419_1 := Aside0.mk hl419_1
            clear hi419_1 hl419_1
            replace p419 := eq_true p419
            replace q419 := eq_true q419
            have ea_ := Option.some.inj (hx418_1.symm.trans hx419_1)
            injection ea_ with ea_ en_ ec_
            subst ea_
            subst ec_
            clear en_
            have p420 : 0 ≤ (x3_1 : Int) := of_decide_eq_true pS
            have q420 : x3_1 < (l0.length : Int) := of_decide_eq_true pS
            obtain ⟨ad420, A420_1, c420_1, e420, hx420_0, hx420_1, hl420_1, hi420_1⟩ := at_T135 HR0.out x3_1 p420 q420
            obtain rfl : ad418 = ad420 := (by injection e420)
            have HR420_1 := Aside0.mk hi420_1
            have HC420_1 := Aside0.mk hl420_1
            clear hi420_1 hl420_1
            replace p420 := eq_true p420
            replace q420 := eq_true q420
            have ea_ := Option.some.inj (hx418_1.symm.trans hx420_1)
            injection ea_ with ea_ en_ ec_
            subst ea_
            subst ec_
            clear en_
            have p421 : 0 ≤ (x3_1 : Int) := of_decide_eq_true pS
            have q421 : x3_1 < (l0.length : Int) := of_decide_eq_true pS
            obtain ⟨ad421, A421_1, c421_1, e421, hx421_0, hx421_1, hl421_1, hi421_1⟩ := at_T135 HR0.out x3_1 p421 q421
            obtain rfl : ad418 = ad421 := (by injection e421)
            have HR421_1 := Aside0.mk hi421_1
            have HC421_1 := Aside0.mk hl421_1
            clear hi421_1 hl421_1
            replace p421 := eq_true p421
            replace q421 := eq_true q421
            have ea_ := Option.some.inj (hx418_1.symm.trans hx421_1)
            injection ea_ with ea_ en_ ec_
            subst ea_
            subst ec_
            clear en_
            have p422 : 0 ≤ ((ji8) : Int) := of_decide_eq_true pS
            have q422 : (ji8) < (l0.length : Int) := of_decide_eq_true pS
            obtain ⟨ad422, A422_1, c422_1, e422, hx422_0, hx422_1, hl422_1, hi422_1⟩ := at_T135 HR0.out (ji8) p422 q422
            obtain rfl : ad418 = ad422 := (by injection e422)
            have HR422_1 := Aside0.mk hi422_1
            have HC422_1 := Aside0.mk hl422_1
            clear hi422_1 hl422_1
            replace p422 := eq_true p422
            replace q422 := eq_true q422
            go_wp2
            repeat (go_quiet (fail); try go_wp2)
            go_ret
            exact ⟨by first | rfl | (simp; done) | (simp only [← hji8] <;> (first | rfl | simp)) | (simp [*]; done), by repeat (first | exact Drawn0.refl _ | apply Drawn0.step)⟩
          ·rw [if_neg c10] at H
           exact absurd H (by simp)
         ·rw [if_neg c9] at H
          exact absurd H (by simp)
        ·rw [if_neg c7] at H
         have c7b0 : decide (0 < x3_1) = false := decide_eq_false c7
         clear c7
         have H' := Aside0.mk H
         clear H
         have p418 : 0 ≤ (x3_1 : Int) := of_decide_eq_true pS
         have q418 : x3_1 < (l0.length : Int) := of_decide_eq_true pS
         obtain ⟨ad418, A418_1, c418_1, e418, hx418_0, hx418_1, hl418_1, hi418_1⟩ := at_T135 HR0.out x3_1 p418 q418
         cases e418
         have HR418_1 := Aside0.mk hi418_1
         have HC418_1 := Aside0.mk hl418_1
         clear hi418_1 hl418_1
         replace p418 := eq_true p418
         replace q418 := eq_true q418
         have p419 : 0 ≤ (x3_1 : Int) := of_decide_eq_true pS
         have q419 : x3_1 < (l0.length : Int) := of_decide_eq_true pS
         obtain ⟨ad419, A419_1, c419_1, e419, hx419_0, hx419_1, hl419_1, hi419_1⟩ := at_T135 HR0.out x3_1 p419 q419
         obtain rfl : ad418 = ad419 := (by injection e419)
         have HR419_1 := Aside0.mk hi419_1
         have HC419_1 := Aside0.mk hl419_1
         clear hi419_1 hl419_1
         replace p419 := eq_true p419
         replace q419 := eq_true q419
         have ea_ := Option.some.inj (hx418_1.symm.trans hx419_1)
         injection ea_ with ea_ en_ ec_
         subst ea_
         subst ec_
         clear en_
         have p420 : 0 ≤ (x3_1 : Int) := of_decide_eq_true pS
         have q420 : x3_1 < (l0.length : Int) := of_decide_eq_true pS
         obtain ⟨ad420, A420_1, c420_1, e420, hx420_0, hx420_1, hl420_1, hi420_1⟩ := at_T135 HR0.out x3_1 p420 q420
         obtain rfl : ad418 = ad420 := (by injection e420)
         have HR420_1 := Aside0.mk hi420_1
         have HC420_1 := Aside0.mk hl420_1
         clear hi420_1 hl420_1
         replace p420 := eq_true p420
         replace q420 := eq_true q420
         have ea_ := Option.some.inj (hx418_1.symm.trans hx420_1)
         injection ea_ with ea_ en_ ec_
         subst ea_
         subst ec_
         clear en_
         go_wp2
         repeat (go_quiet (fail); try go_wp2)
         go_roundg k1
         case measure => have := HK1.out; omega
         case rel => exact ⟨(wrap64 (x3_1 + 1)), (by first | rfl | (simp; done) | (simp [*]; done)), H', ⟨by have := HK1.out; omega⟩, by repeat (first | exact Drawn0.refl _ | apply Drawn0.step)⟩
    ·rw [if_neg c3] at H
     exact absurd H (by simp)
   ·rw [if_neg c2] at H
    have c2b0 : decide (x3_1 < (l0.length : Int)) = false := decide_eq_false c2
    clear c2
    obtain rfl := Option.some.inj H
    go_wp2
    repeat (go_quiet (fail); try go_wp2)
    go_ret
    exact ⟨by first | rfl | (simp; done) | (simp [*]; done), by repeat (first | exact Drawn0.refl _ | apply Drawn0.step)⟩

/-! ### garnerref27_May: function 20 -/
def garnerref27_May.f (k : Nat) (a0_0 : Int) (a0_1 : Int) (l0_2 : List (S135)) : Option (Bool) := if a0_0 ≥ 1 then (if a0_0 ≤ 2147483647 then (if a0_1 ≥ 1 then (if a0_1 ≤ 2147483647 then ((garnerref27_Sorted.f k l0_2).bind fun t424 => (some t424)) else (some false)) else (some false)) else (some false)) else (some false)
theorem garnerref27_May.mono : ∀ a0 a1 a2 k, LeO (garnerref27_May.f k a0 a1 a2) (garnerref27_May.f (k + 1) a0 a1 a2) := by
 intro a0 a1 a2 k
 unfold garnerref27_May.f
 repeat' first
   | (with_reducible exact garnerref27_Sorted.mono _ _)
   | (with_reducible exact LeO.refl _)
   | (with_reducible exact LeO.none _)
   | (with_reducible refine LeO.ite ?_ ?_)
   | (with_reducible refine LeO.bind ?_ (fun _ => ?_))
   | exact garnerref27_Sorted.mono _ _
   | exact LeO.none _
   | refine LeO.ite ?_ ?_
   | refine LeO.bind ?_ (fun _ => ?_)
set_option maxHeartbeats 8000000 in
set_option maxRecDepth 100000 in
theorem garnerref27_May.calls (k : Nat) (a0_0 : Int) (a0_1 : Int) (A0_2 : Option Addr) (c0_2 : Nat) (l0_2 : List (S135)) (r : Bool) (w : World) (hr0_2 : Kd.C k135 w A0_2 l0_2.length l0_2) (hc0_2 : l0_2.length ≤ c0_2) (h : garnerref27_May.f k a0_0 a0_1 l0_2 = some r) :
  Calls Try.prog 20 #[.agg #[.int .i64 a0_0, .int .i64 a0_1, .slice A0_2 l0_2.length c0_2]] w fun e w' => e = .returned (.bool r) ∧ Below w.heap.size w w' := by
 have hu29 := Try.underlying29
 have HR0_2 := Aside0.mk hr0_2
 have HC0_2 := Aside0.mk hc0_2
 clear hr0_2 hc0_2
 have HB := Aside0.mk (Below.refl w.heap.size w)
 have H : (if a0_0 ≥ 1 then (if a0_0 ≤ 2147483647 then (if a0_1 ≥ 1 then (if a0_1 ≤ 2147483647 then ((garnerref27_Sorted.f k l0_2).bind fun t424 => (some t424)) else (some false)) else (some false)) else (some false)) else (some false)) = some r := h
 clear h
 by_cases c2 : a0_0 ≥ 1
 ·rw [if_pos c2] at H
  have c2b0 : decide (1 ≤ a0_0) = true := decide_eq_true c2
  clear c2
  by_cases c3 : a0_0 ≤ 2147483647
  ·rw [if_pos c3] at H
   have c3b0 : decide (a0_0 ≤ 2147483647) = true := decide_eq_true c3
   clear c3
   by_cases c4 : a0_1 ≥ 1
   ·rw [if_pos c4] at H
    have c4b0 : decide (1 ≤ a0_1) = true := decide_eq_true c4
    clear c4
    by_cases c5 : a0_1 ≤ 2147483647
    ·rw [if_pos c5] at H
     have c5b0 : decide (a0_1 ≤ 2147483647) = true := decide_eq_true c5
     clear c5
     replace H := Option.bind_eq_some_iff.mp H
     obtain ⟨t424, A60, H⟩ := H
     replace H : (some t424) = some r := H
     have A6 := Aside0.mk A60
     clear A60
     obtain rfl := Option.some.inj H
     go_enter Try.func20, Try.ntmps20
     go_wp2_with (first | ((with_reducible refine gate_dst (N := 1) rfl ?_); refine box_event ?hg (N := 1) ?hd (cs := #[.int .i64 a0_0, .int .i64 a0_1, .slice A0_2 l0_2.length c0_2]) (t := 29) ?hr ?_; (case hd => rfl); (case hg => rfl); (case hr => first | (go_simp; done) | (go_simp; rfl)); intro gb423 hg w7 hbox hb; have n0_ := Aside0.mk (below_step (pB HB.out) hb); have n1_ := Aside0.mk (hbox); have n2_ := Aside0.mk ((by rw [hg]; exact (below_size (pB HB.out)) : w.heap.size ≤ gb423)); have n3_ := Aside0.mk ((by rw [hg]; exact (below_size (pB HB.out)) : w.heap.size ≤ gb423)); clear HB; have HB := n0_; have BK423 := n1_; have GW423 := n2_; have GE423 := n3_; clear n0_ n1_ n2_ n3_ hb hbox hg; have hcz8_0 : w7.cell? ⟨gb423, 0, none⟩ = some (.int .i64 a0_0) := (blk_cell BK423.out 0).trans rfl; have hcz8_1 : w7.cell? ⟨gb423, 1, none⟩ = some (.int .i64 a0_1) := (blk_cell BK423.out 1).trans rfl; have hcz8_2 : w7.cell? ⟨gb423, 2, none⟩ = some (.slice A0_2 l0_2.length c0_2) := (blk_cell BK423.out 2).trans rfl; have hfz8_0 := blk_frozen BK423.out 0; have hfz8_1 := blk_frozen BK423.out 1; have hfz8_2 := blk_frozen BK423.out 2) | (go_at_call 24; (with_reducible refine (garnerref27_Sorted.calls k _ _ l0_2 t424 _ ?side1 ?side2 A6.out).mono ?_); (case side1 => exact pC (Kd.C_below HR0_2.out HB.out)); (case side2 => exact HC0_2.out); rintro e w' ⟨rfl, ⟨nd, rfl⟩⟩))
     go_ret
     exact ⟨by first | rfl | (simp [errW_none, errW_some] <;> rfl) | (simp [*, errW_none, errW_some] <;> rfl), by repeat (first | (with_reducible first | exact HB.out | apply below_alloc | apply pw_below_drewN | apply below_drew1 | refine below_set ?_ GE423.out) | exact HB.out)⟩
    ·rw [if_neg c5] at H
     have c5b0 : decide (a0_1 ≤ 2147483647) = false := decide_eq_false c5
     clear c5
     obtain rfl := Option.some.inj H
     go_enter Try.func20, Try.ntmps20
     go_wp2_with (first | ((with_reducible refine gate_dst (N := 1) rfl ?_); refine box_event ?hg (N := 1) ?hd (cs := #[.int .i64 a0_0, .int .i64 a0_1, .slice A0_2 l0_2.length c0_2]) (t := 29) ?hr ?_; (case hd => rfl); (case hg => rfl); (case hr => first | (go_simp; done) | (go_simp; rfl)); intro gb423 hg w9 hbox hb; have n0_ := Aside0.mk (below_step (pB HB.out) hb); have n1_ := Aside0.mk (hbox); have n2_ := Aside0.mk ((by rw [hg]; exact (below_size (pB HB.out)) : w.heap.size ≤ gb423)); have n3_ := Aside0.mk ((by rw [hg]; exact (below_size (pB HB.out)) : w.heap.size ≤ gb423)); clear HB; have HB := n0_; have BK423 := n1_; have GW423 := n2_; have GE423 := n3_; clear n0_ n1_ n2_ n3_ hb hbox hg; have hcz10_0 : w9.cell? ⟨gb423, 0, none⟩ = some (.int .i64 a0_0) := (blk_cell BK423.out 0).trans rfl; have hcz10_1 : w9.cell? ⟨gb423, 1, none⟩ = some (.int .i64 a0_1) := (blk_cell BK423.out 1).trans rfl; have hcz10_2 : w9.cell? ⟨gb423, 2, none⟩ = some (.slice A0_2 l0_2.length c0_2) := (blk_cell BK423.out 2).trans rfl; have hfz10_0 := blk_frozen BK423.out 0; have hfz10_1 := blk_frozen BK423.out 1; have hfz10_2 := blk_frozen BK423.out 2))
     go_ret
     exact ⟨by first | rfl | (simp [errW_none, errW_some] <;> rfl) | (simp [*, errW_none, errW_some] <;> rfl), by repeat (first | (with_reducible first | exact HB.out | apply below_alloc | apply pw_below_drewN | apply below_drew1 | refine below_set ?_ GE423.out) | exact HB.out)⟩
   ·rw [if_neg c4] at H
    have c4b0 : decide (1 ≤ a0_1) = false := decide_eq_false c4
    clear c4
    obtain rfl := Option.some.inj H
    go_enter Try.func20, Try.ntmps20
    go_wp2_with (first | ((with_reducible refine gate_dst (N := 1) rfl ?_); refine box_event ?hg (N := 1) ?hd (cs := #[.int .i64 a0_0, .int .i64 a0_1, .slice A0_2 l0_2.length c0_2]) (t := 29) ?hr ?_; (case hd => rfl); (case hg => rfl); (case hr => first | (go_simp; done) | (go_simp; rfl)); intro gb423 hg w11 hbox hb; have n0_ := Aside0.mk (below_step (pB HB.out) hb); have n1_ := Aside0.mk (hbox); have n2_ := Aside0.mk ((by rw [hg]; exact (below_size (pB HB.out)) : w.heap.size ≤ gb423)); have n3_ := Aside0.mk ((by rw [hg]; exact (below_size (pB HB.out)) : w.heap.size ≤ gb423)); clear HB; have HB := n0_; have BK423 := n1_; have GW423 := n2_; have GE423 := n3_; clear n0_ n1_ n2_ n3_ hb hbox hg; have hcz12_0 : w11.cell? ⟨gb423, 0, none⟩ = some (.int .i64 a0_0) := (blk_cell BK423.out 0).trans rfl; have hcz12_1 : w11.cell? ⟨gb423, 1, none⟩ = some (.int .i64 a0_1) := (blk_cell BK423.out 1).trans rfl; have hcz12_2 : w11.cell? ⟨gb423, 2, none⟩ = some (.slice A0_2 l0_2.length c0_2) := (blk_cell BK423.out 2).trans rfl; have hfz12_0 := blk_frozen BK423.out 0; have hfz12_1 := blk_frozen BK423.out 1; have hfz12_2 := blk_frozen BK423.out 2))
    go_ret
    exact ⟨by first | rfl | (simp [errW_none, errW_some] <;> rfl) | (simp [*, errW_none, errW_some] <;> rfl), by repeat (first | (with_reducible first | exact HB.out | apply below_alloc | apply pw_below_drewN | apply below_drew1 | refine below_set ?_ GE423.out) | exact HB.out)⟩
  ·rw [if_neg c3] at H
   have c3b0 : decide (a0_0 ≤ 2147483647) = false := decide_eq_false c3
   clear c3
   obtain rfl := Option.some.inj H
   go_enter Try.func20, Try.ntmps20
   go_wp2_with (first | ((with_reducible refine gate_dst (N := 1) rfl ?_); refine box_event ?hg (N := 1) ?hd (cs := #[.int .i64 a0_0, .int .i64 a0_1, .slice A0_2 l0_2.length c0_2]) (t := 29) ?hr ?_; (case hd => rfl); (case hg => rfl); (case hr => first | (go_simp; done) | (go_simp; rfl)); intro gb423 hg w13 hbox hb; have n0_ := Aside0.mk (below_step (pB HB.out) hb); have n1_ := Aside0.mk (hbox); have n2_ := Aside0.mk ((by rw [hg]; exact (below_size (pB HB.out)) : w.heap.size ≤ gb423)); have n3_ := Aside0.mk ((by rw [hg]; exact (below_size (pB HB.out)) : w.heap.size ≤ gb423)); clear HB; have HB := n0_; have BK423 := n1_; have GW423 := n2_; have GE423 := n3_; clear n0_ n1_ n2_ n3_ hb hbox hg; have hcz14_0 : w13.cell? ⟨gb423, 0, none⟩ = some (.int .i64 a0_0) := (blk_cell BK423.out 0).trans rfl; have hcz14_1 : w13.cell? ⟨gb423, 1, none⟩ = some (.int .i64 a0_1) := (blk_cell BK423.out 1).trans rfl; have hcz14_2 : w13.cell? ⟨gb423, 2, none⟩ = some (.slice A0_2 l0_2.length c0_2) := (blk_cell BK423.out 2).trans rfl; have hfz14_0 := blk_frozen BK423.out 0; have hfz14_1 := blk_frozen BK423.out 1; have hfz14_2 := blk_frozen BK423.out 2))
   go_ret
   exact ⟨by first | rfl | (simp [errW_none, errW_some] <;> rfl) | (simp [*, errW_none, errW_some] <;> rfl), by repeat (first | (with_reducible first | exact HB.out | apply below_alloc | apply pw_below_drewN | apply below_drew1 | refine below_set ?_ GE423.out) | exact HB.out)⟩
 ·rw [if_neg c2] at H
  have c2b0 : decide (1 ≤ a0_0) = false := decide_eq_false c2
  clear c2
  obtain rfl := Option.some.inj H
  go_enter Try.func20, Try.ntmps20
  go_wp2_with (first | ((with_reducible refine gate_dst (N := 1) rfl ?_); refine box_event ?hg (N := 1) ?hd (cs := #[.int .i64 a0_0, .int .i64 a0_1, .slice A0_2 l0_2.length c0_2]) (t := 29) ?hr ?_; (case hd => rfl); (case hg => rfl); (case hr => first | (go_simp; done) | (go_simp; rfl)); intro gb423 hg w15 hbox hb; have n0_ := Aside0.mk (below_step (pB HB.out) hb); have n1_ := Aside0.mk (hbox); have n2_ := Aside0.mk ((by rw [hg]; exact (below_size (pB HB.out)) : w.heap.size ≤ gb423)); have n3_ := Aside0.mk ((by rw [hg]; exact (below_size (pB HB.out)) : w.heap.size ≤ gb423)); clear HB; have HB := n0_; have BK423 := n1_; have GW423 := n2_; have GE423 := n3_; clear n0_ n1_ n2_ n3_ hb hbox hg; have hcz16_0 : w15.cell? ⟨gb423, 0, none⟩ = some (.int .i64 a0_0) := (blk_cell BK423.out 0).trans rfl; have hcz16_1 : w15.cell? ⟨gb423, 1, none⟩ = some (.int .i64 a0_1) := (blk_cell BK423.out 1).trans rfl; have hcz16_2 : w15.cell? ⟨gb423, 2, none⟩ = some (.slice A0_2 l0_2.length c0_2) := (blk_cell BK423.out 2).trans rfl; have hfz16_0 := blk_frozen BK423.out 0; have hfz16_1 := blk_frozen BK423.out 1; have hfz16_2 := blk_frozen BK423.out 2))
  go_ret
  exact ⟨by first | rfl | (simp [errW_none, errW_some] <;> rfl) | (simp [*, errW_none, errW_some] <;> rfl), by repeat (first | (with_reducible first | exact HB.out | apply below_alloc | apply pw_below_drewN | apply below_drew1 | refine below_set ?_ GE423.out) | exact HB.out)⟩

end Go.Proofs.Ytapamplgajkjlaa.PExportOne
