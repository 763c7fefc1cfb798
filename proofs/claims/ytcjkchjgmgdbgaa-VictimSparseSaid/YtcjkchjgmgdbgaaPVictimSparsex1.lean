/- What the law reaches, as plain Lean functions, and that the machine's calls answer just that. -/
import Derived.Test.YtcjkchjgmgdbgaaPVictimSparsex0
namespace Go.Proofs.Ytcjkchjgmgdbgaa.PVictimSparse
open Go.RowKit Go.Proofs.YtcjkchjgmgdbgaaW.PrintWords Go.Proofs.YtcjkchjgmgdbgaaW.PrintLast Go.Proofs.YtcjkchjgmgdbgaaW.PrintMore
attribute [local go_sem] max2_int min2_int max_two min_two max_three min_three max_four min_four
set_option linter.unusedVariables false
set_option linter.unusedSimpArgs false
attribute [local go_sem] wrap64_l1 wrap64_l2 wrap64_l3 wrap64_l4 wrap64_l5
def garnerref09_May.l0 : Nat → List (S132) → Int → Option (Bool)
 | 0, _, _ => none
 | k + 1, x0, x3 => if x3 < (x0.length : Int) then (if 0 ≤ x3 then (if ((rd_T132 x0 x3).f0) < 1 then (some false) else (if ((rd_T132 x0 x3).f0) > 2147483647 then (some false) else (if ((rd_T132 x0 x3).f1) < 1 then (some false) else (if ((rd_T132 x0 x3).f1) > 1099511627776 then (some false) else (if x3 > 0 then (if 0 ≤ (wrap64 (x3 - 1)) then (if (wrap64 (x3 - 1)) < (x0.length : Int) then (if ((rd_T132 x0 x3).f0) ≤ ((rd_T132 x0 (wrap64 (x3 - 1))).f0) then (some false) else (garnerref09_May.l0 k x0 (wrap64 (x3 + 1)))) else (none)) else (none)) else (garnerref09_May.l0 k x0 (wrap64 (x3 + 1)))))))) else (none)) else (some (decide ((x0.length : Int) ≤ 4096)))
def garnerref09_May.f (k : Nat) (l0 : List (S132)) : Option (Bool) := garnerref09_May.l0 k l0 0
theorem garnerref09_May.mono_l : ∀ k, (∀ y0 y1, LeO (garnerref09_May.l0 k y0 y1) (garnerref09_May.l0 (k + 1) y0 y1))
 | 0 => fun _ _ r h => by simp [garnerref09_May.l0] at h
 | k + 1 => by
  have ih0 := garnerref09_May.mono_l k
  ·intro y0 y1
   unfold garnerref09_May.l0
   repeat' first
   | (with_reducible exact ih0 _ _)
   | (with_reducible exact LeO.refl _)
   | (with_reducible exact LeO.none _)
   | (with_reducible refine LeO.ite ?_ ?_)
   | (with_reducible refine LeO.bind ?_ (fun _ => ?_))
   | exact ih0 _ _
   | exact LeO.none _
   | refine LeO.ite ?_ ?_
   | refine LeO.bind ?_ (fun _ => ?_)
theorem garnerref09_May.mono : ∀ a0 k, LeO (garnerref09_May.f k a0) (garnerref09_May.f (k + 1) a0) := by
 intro a0 k
 have ih0 := garnerref09_May.mono_l k
 unfold garnerref09_May.f
 repeat' first
   | (with_reducible exact ih0 _ _)
   | (with_reducible exact LeO.refl _)
   | (with_reducible exact LeO.none _)
   | (with_reducible refine LeO.ite ?_ ?_)
   | (with_reducible refine LeO.bind ?_ (fun _ => ?_))
   | exact ih0 _ _
   | exact LeO.none _
   | refine LeO.ite ?_ ?_
   | refine LeO.bind ?_ (fun _ => ?_)
set_option maxHeartbeats 8000000 in
set_option maxRecDepth 100000 in
theorem garnerref09_May.calls (k : Nat) (A0 : Option Addr) (c0 : Nat) (l0 : List (S132)) (r : Bool) (w : World) (hr0 : Kd.C k132 w A0 l0.length l0) (hc0 : l0.length ≤ c0) (h : garnerref09_May.f k l0 = some r) :
  Calls Try.prog 40 #[.slice A0 l0.length c0] w fun e w' => e = .returned (.bool r) ∧ Drawn0 w w' := by
 have HR0 := Aside0.mk hr0
 have HC0 := Aside0.mk hc0
 clear hr0 hc0
 have H : (garnerref09_May.l0 k l0 0) = some r := h
 clear h
 have H' := Aside0.mk H
 clear H
 go_enter Try.func40, Try.ntmps40
 go_wp2
 repeat (go_quiet (fail); try go_wp2)
 go_loopg [3] k (fun kq v3 w' => ∃ (x3_1 : Int), v3 = .int .i64 x3_1 ∧ Aside0 (garnerref09_May.l0 kq l0 x3_1 = some r) ∧ Aside0 (kq ≤ k) ∧ Drawn0 w w')
 case atStart => exact ⟨(0), (by first | rfl | (simp; done) | (simp [*]; done)), H', ⟨Nat.le_refl _⟩, by repeat (first | exact Drawn0.refl _ | apply Drawn0.step)⟩
 case round =>
  clear H'
  obtain ⟨x3_1, rfl, HA, HK1, ⟨m1, rfl⟩⟩ := hrel
  cases gk with
  | zero => exact absurd HA.out (by simp [garnerref09_May.l0])
  | succ k1 =>
   have H := HA.out
   clear HA
   simp only [garnerref09_May.l0] at H
   by_cases c2 : x3_1 < (l0.length : Int)
   ·rw [if_pos c2] at H
    have c2b0 : decide (x3_1 < (l0.length : Int)) = true := decide_eq_true c2
    clear c2
    by_cases c3 : 0 ≤ x3_1
    ·rw [if_pos c3] at H
     have c3b0 : decide (0 ≤ x3_1) = true := decide_eq_true c3
     clear c3
     by_cases c4 : ((rd_T132 l0 x3_1).f0) < 1
     ·rw [if_pos c4] at H
      have c4b0 : decide (((rd_T132 l0 x3_1).f0) < 1) = true := decide_eq_true c4
      clear c4
      obtain rfl := Option.some.inj H
      have p101 : 0 ≤ (x3_1 : Int) := of_decide_eq_true pS
      have q101 : x3_1 < (l0.length : Int) := of_decide_eq_true pS
      obtain ⟨ad101, e101, hx101_0, hx101_1⟩ := at_T132 HR0.out x3_1 p101 q101
      cases e101
      replace p101 := eq_true p101
      replace q101 := eq_true q101
      go_wp2
      repeat (go_quiet (fail); try go_wp2)
      go_ret
      exact ⟨by first | rfl | (simp; done) | (simp [*]; done), by repeat (first | exact Drawn0.refl _ | apply Drawn0.step)⟩
     ·rw [if_neg c4] at H
      have c4b0 : decide (((rd_T132 l0 x3_1).f0) < 1) = false := decide_eq_false c4
      clear c4
      by_cases c5 : ((rd_T132 l0 x3_1).f0) > 2147483647
      ·rw [if_pos c5] at H
       have c5b0 : decide (2147483647 < ((rd_T132 l0 x3_1).f0)) = true := decide_eq_true c5
       clear c5
       obtain rfl := Option.some.inj H
       have p101 : 0 ≤ (x3_1 : Int) := of_decide_eq_true pS
       have q101 : x3_1 < (l0.length : Int) := of_decide_eq_true pS
       obtain ⟨ad101, e101, hx101_0, hx101_1⟩ := at_T132 HR0.out x3_1 p101 q101
       cases e101
       replace p101 := eq_true p101
       replace q101 := eq_true q101
       have p102 : 0 ≤ (x3_1 : Int) := of_decide_eq_true pS
       have q102 : x3_1 < (l0.length : Int) := of_decide_eq_true pS
       obtain ⟨ad102, e102, hx102_0, hx102_1⟩ := at_T132 HR0.out x3_1 p102 q102
       obtain rfl : ad101 = ad102 := (by injection e102)
       replace p102 := eq_true p102
       replace q102 := eq_true q102
       go_wp2
       repeat (go_quiet (fail); try go_wp2)
       go_ret
       exact ⟨by first | rfl | (simp; done) | (simp [*]; done), by repeat (first | exact Drawn0.refl _ | apply Drawn0.step)⟩
      ·rw [if_neg c5] at H
       have c5b0 : decide (2147483647 < ((rd_T132 l0 x3_1).f0)) = false := decide_eq_false c5
       clear c5
       by_cases c6 : ((rd_T132 l0 x3_1).f1) < 1
       ·rw [if_pos c6] at H
        have c6b0 : decide (((rd_T132 l0 x3_1).f1) < 1) = true := decide_eq_true c6
        clear c6
        obtain rfl := Option.some.inj H
        have p101 : 0 ≤ (x3_1 : Int) := of_decide_eq_true pS
        have q101 : x3_1 < (l0.length : Int) := of_decide_eq_true pS
        obtain ⟨ad101, e101, hx101_0, hx101_1⟩ := at_T132 HR0.out x3_1 p101 q101
        cases e101
        replace p101 := eq_true p101
        replace q101 := eq_true q101
        have p102 : 0 ≤ (x3_1 : Int) := of_decide_eq_true pS
        have q102 : x3_1 < (l0.length : Int) := of_decide_eq_true pS
        obtain ⟨ad102, e102, hx102_0, hx102_1⟩ := at_T132 HR0.out x3_1 p102 q102
        obtain rfl : ad101 = ad102 := (by injection e102)
        replace p102 := eq_true p102
        replace q102 := eq_true q102
        have p103 : 0 ≤ (x3_1 : Int) := of_decide_eq_true pS
        have q103 : x3_1 < (l0.length : Int) := of_decide_eq_true pS
        obtain ⟨ad103, e103, hx103_0, hx103_1⟩ := at_T132 HR0.out x3_1 p103 q103
        obtain rfl : ad101 = ad103 := (by injection e103)
        replace p103 := eq_true p103
        replace q103 := eq_true q103
        go_wp2
        repeat (go_quiet (fail); try go_wp2)
        go_ret
        exact ⟨by first | rfl | (simp; done) | (simp [*]; done), by repeat (first | exact Drawn0.refl _ | apply Drawn0.step)⟩
       ·rw [if_neg c6] at H
        have c6b0 : decide (((rd_T132 l0 x3_1).f1) < 1) = false := decide_eq_false c6
        clear c6
        by_cases c7 : ((rd_T132 l0 x3_1).f1) > 1099511627776
        ·rw [if_pos c7] at H
         have c7b0 : decide (1099511627776 < ((rd_T132 l0 x3_1).f1)) = true := decide_eq_true c7
         clear c7
         obtain rfl := Option.some.inj H
         have p101 : 0 ≤ (x3_1 : Int) := of_decide_eq_true pS
         have q101 : x3_1 < (l0.length : Int) := of_decide_eq_true pS
         obtain ⟨ad101, e101, hx101_0, hx101_1⟩ := at_T132 HR0.out x3_1 p101 q101
         cases e101
         replace p101 := eq_true p101
         replace q101 := eq_true q101
         have p102 : 0 ≤ (x3_1 : Int) := of_decide_eq_true pS
         have q102 : x3_1 < (l0.length : Int) := of_decide_eq_true pS
         obtain ⟨ad102, e102, hx102_0, hx102_1⟩ := at_T132 HR0.out x3_1 p102 q102
         obtain rfl : ad101 = ad102 := (by injection e102)
         replace p102 := eq_true p102
         replace q102 := eq_true q102
         have p103 : 0 ≤ (x3_1 : Int) := of_decide_eq_true pS
         have q103 : x3_1 < (l0.length : Int) := of_decide_eq_true pS
         obtain ⟨ad103, e103, hx103_0, hx103_1⟩ := at_T132 HR0.out x3_1 p103 q103
         obtain rfl : ad101 = ad103 := (by injection e103)
         replace p103 := eq_true p103
         replace q103 := eq_true q103
         have p104 : 0 ≤ (x3_1 : Int) := of_decide_eq_true pS
         have q104 : x3_1 < (l0.length : Int) := of_decide_eq_true pS
         obtain ⟨ad104, e104, hx104_0, hx104_1⟩ := at_T132 HR0.out x3_1 p104 q104
         obtain rfl : ad101 = ad104 := (by injection e104)
         replace p104 := eq_true p104
         replace q104 := eq_true q104
         go_wp2
         repeat (go_quiet (fail); try go_wp2)
         go_ret
         exact ⟨by first | rfl | (simp; done) | (simp [*]; done), by repeat (first | exact Drawn0.refl _ | apply Drawn0.step)⟩
        ·rw [if_neg c7] at H
         have c7b0 : decide (1099511627776 < ((rd_T132 l0 x3_1).f1)) = false := decide_eq_false c7
         clear c7
         by_cases c8 : x3_1 > 0
         ·rw [if_pos c8] at H
          have c8b0 : decide (0 < x3_1) = true := decide_eq_true c8
          clear c8
          obtain ⟨ji9, hji9⟩ : ∃ j_ : Int, (wrap64 (x3_1 - 1)) = j_ := ⟨_, rfl⟩
          replace H : (if 0 ≤ (ji9) then (if (ji9) < (l0.length : Int) then (if ((rd_T132 l0 x3_1).f0) ≤ ((rd_T132 l0 (ji9)).f0) then (some false) else (garnerref09_May.l0 k1 l0 (wrap64 (x3_1 + 1)))) else (none)) else (none)) = some r := by first | (rw [hji9] at H; exact H) | (simp only [hji9] at H ⊢; exact H)
          have hji9w : (IntKind.i64.wrap (x3_1 - 1)) = ji9 := (i64_w _).trans hji9
          by_cases c10 : 0 ≤ (ji9)
          ·rw [if_pos c10] at H
           have c10b0 : decide (0 ≤ (ji9)) = true := decide_eq_true c10
           clear c10
           by_cases c11 : (ji9) < (l0.length : Int)
           ·rw [if_pos c11] at H
            have c11b0 : decide ((ji9) < (l0.length : Int)) = true := decide_eq_true c11
            clear c11
            by_cases c12 : ((rd_T132 l0 x3_1).f0) ≤ ((rd_T132 l0 (ji9)).f0)
            ·rw [if_pos c12] at H
             have c12b0 : decide (((rd_T132 l0 x3_1).f0) ≤ ((rd_T132 l0 (ji9)).f0)) = true := decide_eq_true c12
             clear c12
             obtain rfl := Option.some.inj H
             have p101 : 0 ≤ (x3_1 : Int) := of_decide_eq_true pS
             have q101 : x3_1 < (l0.length : Int) := of_decide_eq_true pS
             obtain ⟨ad101, e101, hx101_0, hx101_1⟩ := at_T132 HR0.out x3_1 p101 q101
             cases e101
             replace p101 := eq_true p101
             replace q101 := eq_true q101
             have p102 : 0 ≤ (x3_1 : Int) := of_decide_eq_true pS
             have q102 : x3_1 < (l0.length : Int) := of_decide_eq_true pS
             obtain ⟨ad102, e102, hx102_0, hx102_1⟩ := at_T132 HR0.out x3_1 p102 q102
             obtain rfl : ad101 = ad102 := (by injection e102)
             replace p102 := eq_true p102
             replace q102 := eq_true q102
             have p103 : 0 ≤ (x3_1 : Int) := of_decide_eq_true pS
             have q103 : x3_1 < (l0.length : Int) := of_decide_eq_true pS
             obtain ⟨ad103, e103, hx103_0, hx103_1⟩ := at_T132 HR0.out x3_1 p103 q103
             obtain rfl : ad101 = ad103 := (by injection e103)
             replace p103 := eq_true p103
             replace q103 := eq_true q103
             have p104 : 0 ≤ (x3_1 : Int) := of_decide_eq_true pS
             have q104 : x3_1 < (l0.length : Int) := of_decide_eq_true pS
             obtain ⟨ad104, e104, hx104_0, hx104_1⟩ := at_T132 HR0.out x3_1 p104 q104
             obtain rfl : ad101 = ad104 := (by injection e104)
             replace p104 := eq_true p104
             replace q104 := eq_true q104
             have p105 : 0 ≤ (x3_1 : Int) := of_decide_eq_true pS
             have q105 : x3_1 < (l0.length : Int) := of_decide_eq_true pS
             obtain ⟨ad105, e105, hx105_0, hx105_1⟩ := at_T132 HR0.out x3_1 p105 q105
             obtain rfl : ad101 = ad105 := (by injection e105)
             replace p105 := eq_true p105
             replace q105 := eq_true q105
             have p106 : 0 ≤ ((ji9) : Int) := of_decide_eq_true pS
             have q106 : (ji9) < (l0.length : Int) := of_decide_eq_true pS
             obtain ⟨ad106, e106, hx106_0, hx106_1⟩ := at_T132 HR0.out (ji9) p106 q106
             obtain rfl : ad101 = ad106 := (by injection e106)
             replace p106 := eq_true p106
             replace q106 := eq_true q106
             go_wp2
             repeat (go_quiet (fail); try go_wp2)
             go_ret
             exact ⟨by first | rfl | (simp; done) | (simp only [← hji9] <;> (first | rfl | simp)) | (simp [*]; done), by repeat (first | exact Drawn0.refl _ | apply Drawn0.step)⟩
            ·rw [if_neg c12] at H
             have c12b0 : decide (((rd_T132 l0 x3_1).f0) ≤ ((rd_T132 l0 (ji9)).f0)) = false := decide_eq_false c12
             clear c12
             have H' := Aside0.mk H
             clear H
             have p101 : 0 ≤ (x3_1 : Int) := of_decide_eq_true pS
             have q101 : x3_1 < (l0.length : Int) := of_decide_eq_true pS
             obtain ⟨ad101, e101, hx101_0, hx101_1⟩ := at_T132 HR0.out x3_1 p101 q101
             cases e101
             replace p101 := eq_true p101
             replace q101 := eq_true q101
             have p102 : 0 ≤ (x3_1 : Int) := of_decide_eq_true pS
             have q102 : x3_1 < (l0.length : Int) := of_decide_eq_true pS
             obtain ⟨ad102, e102, hx102_0, hx102_1⟩ := at_T132 HR0.out x3_1 p102 q102
             obtain rfl : ad101 = ad102 := (by injection e102)
             replace p102 := eq_true p102
             replace q102 := eq_true q102
             have p103 : 0 ≤ (x3_1 : Int) := of_decide_eq_true pS
             have q103 : x3_1 < (l0.length : Int) := of_decide_eq_true pS
             obtain ⟨ad103, e103, hx103_0, hx103_1⟩ := at_T132 HR0.out x3_1 p103 q103
             obtain rfl : ad101 = ad103 := (by injection e103)
             replace p103 := eq_true p103
             replace q103 := eq_true q103
             have p104 : 0 ≤ (x3_1 : Int) := of_decide_eq_true pS
             have q104 : x3_1 < (l0.length : Int) := of_decide_eq_true pS
             obtain ⟨ad104, e104, hx104_0, hx104_1⟩ := at_T132 HR0.out x3_1 p104 q104
             obtain rfl : ad101 = ad104 := (by injection e104)
             replace p104 := eq_true p104
             replace q104 := eq_true q104
             have p105 : 0 ≤ (x3_1 : Int) := of_decide_eq_true pS
             have q105 : x3_1 < (l0.length : Int) := of_decide_eq_true pS
             obtain ⟨ad105, e105, hx105_0, hx105_1⟩ := at_T132 HR0.out x3_1 p105 q105
             obtain rfl : ad101 = ad105 := (by injection e105)
             replace p105 := eq_true p105
             replace q105 := eq_true q105
             have p106 : 0 ≤ ((ji9) : Int) := of_decide_eq_true pS
             have q106 : (ji9) < (l0.length : Int) := of_decide_eq_true pS
             obtain ⟨ad106, e106, hx106_0, hx106_1⟩ := at_T132 HR0.out (ji9) p106 q106
             obtain rfl : ad101 = ad106 := (by injection e106)
             replace p106 := eq_true p106
             replace q106 := eq_true q106
             go_wp2
             repeat (go_quiet (fail); try go_wp2)
             go_roundg k1
             case measure => have := HK1.out; omega
             case rel => exact ⟨(wrap64 (x3_1 + 1)), (by first | rfl | (simp; done) | (simp [*]; done)), H', ⟨by have := HK1.out; omega⟩, by repeat (first | exact Drawn0.refl _ | apply Drawn0.step)⟩
           ·rw [if_neg c11] at H
            exact absurd H (by simp)
          ·rw [if_neg c10] at H
           exact absurd H (by simp)
         ·rw [if_neg c8] at H
          have c8b0 : decide (0 < x3_1) = false := decide_eq_false c8
          clear c8
          have H' := Aside0.mk H
          clear H
          have p101 : 0 ≤ (x3_1 : Int) := of_decide_eq_true pS
          have q101 : x3_1 < (l0.length : Int) := of_decide_eq_true pS
          obtain ⟨ad101, e101, hx101_0, hx101_1⟩ := at_T132 HR0.out x3_1 p101 q101
          cases e101
          replace p101 := eq_true p101
          replace q101 := eq_true q101
          have p102 : 0 ≤ (x3_1 : Int) := of_decide_eq_true pS
          have q102 : x3_1 < (l0.length : Int) := of_decide_eq_true pS
          obtain ⟨ad102, e102, hx102_0, hx102_1⟩ := at_T132 HR0.out x3_1 p102 q102
          obtain rfl : ad101 = ad102 := (by injection e102)
          replace p102 := eq_true p102
          replace q102 := eq_true q102
          have p103 : 0 ≤ (x3_1 : Int) := of_decide_eq_true pS
          have q103 : x3_1 < (l0.length : Int) := of_decide_eq_true pS
          obtain ⟨ad103, e103, hx103_0, hx103_1⟩ := at_T132 HR0.out x3_1 p103 q103
          obtain rfl : ad101 = ad103 := (by injection e103)
          replace p103 := eq_true p103
          replace q103 := eq_true q103
          have p104 : 0 ≤ (x3_1 : Int) := of_decide_eq_true pS
          have q104 : x3_1 < (l0.length : Int) := of_decide_eq_true pS
          obtain ⟨ad104, e104, hx104_0, hx104_1⟩ := at_T132 HR0.out x3_1 p104 q104
          obtain rfl : ad101 = ad104 := (by injection e104)
          replace p104 := eq_true p104
          replace q104 := eq_true q104
          go_wp2
          repeat (go_quiet (fail); try go_wp2)
          go_roundg k1
          case measure => have := HK1.out; omega
          case rel => exact ⟨(wrap64 (x3_1 + 1)), (by first | rfl | (simp; done) | (simp [*]; done)), H', ⟨by have := HK1.out; omega⟩, by repeat (first | exact Drawn0.refl _ | apply Drawn0.step)⟩
    ·rw [if_neg c3] at H
     exact absurd H (by simp)
   ·rw [if_neg c2] at H
    have c2b0 : decide (x3_1 < (l0.length : Int)) = false := decide_eq_false c2
    clear c2
    obtain rfl := Option.some.inj H
    go_wp2
    repeat (go_quiet (fail); try go_wp2)
    go_ret
    exact ⟨by first | rfl | (simp; done) | (simp [*]; done), by repeat (first | exact Drawn0.refl _ | apply Drawn0.step)⟩
mutual
def garnerref29_May.j0 : Nat → List Int → List Int → Bool → Option (Bool)
 | 0, _, _, _ => none
 | k + 1, x0, x1, x32 => if x32 = true then (some false) else (garnerref29_May.l0 k x0 x1 0)
def garnerref29_May.l0 : Nat → List Int → List Int → Int → Option (Bool)
 | 0, _, _, _ => none
 | k + 1, x0, x1, x9 => if x9 < (x0.length : Int) then (if 0 ≤ x9 then (if (rd x0 x9) < 1 then (some false) else (if (rd x0 x9) > 2147483647 then (some false) else (if x9 < (x1.length : Int) then (if (rd x1 x9) < 0 then (some false) else (if (rd x1 x9) > 4194304 then (some false) else (if x9 > 0 then (if 0 ≤ (wrap64 (x9 - 1)) then (if (wrap64 (x9 - 1)) < (x0.length : Int) then (if (rd x0 x9) ≤ (rd x0 (wrap64 (x9 - 1))) then (some false) else (garnerref29_May.l0 k x0 x1 (wrap64 (x9 + 1)))) else (none)) else (none)) else (garnerref29_May.l0 k x0 x1 (wrap64 (x9 + 1)))))) else (none)))) else (none)) else (some true)
end
def garnerref29_May.f (k : Nat) (l0 : List Int) (l1 : List Int) (l2 : List (S132)) (a3 : Int) : Option (Bool) := if (l0.length : Int) = (l1.length : Int) then (if (l0.length : Int) > 64 then (garnerref29_May.j0 k l0 l1 true) else (if a3 < 1 then (garnerref29_May.j0 k l0 l1 true) else (if a3 > 100 then (garnerref29_May.j0 k l0 l1 true) else ((garnerref09_May.f k l2).bind fun t107 => (garnerref29_May.j0 k l0 l1 (!t107)))))) else (garnerref29_May.j0 k l0 l1 true)
theorem garnerref29_May.mono_l : ∀ k, (∀ y0 y1 y2, LeO (garnerref29_May.j0 k y0 y1 y2) (garnerref29_May.j0 (k + 1) y0 y1 y2)) ∧ (∀ y0 y1 y2, LeO (garnerref29_May.l0 k y0 y1 y2) (garnerref29_May.l0 (k + 1) y0 y1 y2))
 | 0 => ⟨fun _ _ _ r h => by simp [garnerref29_May.j0] at h, fun _ _ _ r h => by simp [garnerref29_May.l0] at h⟩
 | k + 1 => by
  obtain ⟨ih0, ih1⟩ := garnerref29_May.mono_l k
  refine ⟨?_, ?_⟩
  ·intro y0 y1 y2
   unfold garnerref29_May.j0
   repeat' first
   | (with_reducible exact ih0 _ _ _)
   | (with_reducible exact ih1 _ _ _)
   | (with_reducible exact garnerref09_May.mono _ _)
   | (with_reducible exact LeO.refl _)
   | (with_reducible exact LeO.none _)
   | (with_reducible refine LeO.ite ?_ ?_)
   | (with_reducible refine LeO.bind ?_ (fun _ => ?_))
   | exact ih0 _ _ _
   | exact ih1 _ _ _
   | exact garnerref09_May.mono _ _
   | exact LeO.none _
   | refine LeO.ite ?_ ?_
   | refine LeO.bind ?_ (fun _ => ?_)
  ·intro y0 y1 y2
   unfold garnerref29_May.l0
   repeat' first
   | (with_reducible exact ih0 _ _ _)
   | (with_reducible exact ih1 _ _ _)
   | (with_reducible exact garnerref09_May.mono _ _)
   | (with_reducible exact LeO.refl _)
   | (with_reducible exact LeO.none _)
   | (with_reducible refine LeO.ite ?_ ?_)
   | (with_reducible refine LeO.bind ?_ (fun _ => ?_))
   | exact ih0 _ _ _
   | exact ih1 _ _ _
   | exact garnerref09_May.mono _ _
   | exact LeO.none _
   | refine LeO.ite ?_ ?_
   | refine LeO.bind ?_ (fun _ => ?_)
theorem garnerref29_May.mono : ∀ a0 a1 a2 a3 k, LeO (garnerref29_May.f k a0 a1 a2 a3) (garnerref29_May.f (k + 1) a0 a1 a2 a3) := by
 intro a0 a1 a2 a3 k
 obtain ⟨ih0, ih1⟩ := garnerref29_May.mono_l k
 unfold garnerref29_May.f
 repeat' first
   | (with_reducible exact ih0 _ _ _)
   | (with_reducible exact ih1 _ _ _)
   | (with_reducible exact garnerref09_May.mono _ _)
   | (with_reducible exact LeO.refl _)
   | (with_reducible exact LeO.none _)
   | (with_reducible refine LeO.ite ?_ ?_)
   | (with_reducible refine LeO.bind ?_ (fun _ => ?_))
   | exact ih0 _ _ _
   | exact ih1 _ _ _
   | exact garnerref09_May.mono _ _
   | exact LeO.none _
   | refine LeO.ite ?_ ?_
   | refine LeO.bind ?_ (fun _ => ?_)
set_option maxHeartbeats 8000000 in
set_option maxRecDepth 100000 in
theorem garnerref29_May.calls (k : Nat) (A0 : Option Addr) (c0 : Nat) (l0 : List Int) (A1 : Option Addr) (c1 : Nat) (l1 : List Int) (A2 : Option Addr) (c2 : Nat) (l2 : List (S132)) (a3 : Int) (r : Bool) (w : World) (hr0 : Kd.C (Kd.int .i64) w A0 l0.length l0) (hc0 : l0.length ≤ c0) (hr1 : Kd.C (Kd.int .i64) w A1 l1.length l1) (hc1 : l1.length ≤ c1) (hr2 : Kd.C k132 w A2 l2.length l2) (hc2 : l2.length ≤ c2) (h : garnerref29_May.f k l0 l1 l2 a3 = some r) :
  Calls Try.prog 32 #[.slice A0 l0.length c0, .slice A1 l1.length c1, .slice A2 l2.length c2, .int .i64 a3] w fun e w' => e = .returned (.bool r) ∧ Drawn0 w w' := by
 have HR0 := Aside0.mk hr0
 have HC0 := Aside0.mk hc0
 clear hr0 hc0
 have HR1 := Aside0.mk hr1
 have HC1 := Aside0.mk hc1
 clear hr1 hc1
 have HR2 := Aside0.mk hr2
 have HC2 := Aside0.mk hc2
 clear hr2 hc2
 have H : (if (l0.length : Int) = (l1.length : Int) then (if (l0.length : Int) > 64 then (garnerref29_May.j0 k l0 l1 true) else (if a3 < 1 then (garnerref29_May.j0 k l0 l1 true) else (if a3 > 100 then (garnerref29_May.j0 k l0 l1 true) else ((garnerref09_May.f k l2).bind fun t107 => (garnerref29_May.j0 k l0 l1 (!t107)))))) else (garnerref29_May.j0 k l0 l1 true)) = some r := h
 clear h
 have HC5 := Aside0.mk H
 clear H
 go_enter Try.func32, Try.ntmps32
 go_upto_region 1 with (fail)
 repeat (go_quiet (fail); go_upto_region 1 with (fail))
 go_cut [32] (fun v32 wc => ∃ (kq : Nat) (x32_4 : Bool), v32 = .bool x32_4 ∧ Aside0 (garnerref29_May.j0 kq l0 l1 x32_4 = some r) ∧ Aside0 (kq ≤ k) ∧ Drawn0 w wc)
 case first =>
  have H := HC5.out
  clear HC5
  by_cases c6 : (l0.length : Int) = (l1.length : Int)
  ·rw [if_pos c6] at H
   have c6b0 : ((l0.length : Int) == (l1.length : Int)) = true := beq_iff_eq.mpr c6
   have c6b1 : ((l0.length : Int) != (l1.length : Int)) = false := bne_eq_false_iff_eq.mpr c6
   have c6b2 : (l0.length == l1.length) = true := by first | simpa using c6 | (simp at c6 ⊢; omega)
   clear c6
   (first | rw [c6b0] | (simp only [i64_w, i32_w]; rw [c6b0]) | skip)
   by_cases c7 : (l0.length : Int) > 64
   ·rw [if_pos c7] at H
    have c7b0 : decide (64 < (l0.length : Int)) = true := decide_eq_true c7
    have c7b1 : decide (64 < l0.length) = true := decide_eq_true (by omega)
    clear c7
    have H' := Aside0.mk H
    clear H
    go_wp2
    repeat (go_quiet (fail); try go_wp2)
    go_meet
    case rel => exact ⟨_, (true), (by first | rfl | (simp; done) | (simp [*]; done)), H', ⟨by first | omega | exact Nat.le_refl _⟩, by repeat (first | exact Drawn0.refl _ | apply Drawn0.step)⟩
   ·rw [if_neg c7] at H
    have c7b0 : decide (64 < (l0.length : Int)) = false := decide_eq_false c7
    have c7b1 : decide (64 < l0.length) = false := decide_eq_false (by omega)
    clear c7
    by_cases c8 : a3 < 1
    ·rw [if_pos c8] at H
     have c8b0 : decide (a3 < 1) = true := decide_eq_true c8
     clear c8
     have H' := Aside0.mk H
     clear H
     go_wp2
     repeat (go_quiet (fail); try go_wp2)
     go_meet
     case rel => exact ⟨_, (true), (by first | rfl | (simp; done) | (simp [*]; done)), H', ⟨by first | omega | exact Nat.le_refl _⟩, by repeat (first | exact Drawn0.refl _ | apply Drawn0.step)⟩
    ·rw [if_neg c8] at H
     have c8b0 : decide (a3 < 1) = false := decide_eq_false c8
     clear c8
     by_cases c9 : a3 > 100
     ·rw [if_pos c9] at H
      have c9b0 : decide (100 < a3) = true := decide_eq_true c9
      clear c9
      have H' := Aside0.mk H
      clear H
      go_wp2
      repeat (go_quiet (fail); try go_wp2)
      go_meet
      case rel => exact ⟨_, (true), (by first | rfl | (simp; done) | (simp [*]; done)), H', ⟨by first | omega | exact Nat.le_refl _⟩, by repeat (first | exact Drawn0.refl _ | apply Drawn0.step)⟩
     ·rw [if_neg c9] at H
      have c9b0 : decide (100 < a3) = false := decide_eq_false c9
      clear c9
      replace H := Option.bind_eq_some_iff.mp H
      obtain ⟨t107, A100, H⟩ := H
      replace H : (garnerref29_May.j0 k l0 l1 (!t107)) = some r := H
      have A10 := Aside0.mk A100
      clear A100
      have H' := Aside0.mk H
      clear H
      go_wp2_with (first | (go_at_call 40; (with_reducible refine (garnerref09_May.calls k _ _ l2 t107 _ ?side1 ?side2 A10.out).mono ?_); (case side1 => repeat (first | exact HR2.out | (with_reducible refine Kd.C_alloc ?_ _) | (with_reducible refine Kd.C_drewN ?_ _) | (with_reducible refine Kd.C_drew ?_))); (case side2 => exact HC2.out); rintro e w' ⟨rfl, ⟨nd, rfl⟩⟩; (try first | exact ⟨rfl, _, World.drewN_drewN _ _ _⟩ | exact ⟨rfl, _, Eq.trans (World.drewN_drewN _ _ _) (congrArg (World.drewN _) (Nat.add_assoc _ _ _))⟩)))
      repeat (go_quiet (first | (go_at_call 40; (with_reducible refine (garnerref09_May.calls k _ _ l2 t107 _ ?side1 ?side2 A10.out).mono ?_); (case side1 => repeat (first | exact HR2.out | (with_reducible refine Kd.C_alloc ?_ _) | (with_reducible refine Kd.C_drewN ?_ _) | (with_reducible refine Kd.C_drew ?_))); (case side2 => exact HC2.out); rintro e w' ⟨rfl, ⟨nd, rfl⟩⟩; (try first | exact ⟨rfl, _, World.drewN_drewN _ _ _⟩ | exact ⟨rfl, _, Eq.trans (World.drewN_drewN _ _ _) (congrArg (World.drewN _) (Nat.add_assoc _ _ _))⟩))); try go_wp2_with (first | (go_at_call 40; (with_reducible refine (garnerref09_May.calls k _ _ l2 t107 _ ?side1 ?side2 A10.out).mono ?_); (case side1 => repeat (first | exact HR2.out | (with_reducible refine Kd.C_alloc ?_ _) | (with_reducible refine Kd.C_drewN ?_ _) | (with_reducible refine Kd.C_drew ?_))); (case side2 => exact HC2.out); rintro e w' ⟨rfl, ⟨nd, rfl⟩⟩; (try first | exact ⟨rfl, _, World.drewN_drewN _ _ _⟩ | exact ⟨rfl, _, Eq.trans (World.drewN_drewN _ _ _) (congrArg (World.drewN _) (Nat.add_assoc _ _ _))⟩))))
      go_meet
      case rel => exact ⟨_, (!t107), (by first | rfl | (simp; done) | (simp [*]; done)), H', ⟨by first | omega | exact Nat.le_refl _⟩, by repeat (first | exact Drawn0.refl _ | apply Drawn0.step)⟩
  ·rw [if_neg c6] at H
   have c6b0 : ((l0.length : Int) == (l1.length : Int)) = false := beq_eq_false_iff_ne.mpr c6
   have c6b1 : ((l0.length : Int) != (l1.length : Int)) = true := bne_iff_ne.mpr c6
   have c6b2 : (l0.length == l1.length) = false := by first | simpa using c6 | (simp at c6 ⊢; omega)
   (first | rw [c6b0] | (simp only [i64_w, i32_w]; rw [c6b0]) | skip)
   have H' := Aside0.mk H
   clear H
   go_wp2
   repeat (go_quiet (fail); try go_wp2)
   go_meet
   case rel => exact ⟨_, (true), (by first | rfl | (simp; done) | (simp [*]; done)), H', ⟨by first | omega | exact Nat.le_refl _⟩, by repeat (first | exact Drawn0.refl _ | apply Drawn0.step)⟩
 case rest =>
  clear HC5
  try clear c1
  try clear c2
  try clear p2
  try clear c3
  try clear c6
  try clear c6b0
  try clear c6b1
  try clear c6b2
  try clear c7
  try clear c7b0
  try clear c7b1
  try clear c8
  try clear c8b0
  try clear c9
  try clear c9b0
  obtain ⟨kq, x32_4, rfl, HA, HJ4, ⟨mc4, rfl⟩⟩ := hcut
  cases kq with
  | zero => exact absurd HA.out (by simp [garnerref29_May.j0])
  | succ kj4 =>
   have H := HA.out
   clear HA
   simp only [garnerref29_May.j0] at H
   by_cases c11 : x32_4 = true
   ·subst c11
    have H1 : (some false) = some r := by rw [if_pos rfl] at H; exact H
    clear H
    have H := H1
    clear H1
    obtain rfl := Option.some.inj H
    go_wp2
    repeat (go_quiet (fail); try go_wp2)
    go_ret
    exact ⟨by first | rfl | (simp; done) | (simp [*]; done), by repeat (first | exact Drawn0.refl _ | apply Drawn0.step)⟩
   ·replace c11 := Bool.eq_false_iff.mpr c11
    subst c11
    have H1 : (garnerref29_May.l0 kj4 l0 l1 0) = some r := by rw [if_neg (show ¬ (false = true) by decide)] at H; exact H
    clear H
    have H := H1
    clear H1
    have H' := Aside0.mk H
    clear H
    go_wp2
    repeat (go_quiet (fail); try go_wp2)
    go_loopg [9] kj4 (fun kq v9 w' => ∃ (x9_2 : Int), v9 = .int .i64 x9_2 ∧ Aside0 (garnerref29_May.l0 kq l0 l1 x9_2 = some r) ∧ Aside0 (kq ≤ kj4) ∧ Drawn0 w w')
    case atStart => exact ⟨(0), (by first | rfl | (simp; done) | (simp [*]; done)), H', ⟨Nat.le_refl _⟩, by repeat (first | exact Drawn0.refl _ | apply Drawn0.step)⟩
    case round =>
     clear H'
     try clear c1
     try clear c2
     try clear p2
     try clear c3
     try clear c4
     try clear c6
     try clear c6b0
     try clear c6b1
     try clear c6b2
     try clear c7
     try clear c7b0
     try clear c7b1
     try clear c8
     try clear c8b0
     try clear c9
     try clear c9b0
     try clear c11
     try clear p2
     obtain ⟨x9_2, rfl, HA, HK2, ⟨m2, rfl⟩⟩ := hrel
     cases gk with
     | zero => exact absurd HA.out (by simp [garnerref29_May.l0])
     | succ k2 =>
      have H := HA.out
      clear HA
      simp only [garnerref29_May.l0] at H
      by_cases c12 : x9_2 < (l0.length : Int)
      ·rw [if_pos c12] at H
       have c12b0 : decide (x9_2 < (l0.length : Int)) = true := decide_eq_true c12
       clear c12
       by_cases c13 : 0 ≤ x9_2
       ·rw [if_pos c13] at H
        have c13b0 : decide (0 ≤ x9_2) = true := decide_eq_true c13
        clear c13
        by_cases c14 : (rd l0 x9_2) < 1
        ·rw [if_pos c14] at H
         have c14b0 : decide ((rd l0 x9_2) < 1) = true := decide_eq_true c14
         clear c14
         obtain rfl := Option.some.inj H
         have p108 : 0 ≤ (x9_2 : Int) := of_decide_eq_true pS
         have q108 : x9_2 < (l0.length : Int) := of_decide_eq_true pS
         obtain ⟨ad108, e108, hx108_0⟩ := Kd.at_int HR0.out x9_2 p108 q108
         cases e108
         replace p108 := eq_true p108
         replace q108 := eq_true q108
         go_wp2
         repeat (go_quiet (fail); try go_wp2)
         go_ret
         exact ⟨by first | rfl | (simp; done) | (simp [*]; done), by repeat (first | exact Drawn0.refl _ | apply Drawn0.step)⟩
        ·rw [if_neg c14] at H
         have c14b0 : decide ((rd l0 x9_2) < 1) = false := decide_eq_false c14
         clear c14
         by_cases c15 : (rd l0 x9_2) > 2147483647
         ·rw [if_pos c15] at H
          have c15b0 : decide (2147483647 < (rd l0 x9_2)) = true := decide_eq_true c15
          clear c15
          obtain rfl := Option.some.inj H
          have p108 : 0 ≤ (x9_2 : Int) := of_decide_eq_true pS
          have q108 : x9_2 < (l0.length : Int) := of_decide_eq_true pS
          obtain ⟨ad108, e108, hx108_0⟩ := Kd.at_int HR0.out x9_2 p108 q108
          cases e108
          replace p108 := eq_true p108
          replace q108 := eq_true q108
          have p109 : 0 ≤ (x9_2 : Int) := of_decide_eq_true pS
          have q109 : x9_2 < (l0.length : Int) := of_decide_eq_true pS
          obtain ⟨ad109, e109, hx109_0⟩ := Kd.at_int HR0.out x9_2 p109 q109
          obtain rfl : ad108 = ad109 := (by injection e109)
          replace p109 := eq_true p109
          replace q109 := eq_true q109
          go_wp2
          repeat (go_quiet (fail); try go_wp2)
          go_ret
          exact ⟨by first | rfl | (simp; done) | (simp [*]; done), by repeat (first | exact Drawn0.refl _ | apply Drawn0.step)⟩
         ·rw [if_neg c15] at H
          have c15b0 : decide (2147483647 < (rd l0 x9_2)) = false := decide_eq_false c15
          clear c15
          by_cases c16 : x9_2 < (l1.length : Int)
          ·rw [if_pos c16] at H
           have c16b0 : decide (x9_2 < (l1.length : Int)) = true := decide_eq_true c16
           clear c16
           by_cases c17 : (rd l1 x9_2) < 0
           ·rw [if_pos c17] at H
            have c17b0 : decide ((rd l1 x9_2) < 0) = true := decide_eq_true c17
            clear c17
            obtain rfl := Option.some.inj H
            have p108 : 0 ≤ (x9_2 : Int) := of_decide_eq_true pS
            have q108 : x9_2 < (l0.length : Int) := of_decide_eq_true pS
            obtain ⟨ad108, e108, hx108_0⟩ := Kd.at_int HR0.out x9_2 p108 q108
            cases e108
            replace p108 := eq_true p108
            replace q108 := eq_true q108
            have p109 : 0 ≤ (x9_2 : Int) := of_decide_eq_true pS
            have q109 : x9_2 < (l0.length : Int) := of_decide_eq_true pS
            obtain ⟨ad109, e109, hx109_0⟩ := Kd.at_int HR0.out x9_2 p109 q109
            obtain rfl : ad108 = ad109 := (by injection e109)
            replace p109 := eq_true p109
            replace q109 := eq_true q109
            have p110 : 0 ≤ (x9_2 : Int) := of_decide_eq_true pS
            have q110 : x9_2 < (l1.length : Int) := of_decide_eq_true pS
            obtain ⟨ad110, e110, hx110_0⟩ := Kd.at_int HR1.out x9_2 p110 q110
            cases e110
            replace p110 := eq_true p110
            replace q110 := eq_true q110
            go_wp2
            repeat (go_quiet (fail); try go_wp2)
            go_ret
            exact ⟨by first | rfl | (simp; done) | (simp [*]; done), by repeat (first | exact Drawn0.refl _ | apply Drawn0.step)⟩
           ·rw [if_neg c17] at H
            have c17b0 : decide ((rd l1 x9_2) < 0) = false := decide_eq_false c17
            clear c17
            by_cases c18 : (rd l1 x9_2) > 4194304
            ·rw [if_pos c18] at H
             have c18b0 : decide (4194304 < (rd l1 x9_2)) = true := decide_eq_true c18
             clear c18
             obtain rfl := Option.some.inj H
             have p108 : 0 ≤ (x9_2 : Int) := of_decide_eq_true pS
             have q108 : x9_2 < (l0.length : Int) := of_decide_eq_true pS
             obtain ⟨ad108, e108, hx108_0⟩ := Kd.at_int HR0.out x9_2 p108 q108
             cases e108
             replace p108 := eq_true p108
             replace q108 := eq_true q108
             have p109 : 0 ≤ (x9_2 : Int) := of_decide_eq_true pS
             have q109 : x9_2 < (l0.length : Int) := of_decide_eq_true pS
             obtain ⟨ad109, e109, hx109_0⟩ := Kd.at_int HR0.out x9_2 p109 q109
             obtain rfl : ad108 = ad109 := (by injection e109)
             replace p109 := eq_true p109
             replace q109 := eq_true q109
             have p110 : 0 ≤ (x9_2 : Int) := of_decide_eq_true pS
             have q110 : x9_2 < (l1.length : Int) := of_decide_eq_true pS
             obtain ⟨ad110, e110, hx110_0⟩ := Kd.at_int HR1.out x9_2 p110 q110
             cases e110
             replace p110 := eq_true p110
             replace q110 := eq_true q110
             have p111 : 0 ≤ (x9_2 : Int) := of_decide_eq_true pS
             have q111 : x9_2 < (l1.length : Int) := of_decide_eq_true pS
             obtain ⟨ad111, e111, hx111_0⟩ := Kd.at_int HR1.out x9_2 p111 q111
             obtain rfl : ad110 = ad111 := (by injection e111)
             replace p111 := eq_true p111
             replace q111 := eq_true q111
             go_wp2
             repeat (go_quiet (fail); try go_wp2)
             go_ret
             exact ⟨by first | rfl | (simp; done) | (simp [*]; done), by repeat (first | exact Drawn0.refl _ | apply Drawn0.step)⟩
            ·rw [if_neg c18] at H
             have c18b0 : decide (4194304 < (rd l1 x9_2)) = false := decide_eq_false c18
             clear c18
             by_cases c19 : x9_2 > 0
             ·rw [if_pos c19] at H
              have c19b0 : decide (0 < x9_2) = true := decide_eq_true c19
              clear c19
              obtain ⟨ji20, hji20⟩ : ∃ j_ : Int, (wrap64 (x9_2 - 1)) = j_ := ⟨_, rfl⟩
              replace H : (if 0 ≤ (ji20) then (if (ji20) < (l0.length : Int) then (if (rd l0 x9_2) ≤ (rd l0 (ji20)) then (some false) else (garnerref29_May.l0 k2 l0 l1 (wrap64 (x9_2 + 1)))) else (none)) else (none)) = some r := by first | (rw [hji20] at H; exact H) | (simp only [hji20] at H ⊢; exact H)
              have hji20w : (IntKind.i64.wrap (x9_2 - 1)) = ji20 := (i64_w _).trans hji20
              by_cases c21 : 0 ≤ (ji20)
              ·rw [if_pos c21] at H
               have c21b0 : decide (0 ≤ (ji20)) = true := decide_eq_true c21
               clear c21
               by_cases c22 : (ji20) < (l0.length : Int)
               ·rw [if_pos c22] at H
                have c22b0 : decide ((ji20) < (l0.length : Int)) = true := decide_eq_true c22
                clear c22
                by_cases c23 : (rd l0 x9_2) ≤ (rd l0 (ji20))
                ·rw [if_pos c23] at H
                 have c23b0 : decide ((rd l0 x9_2) ≤ (rd l0 (ji20))) = true := decide_eq_true c23
                 clear c23
                 obtain rfl := Option.some.inj H
                 have p108 : 0 ≤ (x9_2 : Int) := of_decide_eq_true pS
                 have q108 : x9_2 < (l0.length : Int) := of_decide_eq_true pS
                 obtain ⟨ad108, e108, hx108_0⟩ := Kd.at_int HR0.out x9_2 p108 q108
                 cases e108
                 replace p108 := eq_true p108
                 replace q108 := eq_true q108
                 have p109 : 0 ≤ (x9_2 : Int) := of_decide_eq_true pS
                 have q109 : x9_2 < (l0.length : Int) := of_decide_eq_true pS
                 obtain ⟨ad109, e109, hx109_0⟩ := Kd.at_int HR0.out x9_2 p109 q109
                 obtain rfl : ad108 = ad109 := (by injection e109)
                 replace p109 := eq_true p109
                 replace q109 := eq_true q109
                 have p110 : 0 ≤ (x9_2 : Int) := of_decide_eq_true pS
                 have q110 : x9_2 < (l1.length : Int) := of_decide_eq_true pS
                 obtain ⟨ad110, e110, hx110_0⟩ := Kd.at_int HR1.out x9_2 p110 q110
                 cases e110
                 replace p110 := eq_true p110
                 replace q110 := eq_true q110
                 have p111 : 0 ≤ (x9_2 : Int) := of_decide_eq_true pS
                 have q111 : x9_2 < (l1.length : Int) := of_decide_eq_true pS
                 obtain ⟨ad111, e111, hx111_0⟩ := Kd.at_int HR1.out x9_2 p111 q111
                 obtain rfl : ad110 = ad111 := (by injection e111)
                 replace p111 := eq_true p111
                 replace q111 := eq_true q111
                 have p112 : 0 ≤ (x9_2 : Int) := of_decide_eq_true pS
                 have q112 : x9_2 < (l0.length : Int) := of_decide_eq_true pS
                 obtain ⟨ad112, e112, hx112_0⟩ := Kd.at_int HR0.out x9_2 p112 q112
                 obtain rfl : ad108 = ad112 := (by injection e112)
                 replace p112 := eq_true p112
                 replace q112 := eq_true q112
                 have p113 : 0 ≤ ((ji20) : Int) := of_decide_eq_true pS
                 have q113 : (ji20) < (l0.length : Int) := of_decide_eq_true pS
                 obtain ⟨ad113, e113, hx113_0⟩ := Kd.at_int HR0.out (ji20) p113 q113
                 obtain rfl : ad108 = ad113 := (by injection e113)
                 replace p113 := eq_true p113
                 replace q113 := eq_true q113
                 go_wp2
                 repeat (go_quiet (fail); try go_wp2)
                 go_ret
                 exact ⟨by first | rfl | (simp; done) | (simp only [← hji20] <;> (first | rfl | simp)) | (simp [*]; done), by repeat (first | exact Drawn0.refl _ | apply Drawn0.step)⟩
                ·rw [if_neg c23] at H
                 have c23b0 : decide ((rd l0 x9_2) ≤ (rd l0 (ji20))) = false := decide_eq_false c23
                 clear c23
                 have H' := Aside0.mk H
                 clear H
                 have p108 : 0 ≤ (x9_2 : Int) := of_decide_eq_true pS
                 have q108 : x9_2 < (l0.length : Int) := of_decide_eq_true pS
                 obtain ⟨ad108, e108, hx108_0⟩ := Kd.at_int HR0.out x9_2 p108 q108
                 cases e108
                 replace p108 := eq_true p108
                 replace q108 := eq_true q108
                 have p109 : 0 ≤ (x9_2 : Int) := of_decide_eq_true pS
                 have q109 : x9_2 < (l0.length : Int) := of_decide_eq_true pS
                 obtain ⟨ad109, e109, hx109_0⟩ := Kd.at_int HR0.out x9_2 p109 q109
                 obtain rfl : ad108 = ad109 := (by injection e109)
                 replace p109 := eq_true p109
                 replace q109 := eq_true q109
                 have p110 : 0 ≤ (x9_2 : Int) := of_decide_eq_true pS
                 have q110 : x9_2 < (l1.length : Int) := of_decide_eq_true pS
                 obtain ⟨ad110, e110, hx110_0⟩ := Kd.at_int HR1.out x9_2 p110 q110
                 cases e110
                 replace p110 := eq_true p110
                 replace q110 := eq_true q110
                 have p111 : 0 ≤ (x9_2 : Int) := of_decide_eq_true pS
                 have q111 : x9_2 < (l1.length : Int) := of_decide_eq_true pS
                 obtain ⟨ad111, e111, hx111_0⟩ := Kd.at_int HR1.out x9_2 p111 q111
                 obtain rfl : ad110 = ad111 := (by injection e111)
                 replace p111 := eq_true p111
                 replace q111 := eq_true q111
                 have p112 : 0 ≤ (x9_2 : Int) := of_decide_eq_true pS
                 have q112 : x9_2 < (l0.length : Int) := of_decide_eq_true pS
                 obtain ⟨ad112, e112, hx112_0⟩ := Kd.at_int HR0.out x9_2 p112 q112
                 obtain rfl : ad108 = ad112 := (by injection e112)
                 replace p112 := eq_true p112
                 replace q112 := eq_true q112
                 have p113 : 0 ≤ ((ji20) : Int) := of_decide_eq_true pS
                 have q113 : (ji20) < (l0.length : Int) := of_decide_eq_true pS
                 obtain ⟨ad113, e113, hx113_0⟩ := Kd.at_int HR0.out (ji20) p113 q113
                 obtain rfl : ad108 = ad113 := (by injection e113)
                 replace p113 := eq_true p113
                 replace q113 := eq_true q113
                 go_wp2
                 repeat (go_quiet (fail); try go_wp2)
                 go_roundg k2
                 case measure => have := HJ4.out; have := HK2.out; omega
                 case rel => exact ⟨(wrap64 (x9_2 + 1)), (by first | rfl | (simp; done) | (simp [*]; done)), H', ⟨by have := HJ4.out; have := HK2.out; omega⟩, by repeat (first | exact Drawn0.refl _ | apply Drawn0.step)⟩
               ·rw [if_neg c22] at H
                exact absurd H (by simp)
              ·rw [if_neg c21] at H
               exact absurd H (by simp)
             ·rw [if_neg c19] at H
              have c19b0 : decide (0 < x9_2) = false := decide_eq_false c19
              clear c19
              have H' := Aside0.mk H
              clear H
              have p108 : 0 ≤ (x9_2 : Int) := of_decide_eq_true pS
              have q108 : x9_2 < (l0.length : Int) := of_decide_eq_true pS
              obtain ⟨ad108, e108, hx108_0⟩ := Kd.at_int HR0.out x9_2 p108 q108
              cases e108
              replace p108 := eq_true p108
              replace q108 := eq_true q108
              have p109 : 0 ≤ (x9_2 : Int) := of_decide_eq_true pS
              have q109 : x9_2 < (l0.length : Int) := of_decide_eq_true pS
              obtain ⟨ad109, e109, hx109_0⟩ := Kd.at_int HR0.out x9_2 p109 q109
              obtain rfl : ad108 = ad109 := (by injection e109)
              replace p109 := eq_true p109
              replace q109 := eq_true q109
              have p110 : 0 ≤ (x9_2 : Int) := of_decide_eq_true pS
              have q110 : x9_2 < (l1.length : Int) := of_decide_eq_true pS
              obtain ⟨ad110, e110, hx110_0⟩ := Kd.at_int HR1.out x9_2 p110 q110
              cases e110
              replace p110 := eq_true p110
              replace q110 := eq_true q110
              have p111 : 0 ≤ (x9_2 : Int) := of_decide_eq_true pS
              have q111 : x9_2 < (l1.length : Int) := of_decide_eq_true pS
              obtain ⟨ad111, e111, hx111_0⟩ := Kd.at_int HR1.out x9_2 p111 q111
              obtain rfl : ad110 = ad111 := (by injection e111)
              replace p111 := eq_true p111
              replace q111 := eq_true q111
              go_wp2
              repeat (go_quiet (fail); try go_wp2)
              go_roundg k2
              case measure => have := HJ4.out; have := HK2.out; omega
              case rel => exact ⟨(wrap64 (x9_2 + 1)), (by first | rfl | (simp; done) | (simp [*]; done)), H', ⟨by have := HJ4.out; have := HK2.out; omega⟩, by repeat (first | exact Drawn0.refl _ | apply Drawn0.step)⟩
          ·rw [if_neg c16] at H
           exact absurd H (by simp)
       ·rw [if_neg c13] at H
        exact absurd H (by simp)
      ·rw [if_neg c12] at H
       have c12b0 : decide (x9_2 < (l0.length : Int)) = false := decide_eq_false c12
       clear c12
       obtain rfl := Option.some.inj H
       go_wp2
       repeat (go_quiet (fail); try go_wp2)
       go_ret
       exact ⟨by first | rfl | (simp; done) | (simp [*]; done), by repeat (first | exact Drawn0.refl _ | apply Drawn0.step)⟩
end Go.Proofs.Ytcjkchjgmgdbgaa.PVictimSparse
