/- What the law reaches, as plain Lean functions, and that the machine's calls answer just that. -/
import Derived.Test.YtinldhpdfomcjaaPRaftPartsx0
import Derived.Test.YtinldhpdfomcjaaPRaftPartsx10
namespace Go.Proofs.Ytinldhpdfomcjaa.PRaftParts
open Go.RowKit Go.Proofs.YtinldhpdfomcjaaW.PrintWords Go.Proofs.YtinldhpdfomcjaaW.PrintLast Go.Proofs.YtinldhpdfomcjaaW.PrintMore
attribute [local go_sem] max2_int min2_int max_two min_two max_three min_three max_four min_four
set_option linter.unusedVariables false
set_option linter.unusedSimpArgs false
attribute [local go_sem] wrap64_l1 wrap64_l2 wrap64_l3 wrap64_l4 wrap64_l5
def garnerref06_Same.l0 : Nat → List (S46) → List (S46) → Int → Option (Bool)
 | 0, _, _, _ => none
 | k + 1, x0, x1, x5 => if x5 < (x0.length : Int) then (if 0 ≤ x5 then (if x5 < (x1.length : Int) then (if ((rd_T46 x0 x5).f0) = ((rd_T46 x1 x5).f0) then (if ((rd_T46 x0 x5).f1) = ((rd_T46 x1 x5).f1) then (if ((rd_T46 x0 x5).f2) = ((rd_T46 x1 x5).f2) then (if ((rd_T46 x0 x5).f3).toList = ((rd_T46 x1 x5).f3).toList then ((garnerref05_Same.f k ((rd_T46 x0 x5).f4.f0) ((rd_T46 x0 x5).f4.f1) ((rd_T46 x0 x5).f4.f2.f0) ((rd_T46 x0 x5).f4.f2.f1) ((rd_T46 x0 x5).f4.f2.f2) ((rd_T46 x0 x5).f4.f2.f3) ((rd_T46 x1 x5).f4.f0) ((rd_T46 x1 x5).f4.f1) ((rd_T46 x1 x5).f4.f2.f0) ((rd_T46 x1 x5).f4.f2.f1) ((rd_T46 x1 x5).f4.f2.f2) ((rd_T46 x1 x5).f4.f2.f3)).bind fun t244 => (if t244 = true then (garnerref06_Same.l0 k x0 x1 (wrap64 (x5 + 1))) else (some false))) else (some false)) else (some false)) else (some false)) else (some false)) else (none)) else (none)) else (some true)
def garnerref06_Same.f (k : Nat) (l0 : List (S46)) (l1 : List (S46)) : Option (Bool) := if (l0.length : Int) = (l1.length : Int) then (garnerref06_Same.l0 k l0 l1 0) else (some false)
theorem garnerref06_Same.mono_l : ∀ k, (∀ y0 y1 y2, LeO (garnerref06_Same.l0 k y0 y1 y2) (garnerref06_Same.l0 (k + 1) y0 y1 y2))
 | 0 => fun _ _ _ r h => by simp [garnerref06_Same.l0] at h
 | k + 1 => by
  have ih0 := garnerref06_Same.mono_l k
  ·intro y0 y1 y2
   unfold garnerref06_Same.l0
   repeat' first
   | (with_reducible exact ih0 _ _ _)
   | (with_reducible exact garnerref05_Same.mono _ _ _ _ _ _ _ _ _ _ _ _ _)
   | (with_reducible exact LeO.refl _)
   | (with_reducible exact LeO.none _)
   | (with_reducible refine LeO.ite ?_ ?_)
   | (with_reducible refine LeO.bind ?_ (fun _ => ?_))
   | exact ih0 _ _ _
   | exact garnerref05_Same.mono _ _ _ _ _ _ _ _ _ _ _ _ _
   | exact LeO.none _
   | refine LeO.ite ?_ ?_
   | refine LeO.bind ?_ (fun _ => ?_)
theorem garnerref06_Same.mono : ∀ a0 a1 k, LeO (garnerref06_Same.f k a0 a1) (garnerref06_Same.f (k + 1) a0 a1) := by
 intro a0 a1 k
 have ih0 := garnerref06_Same.mono_l k
 unfold garnerref06_Same.f
 repeat' first
   | (with_reducible exact ih0 _ _ _)
   | (with_reducible exact garnerref05_Same.mono _ _ _ _ _ _ _ _ _ _ _ _ _)
   | (with_reducible exact LeO.refl _)
   | (with_reducible exact LeO.none _)
   | (with_reducible refine LeO.ite ?_ ?_)
   | (with_reducible refine LeO.bind ?_ (fun _ => ?_))
   | exact ih0 _ _ _
   | exact garnerref05_Same.mono _ _ _ _ _ _ _ _ _ _ _ _ _
   | exact LeO.none _
   | refine LeO.ite ?_ ?_
   | refine LeO.bind ?_ (fun _ => ?_)
def garnerref06_Same.T6 : Bool × List (List Nat × List Nat) := (true, [([], []), ([], []), ([0, 1], [0, 1]), ([2], [2]), ([3], [3]), ([], []), ([], []), ([5, 6], [5, 6]), ([7], [7]), ([8], [8]), ([4, 9], [4, 9]), ([10], [10]), ([11], [11]), ([11], [11]), ([12, 13, 11], [11, 12, 13]), ([14, 11], [11, 14]), ([15, 11], [11, 15]), ([11], [11]), ([11], [11]), ([17, 18, 11], [11, 17, 18]), ([19, 11], [11, 19]), ([20, 11], [11, 20]), ([16, 21, 11], [11, 16, 21]), ([11, 22], [11, 22]), ([23, 11], [23]), ([24], [24]), ([24], [24]), ([25, 26, 24], [24, 25, 26]), ([27, 24], [24, 27]), ([28, 24], [24, 28]), ([24], [24]), ([24], [24]), ([30, 31, 24], [24, 30, 31]), ([32, 24], [24, 32]), ([33, 24], [24, 33]), ([29, 34, 24], [24, 29, 34]), ([24, 35], [24, 35]), ([36, 24], [36]), ([37], [37]), ([37], [37]), ([38, 39, 37], [37, 38, 39]), ([40, 37], [37, 40]), ([41, 37], [37, 41]), ([37], [37]), ([37], [37]), ([43, 44, 37], [37, 43, 44]), ([45, 37], [37, 45]), ([46, 37], [37, 46]), ([42, 47, 37], [37, 42, 47]), ([37, 48], [37, 48]), ([49, 37], [49]), ([50], [50]), ([50], [50]), ([51, 52, 50], [50, 51, 52]), ([53, 50], [50, 53]), ([54, 50], [50, 54]), ([50], [50]), ([50], [50]), ([56, 57, 50], [50, 56, 57]), ([58, 50], [50, 58]), ([59, 50], [50, 59]), ([55, 60, 50, 50], [50, 55, 60]), ([61, 50], [50, 61]), ([50, 62], [50, 62])])
def garnerref06_Same.B6 : List Nat := [0, 0, 3, 7, 15, 0, 0, 96, 224, 480, 1023, 2047, 4095, 4095, 16383, 32767, 65535, 4095, 4095, 397311, 921599, 1970175, 4194303, 8388607, 16777215, 33554431, 33554431, 134217727, 268435455, 536870911, 33554431, 33554431, 3254779903, 7549747199, 16139681791, 34359738367, 68719476735, 137438953471, 274877906943, 274877906943, 1099511627775, 2199023255551, 4398046511103, 274877906943, 274877906943, 26663156973567, 61847529062399, 132216273240063, 281474976710655, 562949953421311, 1125899906842623, 2251799813685247, 2251799813685247, 9007199254740991, 18014398509481983, 36028797018963967, 2251799813685247, 2251799813685247, 218424581927469055, 506654958079180799, 1083115710382604287, 2305843009213693951, 4611686018427387903, 9223372036854775807]
theorem garnerref06_Same.tab6 : rtab .any (opsOf Try.f13 6) = garnerref06_Same.T6 := by kernel_rfl
theorem garnerref06_Same.bits6 : waitsOk garnerref06_Same.T6.2 garnerref06_Same.B6 = true := by kernel_rfl
set_option maxHeartbeats 8000000 in
set_option maxRecDepth 100000 in
theorem garnerref06_Same.calls (k : Nat) (A0 : Option Addr) (c0 : Nat) (l0 : List (S46)) (A1 : Option Addr) (c1 : Nat) (l1 : List (S46)) (r : Bool) (w : World) (hr0 : Kd.C k46 w A0 l0.length l0) (hc0 : l0.length ≤ c0) (hr1 : Kd.C k46 w A1 l1.length l1) (hc1 : l1.length ≤ c1) (h : garnerref06_Same.f k l0 l1 = some r) :
  Calls Try.prog 13 #[.slice A0 l0.length c0, .slice A1 l1.length c1] w fun e w' => e = .returned (.bool r) ∧ Below w.heap.size w w' := by
 have hu44 := Try.underlying44
 have HR0 := Aside0.mk hr0
 have HC0 := Aside0.mk hc0
 clear hr0 hc0
 have HR1 := Aside0.mk hr1
 have HC1 := Aside0.mk hc1
 clear hr1 hc1
 have HB := Aside0.mk (Below.refl w.heap.size w)
 have H : (if (l0.length : Int) = (l1.length : Int) then (garnerref06_Same.l0 k l0 l1 0) else (some false)) = some r := h
 clear h
 by_cases c3 : (l0.length : Int) = (l1.length : Int)
 ·rw [if_pos c3] at H
  have c3b0 : ((l0.length : Int) == (l1.length : Int)) = true := beq_iff_eq.mpr c3
  have c3b1 : ((l0.length : Int) != (l1.length : Int)) = false := bne_eq_false_iff_eq.mpr c3
  have c3b2 : (l0.length == l1.length) = true := by first | simpa using c3 | (simp at c3 ⊢; omega)
  clear c3
  have H' := Aside0.mk H
  clear H
  go_enter Try.func13, Try.ntmps13
  go_wp2
  go_loopg [5] k (fun kq v5 w' => ∃ (x5_1 : Int), v5 = .int .i64 x5_1 ∧ Aside0 (garnerref06_Same.l0 kq l0 l1 x5_1 = some r) ∧ Aside0 (kq ≤ k) ∧ Aside0 (Below w.heap.size w w'))
  case atStart => exact ⟨(0), (by first | rfl | (simp; done) | (simp [*]; done)), H', ⟨Nat.le_refl _⟩, ⟨pB HB.out⟩⟩
  case round =>
   clear H'
   try clear c1
   try clear p2
   try clear c3
   try clear c3b0
   try clear c3b1
   try clear c3b2
   obtain ⟨x5_1, rfl, HA, HK1, HB⟩ := hrel
   cases gk with
   | zero => exact absurd HA.out (by simp [garnerref06_Same.l0])
   | succ k1 =>
    have H := HA.out
    clear HA
    simp only [garnerref06_Same.l0] at H
    by_cases c4 : x5_1 < (l0.length : Int)
    ·rw [if_pos c4] at H
     have c4b0 : decide (x5_1 < (l0.length : Int)) = true := decide_eq_true c4
     clear c4
     by_cases c5 : 0 ≤ x5_1
     ·rw [if_pos c5] at H
      have c5b0 : decide (0 ≤ x5_1) = true := decide_eq_true c5
      clear c5
      by_cases c6 : x5_1 < (l1.length : Int)
      ·rw [if_pos c6] at H
       have c6b0 : decide (x5_1 < (l1.length : Int)) = true := decide_eq_true c6
       clear c6
       by_cases c7 : ((rd_T46 l0 x5_1).f0) = ((rd_T46 l1 x5_1).f0)
       ·rw [if_pos c7] at H
        have c7b0 : (((rd_T46 l0 x5_1).f0) == ((rd_T46 l1 x5_1).f0)) = true := beq_iff_eq.mpr c7
        have c7b1 : (((rd_T46 l0 x5_1).f0) != ((rd_T46 l1 x5_1).f0)) = false := bne_eq_false_iff_eq.mpr c7
        clear c7
        by_cases c8 : ((rd_T46 l0 x5_1).f1) = ((rd_T46 l1 x5_1).f1)
        ·rw [if_pos c8] at H
         have c8b0 : (((rd_T46 l0 x5_1).f1) == ((rd_T46 l1 x5_1).f1)) = true := beq_iff_eq.mpr c8
         have c8b1 : (((rd_T46 l0 x5_1).f1) != ((rd_T46 l1 x5_1).f1)) = false := bne_eq_false_iff_eq.mpr c8
         clear c8
         by_cases c9 : ((rd_T46 l0 x5_1).f2) = ((rd_T46 l1 x5_1).f2)
         ·rw [if_pos c9] at H
          have c9b0 : (((rd_T46 l0 x5_1).f2) == ((rd_T46 l1 x5_1).f2)) = true := beq_iff_eq.mpr c9
          have c9b1 : (((rd_T46 l0 x5_1).f2) != ((rd_T46 l1 x5_1).f2)) = false := bne_eq_false_iff_eq.mpr c9
          clear c9
          by_cases c10 : ((rd_T46 l0 x5_1).f3).toList = ((rd_T46 l1 x5_1).f3).toList
          ·rw [if_pos c10] at H
           have c10b0 : (((rd_T46 l0 x5_1).f3).toList == ((rd_T46 l1 x5_1).f3).toList) = true := beq_iff_eq.mpr c10
           have c10b1 : (((rd_T46 l0 x5_1).f3).toList != ((rd_T46 l1 x5_1).f3).toList) = false := bne_eq_false_iff_eq.mpr c10
           clear c10
           replace H := Option.bind_eq_some_iff.mp H
           obtain ⟨t244, A110, H⟩ := H
           replace H : (if t244 = true then (garnerref06_Same.l0 k1 l0 l1 (wrap64 (x5_1 + 1))) else (some false)) = some r := H
           have A11 := Aside0.mk A110
           clear A110
           by_cases c12 : t244 = true
           ·subst c12
            have H1 : (garnerref06_Same.l0 k1 l0 l1 (wrap64 (x5_1 + 1))) = some r := by rw [if_pos rfl] at H; exact H
            clear H
            have H := H1
            clear H1
            have H' := Aside0.mk H
            clear H
            try go_wp2
            have n0_ := Aside0.mk (below_drew1 HB.out)
            clear HB
            have HB := n0_
            clear n0_
            have p234 : 0 ≤ (x5_1 : Int) := of_decide_eq_true pS
            have q234 : x5_1 < (l0.length : Int) := of_decide_eq_true pS
            obtain ⟨ad234, A234_5, c234_5, e234, hx234_0, hx234_1, hx234_2, hx234_3, hx234_4, hx234_5, hx234_6, hx234_7, hx234_8, hx234_9, hl234_5, hi234_5⟩ := at_T46 HR0.out x5_1 p234 q234
            have hw234_9 := hx234_9
            have hw234_8 := hx234_8
            have hw234_7 := hx234_7
            have hw234_6 := hx234_6
            have hw234_5 := hx234_5
            have hw234_4 := hx234_4
            have hw234_3 := hx234_3
            have hw234_2 := hx234_2
            have hw234_1 := hx234_1
            have hw234_0 := hx234_0
            cases e234
            replace hx234_0 := cU HB.out hx234_0
            replace hx234_1 := cU HB.out hx234_1
            replace hx234_2 := cU HB.out hx234_2
            replace hx234_3 := cU HB.out hx234_3
            replace hx234_4 := cU HB.out hx234_4
            replace hx234_5 := cU HB.out hx234_5
            replace hx234_6 := cU HB.out hx234_6
            replace hx234_7 := cU HB.out hx234_7
            replace hx234_8 := cU HB.out hx234_8
            replace hx234_9 := cU HB.out hx234_9
            have HR234_5 := Aside0.mk hi234_5
            have HC234_5 := Aside0.mk hl234_5
            clear hi234_5 hl234_5
            replace p234 := eq_true p234
            replace q234 := eq_true q234
            have p235 : 0 ≤ (x5_1 : Int) := of_decide_eq_true pS
            have q235 : x5_1 < (l1.length : Int) := of_decide_eq_true pS
            obtain ⟨ad235, A235_5, c235_5, e235, hx235_0, hx235_1, hx235_2, hx235_3, hx235_4, hx235_5, hx235_6, hx235_7, hx235_8, hx235_9, hl235_5, hi235_5⟩ := at_T46 HR1.out x5_1 p235 q235
            have hw235_9 := hx235_9
            have hw235_8 := hx235_8
            have hw235_7 := hx235_7
            have hw235_6 := hx235_6
            have hw235_5 := hx235_5
            have hw235_4 := hx235_4
            have hw235_3 := hx235_3
            have hw235_2 := hx235_2
            have hw235_1 := hx235_1
            have hw235_0 := hx235_0
            cases e235
            replace hx235_0 := cU HB.out hx235_0
            replace hx235_1 := cU HB.out hx235_1
            replace hx235_2 := cU HB.out hx235_2
            replace hx235_3 := cU HB.out hx235_3
            replace hx235_4 := cU HB.out hx235_4
            replace hx235_5 := cU HB.out hx235_5
            replace hx235_6 := cU HB.out hx235_6
            replace hx235_7 := cU HB.out hx235_7
            replace hx235_8 := cU HB.out hx235_8
            replace hx235_9 := cU HB.out hx235_9
            have HR235_5 := Aside0.mk hi235_5
            have HC235_5 := Aside0.mk hl235_5
            clear hi235_5 hl235_5
            replace p235 := eq_true p235
            replace q235 := eq_true q235
            refine start_ (n := 64) (S := fun w' => w'.cell? (ad234.add ((x5_1).toNat * 10)) = some (.int .i64 ((rd_T46 l0 x5_1).f0)) ∧ cA w' (ad234.add ((x5_1).toNat * 10)) 1 (.int .i64 ((rd_T46 l0 x5_1).f1)) ∧ cA w' (ad234.add ((x5_1).toNat * 10)) 2 (.int .i64 ((rd_T46 l0 x5_1).f2)) ∧ cA w' (ad234.add ((x5_1).toNat * 10)) 3 (.string ((rd_T46 l0 x5_1).f3)) ∧ cA w' (ad234.add ((x5_1).toNat * 10)) 4 (.bool ((rd_T46 l0 x5_1).f4.f0)) ∧ cA w' (ad234.add ((x5_1).toNat * 10)) 5 (.slice A234_5 ((rd_T46 l0 x5_1).f4.f1).length c234_5) ∧ cA w' (ad234.add ((x5_1).toNat * 10)) 6 (.int .i64 ((rd_T46 l0 x5_1).f4.f2.f0)) ∧ cA w' (ad234.add ((x5_1).toNat * 10)) 7 (.int .i64 ((rd_T46 l0 x5_1).f4.f2.f1)) ∧ cA w' (ad234.add ((x5_1).toNat * 10)) 8 (.int .i64 ((rd_T46 l0 x5_1).f4.f2.f2)) ∧ cA w' (ad234.add ((x5_1).toNat * 10)) 9 (.int .u32 ((rd_T46 l0 x5_1).f4.f2.f3)) ∧ w'.cell? (ad235.add ((x5_1).toNat * 10)) = some (.int .i64 ((rd_T46 l1 x5_1).f0)) ∧ cA w' (ad235.add ((x5_1).toNat * 10)) 1 (.int .i64 ((rd_T46 l1 x5_1).f1)) ∧ cA w' (ad235.add ((x5_1).toNat * 10)) 2 (.int .i64 ((rd_T46 l1 x5_1).f2)) ∧ cA w' (ad235.add ((x5_1).toNat * 10)) 3 (.string ((rd_T46 l1 x5_1).f3)) ∧ cA w' (ad235.add ((x5_1).toNat * 10)) 4 (.bool ((rd_T46 l1 x5_1).f4.f0)) ∧ cA w' (ad235.add ((x5_1).toNat * 10)) 5 (.slice A235_5 ((rd_T46 l1 x5_1).f4.f1).length c235_5) ∧ cA w' (ad235.add ((x5_1).toNat * 10)) 6 (.int .i64 ((rd_T46 l1 x5_1).f4.f2.f0)) ∧ cA w' (ad235.add ((x5_1).toNat * 10)) 7 (.int .i64 ((rd_T46 l1 x5_1).f4.f2.f1)) ∧ cA w' (ad235.add ((x5_1).toNat * 10)) 8 (.int .i64 ((rd_T46 l1 x5_1).f4.f2.f2)) ∧ cA w' (ad235.add ((x5_1).toNat * 10)) 9 (.int .u32 ((rd_T46 l1 x5_1).f4.f2.f3))) (ds := []) #[false, false, false, false, false, false, false, false, false, false, false, false, false, false, false, false, false, false, false, false, false, false, false, false, false, false, false, false, false, false, false, false, false, false, false, false, false, false, false, false, false, false, false, false, false, false, false, false, false, false, false, false, false, false, false, false, false, false, false, false, false, false, false, false] (by kernel_rfl) rfl rfl ⟨(cT HB.out hw234_0), (cT HB.out hw234_1), (cT HB.out hw234_2), (cT HB.out hw234_3), (cT HB.out hw234_4), (cT HB.out hw234_5), (cT HB.out hw234_6), (cT HB.out hw234_7), (cT HB.out hw234_8), (cT HB.out hw234_9), (cT HB.out hw235_0), (cT HB.out hw235_1), (cT HB.out hw235_2), (cT HB.out hw235_3), (cT HB.out hw235_4), (cT HB.out hw235_5), (cT HB.out hw235_6), (cT HB.out hw235_7), (cT HB.out hw235_8), (cT HB.out hw235_9)⟩ (fun hHeld => ?_); refine with_tabW garnerref06_Same.tab6 garnerref06_Same.bits6 (fun HT_ HW_ => ?_)
            generalize wr.drew = w13 at HB HR234_5 HR235_5 hx234_0 hx234_1 hx234_2 hx234_3 hx234_4 hx234_5 hx234_6 hx234_7 hx234_8 hx234_9 hx235_0 hx235_1 hx235_2 hx235_3 hx235_4 hx235_5 hx235_6 hx235_7 hx235_8 hx235_9 hHeld ⊢
            refine pu 0 (some 17) (bw 64 1) HT_.out (h := ?_)
            refine pu 1 (some 18) (bw 64 3) HT_.out (h := ?_)
            refine pu 2 (some 19) (bw 64 7) HT_.out (h := ?_)
            refine pu 3 (some 20) (bw 64 15) HT_.out (h := ?_)
            refine pu 5 (some 22) (bw 64 47) HT_.out (h := ?_)
            refine pu 6 (some 23) (bw 64 111) HT_.out (h := ?_)
            refine pu 7 (some 24) (bw 64 239) HT_.out (h := ?_)
            refine pu 8 (some 25) (bw 64 495) HT_.out (h := ?_)
            refine tk 4 (some 21) (bw 64 511) HT_.out HW_.out hHeld (h := ?_)
            refine tk 9 (some 26) (bw 64 1023) HT_.out HW_.out hHeld (h := ?_)
            refine pu 10 (some 27) (bw 64 2047) HT_.out (h := ?_)
            refine pu 11 (some 28) (bw 64 4095) HT_.out (h := ?_)
            refine pu 12 (some 29) (bw 64 8191) HT_.out (h := ?_)
            refine pu 13 (some 30) (bw 64 16383) HT_.out (h := ?_)
            refine pu 14 (some 31) (bw 64 32767) HT_.out (h := ?_)
            refine pu 15 (some 32) (bw 64 65535) HT_.out (h := ?_)
            refine pu 17 (some 34) (bw 64 196607) HT_.out (h := ?_)
            refine pu 18 (some 35) (bw 64 458751) HT_.out (h := ?_)
            refine pu 19 (some 36) (bw 64 983039) HT_.out (h := ?_)
            refine pu 20 (some 37) (bw 64 2031615) HT_.out (h := ?_)
            refine tk 16 (some 33) (bw 64 2097151) HT_.out HW_.out hHeld (h := ?_)
            refine tk 21 (some 38) (bw 64 4194303) HT_.out HW_.out hHeld (h := ?_)
            refine pu 22 (some 39) (bw 64 8388607) HT_.out (h := ?_)
            refine pu 23 (some 40) (bw 64 16777215) HT_.out (h := ?_)
            refine pu 24 (some 41) (bw 64 33554431) HT_.out (h := ?_)
            refine pu 25 (some 42) (bw 64 67108863) HT_.out (h := ?_)
            refine pu 26 (some 43) (bw 64 134217727) HT_.out (h := ?_)
            refine pu 27 (some 44) (bw 64 268435455) HT_.out (h := ?_)
            refine pu 28 (some 45) (bw 64 536870911) HT_.out (h := ?_)
            refine pu 30 (some 47) (bw 64 1610612735) HT_.out (h := ?_)
            refine pu 31 (some 48) (bw 64 3758096383) HT_.out (h := ?_)
            refine pu 32 (some 49) (bw 64 8053063679) HT_.out (h := ?_)
            refine pu 33 (some 50) (bw 64 16642998271) HT_.out (h := ?_)
            refine tk 29 (some 46) (bw 64 17179869183) HT_.out HW_.out hHeld (h := ?_)
            refine tk 34 (some 51) (bw 64 34359738367) HT_.out HW_.out hHeld (h := ?_)
            refine pu 35 (some 52) (bw 64 68719476735) HT_.out (h := ?_)
            refine pu 36 (some 53) (bw 64 137438953471) HT_.out (h := ?_)
            refine pu 37 (some 54) (bw 64 274877906943) HT_.out (h := ?_)
            refine pu 38 (some 55) (bw 64 549755813887) HT_.out (h := ?_)
            refine pu 39 (some 56) (bw 64 1099511627775) HT_.out (h := ?_)
            refine pu 40 (some 57) (bw 64 2199023255551) HT_.out (h := ?_)
            refine pu 41 (some 58) (bw 64 4398046511103) HT_.out (h := ?_)
            refine pu 43 (some 60) (bw 64 13194139533311) HT_.out (h := ?_)
            refine pu 44 (some 61) (bw 64 30786325577727) HT_.out (h := ?_)
            refine pu 45 (some 62) (bw 64 65970697666559) HT_.out (h := ?_)
            refine pu 46 (some 63) (bw 64 136339441844223) HT_.out (h := ?_)
            refine tk 42 (some 59) (bw 64 140737488355327) HT_.out HW_.out hHeld (h := ?_)
            refine tk 47 (some 64) (bw 64 281474976710655) HT_.out HW_.out hHeld (h := ?_)
            refine pu 48 (some 65) (bw 64 562949953421311) HT_.out (h := ?_)
            refine pu 49 (some 66) (bw 64 1125899906842623) HT_.out (h := ?_)
            refine pu 50 (some 67) (bw 64 2251799813685247) HT_.out (h := ?_)
            refine pu 51 (some 68) (bw 64 4503599627370495) HT_.out (h := ?_)
            refine pu 52 (some 69) (bw 64 9007199254740991) HT_.out (h := ?_)
            refine pu 53 (some 70) (bw 64 18014398509481983) HT_.out (h := ?_)
            refine pu 54 (some 71) (bw 64 36028797018963967) HT_.out (h := ?_)
            refine pu 56 (some 73) (bw 64 108086391056891903) HT_.out (h := ?_)
            refine pu 57 (some 74) (bw 64 252201579132747775) HT_.out (h := ?_)
            refine pu 58 (some 75) (bw 64 540431955284459519) HT_.out (h := ?_)
            refine pu 59 (some 76) (bw 64 1116892707587883007) HT_.out (h := ?_)
            refine tk 55 (some 72) (bw 64 1152921504606846975) HT_.out HW_.out hHeld (h := ?_)
            refine tk 60 (some 77) (bw 64 2305843009213693951) HT_.out HW_.out hHeld (h := ?_)
            refine one_ (i := 61) (N := some 78) (bw 64 4611686018427387903) rfl rfl (one_of HT_.out (by kernel_rfl)) (by decide) (fun K hK => ?_)
            refine goes_ Try.func30 (by kernel_rfl) rfl #[.agg #[.bool ((rd_T46 l0 x5_1).f4.f0), .slice A234_5 ((rd_T46 l0 x5_1).f4.f1).length c234_5, .int .i64 ((rd_T46 l0 x5_1).f4.f2.f0), .int .i64 ((rd_T46 l0 x5_1).f4.f2.f1), .int .i64 ((rd_T46 l0 x5_1).f4.f2.f2), .int .u32 ((rd_T46 l0 x5_1).f4.f2.f3)], .agg #[.bool ((rd_T46 l1 x5_1).f4.f0), .slice A235_5 ((rd_T46 l1 x5_1).f4.f1).length c235_5, .int .i64 ((rd_T46 l1 x5_1).f4.f2.f0), .int .i64 ((rd_T46 l1 x5_1).f4.f2.f1), .int .i64 ((rd_T46 l1 x5_1).f4.f2.f2), .int .u32 ((rd_T46 l1 x5_1).f4.f2.f3)]] (by rfl) rfl rfl pL ?_
            with_reducible refine (garnerref05_Same.calls k1 ((rd_T46 l0 x5_1).f4.f0) _ _ ((rd_T46 l0 x5_1).f4.f1) ((rd_T46 l0 x5_1).f4.f2.f0) ((rd_T46 l0 x5_1).f4.f2.f1) ((rd_T46 l0 x5_1).f4.f2.f2) ((rd_T46 l0 x5_1).f4.f2.f3) ((rd_T46 l1 x5_1).f4.f0) _ _ ((rd_T46 l1 x5_1).f4.f1) ((rd_T46 l1 x5_1).f4.f2.f0) ((rd_T46 l1 x5_1).f4.f2.f1) ((rd_T46 l1 x5_1).f4.f2.f2) ((rd_T46 l1 x5_1).f4.f2.f3) true _ ?side1 ?side2 ?side3 ?side4 A11.out).mono ?_
            (case side1 => exact pC (Kd.C_below HR234_5.out HB.out))
            (case side2 => exact HC234_5.out)
            (case side3 => exact pC (Kd.C_below HR235_5.out HB.out))
            (case side4 => exact HC235_5.out)
            rintro e w14 ⟨rfl, hb⟩
            refine ⟨_, rfl, ?_⟩
            have n0_ := Aside0.mk (below_step (pB HB.out) hb)
            clear HB
            have HB := n0_
            clear n0_
            (try clear hb)
            (try clear hb2)
            (try clear hk)
            (try clear hi)
            refine hK.out _ _ ⟨(cT HB.out hw234_0), (cT HB.out hw234_1), (cT HB.out hw234_2), (cT HB.out hw234_3), (cT HB.out hw234_4), (cT HB.out hw234_5), (cT HB.out hw234_6), (cT HB.out hw234_7), (cT HB.out hw234_8), (cT HB.out hw234_9), (cT HB.out hw235_0), (cT HB.out hw235_1), (cT HB.out hw235_2), (cT HB.out hw235_3), (cT HB.out hw235_4), (cT HB.out hw235_5), (cT HB.out hw235_6), (cT HB.out hw235_7), (cT HB.out hw235_8), (cT HB.out hw235_9)⟩ (fun hHeld => ?_)
            clear hK K
            refine norm_ (a' := ?_) ?_ ?_
            rotate_left
            ·show Act.put _ (some 78) _ = _
             simp only [Act.put, List.setIfInBounds_toArray, List.set_cons_zero, List.set_cons_succ, i64_w, i32_w]
             rfl
            refine pu 62 (some 79) (bw 64 9223372036854775807) HT_.out (h := ?_)
            refine pu 63 (some 80) (bw 64 18446744073709551615) HT_.out (h := ?_)
            refine done_ (done_of HT_.out (by kernel_rfl)) ?_
            try go_wp2
            go_roundg k1
            case measure => have := HK1.out; omega
            case rel => exact ⟨(wrap64 (x5_1 + 1)), (by first | rfl | (simp; done) | (simp [*]; done)), H', ⟨by have := HK1.out; omega⟩, ⟨pB HB.out⟩⟩
           ·replace c12 := Bool.eq_false_iff.mpr c12
            subst c12
            have H1 : (some false) = some r := by rw [if_neg (show ¬ (false = true) by decide)] at H; exact H
            clear H
            have H := H1
            clear H1
            obtain rfl := Option.some.inj H
            try go_wp2
            have n0_ := Aside0.mk (below_drew1 HB.out)
            clear HB
            have HB := n0_
            clear n0_
            have p234 : 0 ≤ (x5_1 : Int) := of_decide_eq_true pS
            have q234 : x5_1 < (l0.length : Int) := of_decide_eq_true pS
            obtain ⟨ad234, A234_5, c234_5, e234, hx234_0, hx234_1, hx234_2, hx234_3, hx234_4, hx234_5, hx234_6, hx234_7, hx234_8, hx234_9, hl234_5, hi234_5⟩ := at_T46 HR0.out x5_1 p234 q234
            have hw234_9 := hx234_9
            have hw234_8 := hx234_8
            have hw234_7 := hx234_7
            have hw234_6 := hx234_6
            have hw234_5 := hx234_5
            have hw234_4 := hx234_4
            have hw234_3 := hx234_3
            have hw234_2 := hx234_2
            have hw234_1 := hx234_1
            have hw234_0 := hx234_0
            cases e234
            replace hx234_0 := cU HB.out hx234_0
            replace hx234_1 := cU HB.out hx234_1
            replace hx234_2 := cU HB.out hx234_2
            replace hx234_3 := cU HB.out hx234_3
            replace hx234_4 := cU HB.out hx234_4
            replace hx234_5 := cU HB.out hx234_5
            replace hx234_6 := cU HB.out hx234_6
            replace hx234_7 := cU HB.out hx234_7
            replace hx234_8 := cU HB.out hx234_8
            replace hx234_9 := cU HB.out hx234_9
            have HR234_5 := Aside0.mk hi234_5
            have HC234_5 := Aside0.mk hl234_5
            clear hi234_5 hl234_5
            replace p234 := eq_true p234
            replace q234 := eq_true q234
            have p235 : 0 ≤ (x5_1 : Int) := of_decide_eq_true pS
            have q235 : x5_1 < (l1.length : Int) := of_decide_eq_true pS
            obtain ⟨ad235, A235_5, c235_5, e235, hx235_0, hx235_1, hx235_2, hx235_3, hx235_4, hx235_5, hx235_6, hx235_7, hx235_8, hx235_9, hl235_5, hi235_5⟩ := at_T46 HR1.out x5_1 p235 q235
            have hw235_9 := hx235_9
            have hw235_8 := hx235_8
            have hw235_7 := hx235_7
            have hw235_6 := hx235_6
            have hw235_5 := hx235_5
            have hw235_4 := hx235_4
            have hw235_3 := hx235_3
            have hw235_2 := hx235_2
            have hw235_1 := hx235_1
            have hw235_0 := hx235_0
            cases e235
            replace hx235_0 := cU HB.out hx235_0
            replace hx235_1 := cU HB.out hx235_1
            replace hx235_2 := cU HB.out hx235_2
            replace hx235_3 := cU HB.out hx235_3
            replace hx235_4 := cU HB.out hx235_4
            replace hx235_5 := cU HB.out hx235_5
            replace hx235_6 := cU HB.out hx235_6
            replace hx235_7 := cU HB.out hx235_7
            replace hx235_8 := cU HB.out hx235_8
            replace hx235_9 := cU HB.out hx235_9
            have HR235_5 := Aside0.mk hi235_5
            have HC235_5 := Aside0.mk hl235_5
            clear hi235_5 hl235_5
            replace p235 := eq_true p235
            replace q235 := eq_true q235
            refine start_ (n := 64) (S := fun w' => w'.cell? (ad234.add ((x5_1).toNat * 10)) = some (.int .i64 ((rd_T46 l0 x5_1).f0)) ∧ cA w' (ad234.add ((x5_1).toNat * 10)) 1 (.int .i64 ((rd_T46 l0 x5_1).f1)) ∧ cA w' (ad234.add ((x5_1).toNat * 10)) 2 (.int .i64 ((rd_T46 l0 x5_1).f2)) ∧ cA w' (ad234.add ((x5_1).toNat * 10)) 3 (.string ((rd_T46 l0 x5_1).f3)) ∧ cA w' (ad234.add ((x5_1).toNat * 10)) 4 (.bool ((rd_T46 l0 x5_1).f4.f0)) ∧ cA w' (ad234.add ((x5_1).toNat * 10)) 5 (.slice A234_5 ((rd_T46 l0 x5_1).f4.f1).length c234_5) ∧ cA w' (ad234.add ((x5_1).toNat * 10)) 6 (.int .i64 ((rd_T46 l0 x5_1).f4.f2.f0)) ∧ cA w' (ad234.add ((x5_1).toNat * 10)) 7 (.int .i64 ((rd_T46 l0 x5_1).f4.f2.f1)) ∧ cA w' (ad234.add ((x5_1).toNat * 10)) 8 (.int .i64 ((rd_T46 l0 x5_1).f4.f2.f2)) ∧ cA w' (ad234.add ((x5_1).toNat * 10)) 9 (.int .u32 ((rd_T46 l0 x5_1).f4.f2.f3)) ∧ w'.cell? (ad235.add ((x5_1).toNat * 10)) = some (.int .i64 ((rd_T46 l1 x5_1).f0)) ∧ cA w' (ad235.add ((x5_1).toNat * 10)) 1 (.int .i64 ((rd_T46 l1 x5_1).f1)) ∧ cA w' (ad235.add ((x5_1).toNat * 10)) 2 (.int .i64 ((rd_T46 l1 x5_1).f2)) ∧ cA w' (ad235.add ((x5_1).toNat * 10)) 3 (.string ((rd_T46 l1 x5_1).f3)) ∧ cA w' (ad235.add ((x5_1).toNat * 10)) 4 (.bool ((rd_T46 l1 x5_1).f4.f0)) ∧ cA w' (ad235.add ((x5_1).toNat * 10)) 5 (.slice A235_5 ((rd_T46 l1 x5_1).f4.f1).length c235_5) ∧ cA w' (ad235.add ((x5_1).toNat * 10)) 6 (.int .i64 ((rd_T46 l1 x5_1).f4.f2.f0)) ∧ cA w' (ad235.add ((x5_1).toNat * 10)) 7 (.int .i64 ((rd_T46 l1 x5_1).f4.f2.f1)) ∧ cA w' (ad235.add ((x5_1).toNat * 10)) 8 (.int .i64 ((rd_T46 l1 x5_1).f4.f2.f2)) ∧ cA w' (ad235.add ((x5_1).toNat * 10)) 9 (.int .u32 ((rd_T46 l1 x5_1).f4.f2.f3))) (ds := []) #[false, false, false, false, false, false, false, false, false, false, false, false, false, false, false, false, false, false, false, false, false, false, false, false, false, false, false, false, false, false, false, false, false, false, false, false, false, false, false, false, false, false, false, false, false, false, false, false, false, false, false, false, false, false, false, false, false, false, false, false, false, false, false, false] (by kernel_rfl) rfl rfl ⟨(cT HB.out hw234_0), (cT HB.out hw234_1), (cT HB.out hw234_2), (cT HB.out hw234_3), (cT HB.out hw234_4), (cT HB.out hw234_5), (cT HB.out hw234_6), (cT HB.out hw234_7), (cT HB.out hw234_8), (cT HB.out hw234_9), (cT HB.out hw235_0), (cT HB.out hw235_1), (cT HB.out hw235_2), (cT HB.out hw235_3), (cT HB.out hw235_4), (cT HB.out hw235_5), (cT HB.out hw235_6), (cT HB.out hw235_7), (cT HB.out hw235_8), (cT HB.out hw235_9)⟩ (fun hHeld => ?_); refine with_tabW garnerref06_Same.tab6 garnerref06_Same.bits6 (fun HT_ HW_ => ?_)
            generalize wr.drew = w15 at HB HR234_5 HR235_5 hx234_0 hx234_1 hx234_2 hx234_3 hx234_4 hx234_5 hx234_6 hx234_7 hx234_8 hx234_9 hx235_0 hx235_1 hx235_2 hx235_3 hx235_4 hx235_5 hx235_6 hx235_7 hx235_8 hx235_9 hHeld ⊢
            refine pu 0 (some 17) (bw 64 1) HT_.out (h := ?_)
            refine pu 1 (some 18) (bw 64 3) HT_.out (h := ?_)
            refine pu 2 (some 19) (bw 64 7) HT_.out (h := ?_)
            refine pu 3 (some 20) (bw 64 15) HT_.out (h := ?_)
            refine pu 5 (some 22) (bw 64 47) HT_.out (h := ?_)
            refine pu 6 (some 23) (bw 64 111) HT_.out (h := ?_)
            refine pu 7 (some 24) (bw 64 239) HT_.out (h := ?_)
            refine pu 8 (some 25) (bw 64 495) HT_.out (h := ?_)
            refine tk 4 (some 21) (bw 64 511) HT_.out HW_.out hHeld (h := ?_)
            refine tk 9 (some 26) (bw 64 1023) HT_.out HW_.out hHeld (h := ?_)
            refine pu 10 (some 27) (bw 64 2047) HT_.out (h := ?_)
            refine pu 11 (some 28) (bw 64 4095) HT_.out (h := ?_)
            refine pu 12 (some 29) (bw 64 8191) HT_.out (h := ?_)
            refine pu 13 (some 30) (bw 64 16383) HT_.out (h := ?_)
            refine pu 14 (some 31) (bw 64 32767) HT_.out (h := ?_)
            refine pu 15 (some 32) (bw 64 65535) HT_.out (h := ?_)
            refine pu 17 (some 34) (bw 64 196607) HT_.out (h := ?_)
            refine pu 18 (some 35) (bw 64 458751) HT_.out (h := ?_)
            refine pu 19 (some 36) (bw 64 983039) HT_.out (h := ?_)
            refine pu 20 (some 37) (bw 64 2031615) HT_.out (h := ?_)
            refine tk 16 (some 33) (bw 64 2097151) HT_.out HW_.out hHeld (h := ?_)
            refine tk 21 (some 38) (bw 64 4194303) HT_.out HW_.out hHeld (h := ?_)
            refine pu 22 (some 39) (bw 64 8388607) HT_.out (h := ?_)
            refine pu 23 (some 40) (bw 64 16777215) HT_.out (h := ?_)
            refine pu 24 (some 41) (bw 64 33554431) HT_.out (h := ?_)
            refine pu 25 (some 42) (bw 64 67108863) HT_.out (h := ?_)
            refine pu 26 (some 43) (bw 64 134217727) HT_.out (h := ?_)
            refine pu 27 (some 44) (bw 64 268435455) HT_.out (h := ?_)
            refine pu 28 (some 45) (bw 64 536870911) HT_.out (h := ?_)
            refine pu 30 (some 47) (bw 64 1610612735) HT_.out (h := ?_)
            refine pu 31 (some 48) (bw 64 3758096383) HT_.out (h := ?_)
            refine pu 32 (some 49) (bw 64 8053063679) HT_.out (h := ?_)
            refine pu 33 (some 50) (bw 64 16642998271) HT_.out (h := ?_)
            refine tk 29 (some 46) (bw 64 17179869183) HT_.out HW_.out hHeld (h := ?_)
            refine tk 34 (some 51) (bw 64 34359738367) HT_.out HW_.out hHeld (h := ?_)
            refine pu 35 (some 52) (bw 64 68719476735) HT_.out (h := ?_)
            refine pu 36 (some 53) (bw 64 137438953471) HT_.out (h := ?_)
            refine pu 37 (some 54) (bw 64 274877906943) HT_.out (h := ?_)
            refine pu 38 (some 55) (bw 64 549755813887) HT_.out (h := ?_)
            refine pu 39 (some 56) (bw 64 1099511627775) HT_.out (h := ?_)
            refine pu 40 (some 57) (bw 64 2199023255551) HT_.out (h := ?_)
            refine pu 41 (some 58) (bw 64 4398046511103) HT_.out (h := ?_)
            refine pu 43 (some 60) (bw 64 13194139533311) HT_.out (h := ?_)
            refine pu 44 (some 61) (bw 64 30786325577727) HT_.out (h := ?_)
            refine pu 45 (some 62) (bw 64 65970697666559) HT_.out (h := ?_)
            refine pu 46 (some 63) (bw 64 136339441844223) HT_.out (h := ?_)
            refine tk 42 (some 59) (bw 64 140737488355327) HT_.out HW_.out hHeld (h := ?_)
            refine tk 47 (some 64) (bw 64 281474976710655) HT_.out HW_.out hHeld (h := ?_)
            refine pu 48 (some 65) (bw 64 562949953421311) HT_.out (h := ?_)
            refine pu 49 (some 66) (bw 64 1125899906842623) HT_.out (h := ?_)
            refine pu 50 (some 67) (bw 64 2251799813685247) HT_.out (h := ?_)
            refine pu 51 (some 68) (bw 64 4503599627370495) HT_.out (h := ?_)
            refine pu 52 (some 69) (bw 64 9007199254740991) HT_.out (h := ?_)
            refine pu 53 (some 70) (bw 64 18014398509481983) HT_.out (h := ?_)
            refine pu 54 (some 71) (bw 64 36028797018963967) HT_.out (h := ?_)
            refine pu 56 (some 73) (bw 64 108086391056891903) HT_.out (h := ?_)
            refine pu 57 (some 74) (bw 64 252201579132747775) HT_.out (h := ?_)
            refine pu 58 (some 75) (bw 64 540431955284459519) HT_.out (h := ?_)
            refine pu 59 (some 76) (bw 64 1116892707587883007) HT_.out (h := ?_)
            refine tk 55 (some 72) (bw 64 1152921504606846975) HT_.out HW_.out hHeld (h := ?_)
            refine tk 60 (some 77) (bw 64 2305843009213693951) HT_.out HW_.out hHeld (h := ?_)
            refine one_ (i := 61) (N := some 78) (bw 64 4611686018427387903) rfl rfl (one_of HT_.out (by kernel_rfl)) (by decide) (fun K hK => ?_)
            refine goes_ Try.func30 (by kernel_rfl) rfl #[.agg #[.bool ((rd_T46 l0 x5_1).f4.f0), .slice A234_5 ((rd_T46 l0 x5_1).f4.f1).length c234_5, .int .i64 ((rd_T46 l0 x5_1).f4.f2.f0), .int .i64 ((rd_T46 l0 x5_1).f4.f2.f1), .int .i64 ((rd_T46 l0 x5_1).f4.f2.f2), .int .u32 ((rd_T46 l0 x5_1).f4.f2.f3)], .agg #[.bool ((rd_T46 l1 x5_1).f4.f0), .slice A235_5 ((rd_T46 l1 x5_1).f4.f1).length c235_5, .int .i64 ((rd_T46 l1 x5_1).f4.f2.f0), .int .i64 ((rd_T46 l1 x5_1).f4.f2.f1), .int .i64 ((rd_T46 l1 x5_1).f4.f2.f2), .int .u32 ((rd_T46 l1 x5_1).f4.f2.f3)]] (by rfl) rfl rfl pL ?_
            with_reducible refine (garnerref05_Same.calls k1 ((rd_T46 l0 x5_1).f4.f0) _ _ ((rd_T46 l0 x5_1).f4.f1) ((rd_T46 l0 x5_1).f4.f2.f0) ((rd_T46 l0 x5_1).f4.f2.f1) ((rd_T46 l0 x5_1).f4.f2.f2) ((rd_T46 l0 x5_1).f4.f2.f3) ((rd_T46 l1 x5_1).f4.f0) _ _ ((rd_T46 l1 x5_1).f4.f1) ((rd_T46 l1 x5_1).f4.f2.f0) ((rd_T46 l1 x5_1).f4.f2.f1) ((rd_T46 l1 x5_1).f4.f2.f2) ((rd_T46 l1 x5_1).f4.f2.f3) false _ ?side1 ?side2 ?side3 ?side4 A11.out).mono ?_
            (case side1 => exact pC (Kd.C_below HR234_5.out HB.out))
            (case side2 => exact HC234_5.out)
            (case side3 => exact pC (Kd.C_below HR235_5.out HB.out))
            (case side4 => exact HC235_5.out)
            rintro e w16 ⟨rfl, hb⟩
            refine ⟨_, rfl, ?_⟩
            have n0_ := Aside0.mk (below_step (pB HB.out) hb)
            clear HB
            have HB := n0_
            clear n0_
            (try clear hb)
            (try clear hb2)
            (try clear hk)
            (try clear hi)
            refine hK.out _ _ ⟨(cT HB.out hw234_0), (cT HB.out hw234_1), (cT HB.out hw234_2), (cT HB.out hw234_3), (cT HB.out hw234_4), (cT HB.out hw234_5), (cT HB.out hw234_6), (cT HB.out hw234_7), (cT HB.out hw234_8), (cT HB.out hw234_9), (cT HB.out hw235_0), (cT HB.out hw235_1), (cT HB.out hw235_2), (cT HB.out hw235_3), (cT HB.out hw235_4), (cT HB.out hw235_5), (cT HB.out hw235_6), (cT HB.out hw235_7), (cT HB.out hw235_8), (cT HB.out hw235_9)⟩ (fun hHeld => ?_)
            clear hK K
            refine norm_ (a' := ?_) ?_ ?_
            rotate_left
            ·show Act.put _ (some 78) _ = _
             simp only [Act.put, List.setIfInBounds_toArray, List.set_cons_zero, List.set_cons_succ, i64_w, i32_w]
             rfl
            refine pu 62 (some 79) (bw 64 9223372036854775807) HT_.out (h := ?_)
            refine pu 63 (some 80) (bw 64 18446744073709551615) HT_.out (h := ?_)
            refine done_ (done_of HT_.out (by kernel_rfl)) ?_
            try go_wp2
            go_ret
            exact ⟨pX, pB HB.out⟩
          ·rw [if_neg c10] at H
           have c10b0 : (((rd_T46 l0 x5_1).f3).toList == ((rd_T46 l1 x5_1).f3).toList) = false := beq_eq_false_iff_ne.mpr c10
           have c10b1 : (((rd_T46 l0 x5_1).f3).toList != ((rd_T46 l1 x5_1).f3).toList) = true := bne_iff_ne.mpr c10
           obtain rfl := Option.some.inj H
           try go_wp2
           have n0_ := Aside0.mk (below_drew1 HB.out)
           clear HB
           have HB := n0_
           clear n0_
           have p234 : 0 ≤ (x5_1 : Int) := of_decide_eq_true pS
           have q234 : x5_1 < (l0.length : Int) := of_decide_eq_true pS
           obtain ⟨ad234, A234_5, c234_5, e234, hx234_0, hx234_1, hx234_2, hx234_3, hx234_4, hx234_5, hx234_6, hx234_7, hx234_8, hx234_9, hl234_5, hi234_5⟩ := at_T46 HR0.out x5_1 p234 q234
           have hw234_9 := hx234_9
           have hw234_8 := hx234_8
           have hw234_7 := hx234_7
           have hw234_6 := hx234_6
           have hw234_5 := hx234_5
           have hw234_4 := hx234_4
           have hw234_3 := hx234_3
           have hw234_2 := hx234_2
           have hw234_1 := hx234_1
           have hw234_0 := hx234_0
           cases e234
           replace hx234_0 := cU HB.out hx234_0
           replace hx234_1 := cU HB.out hx234_1
           replace hx234_2 := cU HB.out hx234_2
           replace hx234_3 := cU HB.out hx234_3
           replace hx234_4 := cU HB.out hx234_4
           replace hx234_5 := cU HB.out hx234_5
           replace hx234_6 := cU HB.out hx234_6
           replace hx234_7 := cU HB.out hx234_7
           replace hx234_8 := cU HB.out hx234_8
           replace hx234_9 := cU HB.out hx234_9
           have HR234_5 := Aside0.mk hi234_5
           have HC234_5 := Aside0.mk hl234_5
           clear hi234_5 hl234_5
           replace p234 := eq_true p234
           replace q234 := eq_true q234
           have p235 : 0 ≤ (x5_1 : Int) := of_decide_eq_true pS
           have q235 : x5_1 < (l1.length : Int) := of_decide_eq_true pS
           obtain ⟨ad235, A235_5, c235_5, e235, hx235_0, hx235_1, hx235_2, hx235_3, hx235_4, hx235_5, hx235_6, hx235_7, hx235_8, hx235_9, hl235_5, hi235_5⟩ := at_T46 HR1.out x5_1 p235 q235
           have hw235_9 := hx235_9
           have hw235_8 := hx235_8
           have hw235_7 := hx235_7
           have hw235_6 := hx235_6
           have hw235_5 := hx235_5
           have hw235_4 := hx235_4
           have hw235_3 := hx235_3
           have hw235_2 := hx235_2
           have hw235_1 := hx235_1
           have hw235_0 := hx235_0
           cases e235
           replace hx235_0 := cU HB.out hx235_0
           replace hx235_1 := cU HB.out hx235_1
           replace hx235_2 := cU HB.out hx235_2
           replace hx235_3 := cU HB.out hx235_3
           replace hx235_4 := cU HB.out hx235_4
           replace hx235_5 := cU HB.out hx235_5
           replace hx235_6 := cU HB.out hx235_6
           replace hx235_7 := cU HB.out hx235_7
           replace hx235_8 := cU HB.out hx235_8
           replace hx235_9 := cU HB.out hx235_9
           have HR235_5 := Aside0.mk hi235_5
           have HC235_5 := Aside0.mk hl235_5
           clear hi235_5 hl235_5
           replace p235 := eq_true p235
           replace q235 := eq_true q235
           refine start_ (n := 64) (S := fun w' => w'.cell? (ad234.add ((x5_1).toNat * 10)) = some (.int .i64 ((rd_T46 l0 x5_1).f0)) ∧ cA w' (ad234.add ((x5_1).toNat * 10)) 1 (.int .i64 ((rd_T46 l0 x5_1).f1)) ∧ cA w' (ad234.add ((x5_1).toNat * 10)) 2 (.int .i64 ((rd_T46 l0 x5_1).f2)) ∧ cA w' (ad234.add ((x5_1).toNat * 10)) 3 (.string ((rd_T46 l0 x5_1).f3)) ∧ cA w' (ad234.add ((x5_1).toNat * 10)) 4 (.bool ((rd_T46 l0 x5_1).f4.f0)) ∧ cA w' (ad234.add ((x5_1).toNat * 10)) 5 (.slice A234_5 ((rd_T46 l0 x5_1).f4.f1).length c234_5) ∧ cA w' (ad234.add ((x5_1).toNat * 10)) 6 (.int .i64 ((rd_T46 l0 x5_1).f4.f2.f0)) ∧ cA w' (ad234.add ((x5_1).toNat * 10)) 7 (.int .i64 ((rd_T46 l0 x5_1).f4.f2.f1)) ∧ cA w' (ad234.add ((x5_1).toNat * 10)) 8 (.int .i64 ((rd_T46 l0 x5_1).f4.f2.f2)) ∧ cA w' (ad234.add ((x5_1).toNat * 10)) 9 (.int .u32 ((rd_T46 l0 x5_1).f4.f2.f3)) ∧ w'.cell? (ad235.add ((x5_1).toNat * 10)) = some (.int .i64 ((rd_T46 l1 x5_1).f0)) ∧ cA w' (ad235.add ((x5_1).toNat * 10)) 1 (.int .i64 ((rd_T46 l1 x5_1).f1)) ∧ cA w' (ad235.add ((x5_1).toNat * 10)) 2 (.int .i64 ((rd_T46 l1 x5_1).f2)) ∧ cA w' (ad235.add ((x5_1).toNat * 10)) 3 (.string ((rd_T46 l1 x5_1).f3)) ∧ cA w' (ad235.add ((x5_1).toNat * 10)) 4 (.bool ((rd_T46 l1 x5_1).f4.f0)) ∧ cA w' (ad235.add ((x5_1).toNat * 10)) 5 (.slice A235_5 ((rd_T46 l1 x5_1).f4.f1).length c235_5) ∧ cA w' (ad235.add ((x5_1).toNat * 10)) 6 (.int .i64 ((rd_T46 l1 x5_1).f4.f2.f0)) ∧ cA w' (ad235.add ((x5_1).toNat * 10)) 7 (.int .i64 ((rd_T46 l1 x5_1).f4.f2.f1)) ∧ cA w' (ad235.add ((x5_1).toNat * 10)) 8 (.int .i64 ((rd_T46 l1 x5_1).f4.f2.f2)) ∧ cA w' (ad235.add ((x5_1).toNat * 10)) 9 (.int .u32 ((rd_T46 l1 x5_1).f4.f2.f3))) (ds := []) #[false, false, false, false, false, false, false, false, false, false, false, false, false, false, false, false, false, false, false, false, false, false, false, false, false, false, false, false, false, false, false, false, false, false, false, false, false, false, false, false, false, false, false, false, false, false, false, false, false, false, false, false, false, false, false, false, false, false, false, false, false, false, false, false] (by kernel_rfl) rfl rfl ⟨(cT HB.out hw234_0), (cT HB.out hw234_1), (cT HB.out hw234_2), (cT HB.out hw234_3), (cT HB.out hw234_4), (cT HB.out hw234_5), (cT HB.out hw234_6), (cT HB.out hw234_7), (cT HB.out hw234_8), (cT HB.out hw234_9), (cT HB.out hw235_0), (cT HB.out hw235_1), (cT HB.out hw235_2), (cT HB.out hw235_3), (cT HB.out hw235_4), (cT HB.out hw235_5), (cT HB.out hw235_6), (cT HB.out hw235_7), (cT HB.out hw235_8), (cT HB.out hw235_9)⟩ (fun hHeld => ?_); refine with_tabW garnerref06_Same.tab6 garnerref06_Same.bits6 (fun HT_ HW_ => ?_)
           generalize wr.drew = w17 at HB HR234_5 HR235_5 hx234_0 hx234_1 hx234_2 hx234_3 hx234_4 hx234_5 hx234_6 hx234_7 hx234_8 hx234_9 hx235_0 hx235_1 hx235_2 hx235_3 hx235_4 hx235_5 hx235_6 hx235_7 hx235_8 hx235_9 hHeld ⊢
           refine pu 0 (some 17) (bw 64 1) HT_.out (h := ?_)
           refine pu 1 (some 18) (bw 64 3) HT_.out (h := ?_)
           refine pu 2 (some 19) (bw 64 7) HT_.out (h := ?_)
           refine pu 3 (some 20) (bw 64 15) HT_.out (h := ?_)
           refine pu 5 (some 22) (bw 64 47) HT_.out (h := ?_)
           refine pu 6 (some 23) (bw 64 111) HT_.out (h := ?_)
           refine pu 7 (some 24) (bw 64 239) HT_.out (h := ?_)
           refine pu 8 (some 25) (bw 64 495) HT_.out (h := ?_)
           refine tk 4 (some 21) (bw 64 511) HT_.out HW_.out hHeld (h := ?_)
           refine tk 9 (some 26) (bw 64 1023) HT_.out HW_.out hHeld (h := ?_)
           refine pu 10 (some 27) (bw 64 2047) HT_.out (h := ?_)
           refine pu 11 (some 28) (bw 64 4095) HT_.out (h := ?_)
           refine pu 12 (some 29) (bw 64 8191) HT_.out (h := ?_)
           refine pu 13 (some 30) (bw 64 16383) HT_.out (h := ?_)
           refine pu 14 (some 31) (bw 64 32767) HT_.out (h := ?_)
           refine pu 15 (some 32) (bw 64 65535) HT_.out (h := ?_)
           refine pu 17 (some 34) (bw 64 196607) HT_.out (h := ?_)
           refine pu 18 (some 35) (bw 64 458751) HT_.out (h := ?_)
           refine pu 19 (some 36) (bw 64 983039) HT_.out (h := ?_)
           refine pu 20 (some 37) (bw 64 2031615) HT_.out (h := ?_)
           refine tk 16 (some 33) (bw 64 2097151) HT_.out HW_.out hHeld (h := ?_)
           refine tk 21 (some 38) (bw 64 4194303) HT_.out HW_.out hHeld (h := ?_)
           refine pu 22 (some 39) (bw 64 8388607) HT_.out (h := ?_)
           refine pu 23 (some 40) (bw 64 16777215) HT_.out (h := ?_)
           refine pu 24 (some 41) (bw 64 33554431) HT_.out (h := ?_)
           refine pu 25 (some 42) (bw 64 67108863) HT_.out (h := ?_)
           refine pu 26 (some 43) (bw 64 134217727) HT_.out (h := ?_)
           refine pu 27 (some 44) (bw 64 268435455) HT_.out (h := ?_)
           refine pu 28 (some 45) (bw 64 536870911) HT_.out (h := ?_)
           refine pu 30 (some 47) (bw 64 1610612735) HT_.out (h := ?_)
           refine pu 31 (some 48) (bw 64 3758096383) HT_.out (h := ?_)
           refine pu 32 (some 49) (bw 64 8053063679) HT_.out (h := ?_)
           refine pu 33 (some 50) (bw 64 16642998271) HT_.out (h := ?_)
           refine tk 29 (some 46) (bw 64 17179869183) HT_.out HW_.out hHeld (h := ?_)
           refine tk 34 (some 51) (bw 64 34359738367) HT_.out HW_.out hHeld (h := ?_)
           refine pu 35 (some 52) (bw 64 68719476735) HT_.out (h := ?_)
           refine pu 36 (some 53) (bw 64 137438953471) HT_.out (h := ?_)
           refine pu 37 (some 54) (bw 64 274877906943) HT_.out (h := ?_)
           refine pu 38 (some 55) (bw 64 549755813887) HT_.out (h := ?_)
           refine pu 39 (some 56) (bw 64 1099511627775) HT_.out (h := ?_)
           refine pu 40 (some 57) (bw 64 2199023255551) HT_.out (h := ?_)
           refine pu 41 (some 58) (bw 64 4398046511103) HT_.out (h := ?_)
           refine pu 43 (some 60) (bw 64 13194139533311) HT_.out (h := ?_)
           refine pu 44 (some 61) (bw 64 30786325577727) HT_.out (h := ?_)
           refine pu 45 (some 62) (bw 64 65970697666559) HT_.out (h := ?_)
           refine pu 46 (some 63) (bw 64 136339441844223) HT_.out (h := ?_)
           refine tk 42 (some 59) (bw 64 140737488355327) HT_.out HW_.out hHeld (h := ?_)
           refine tk 47 (some 64) (bw 64 281474976710655) HT_.out HW_.out hHeld (h := ?_)
           refine pu 48 (some 65) (bw 64 562949953421311) HT_.out (h := ?_)
           refine pu 49 (some 66) (bw 64 1125899906842623) HT_.out (h := ?_)
           refine pu 50 (some 67) (bw 64 2251799813685247) HT_.out (h := ?_)
           refine pd 51 (some 68) (bw 64 4503599627370495) HT_.out (h := ?_)
           refine pd 52 (some 69) (bw 64 9007199254740991) HT_.out (h := ?_)
           refine pd 53 (some 70) (bw 64 18014398509481983) HT_.out (h := ?_)
           refine pd 54 (some 71) (bw 64 36028797018963967) HT_.out (h := ?_)
           refine pd 55 (some 72) (bw 64 72057594037927935) HT_.out (h := ?_)
           refine pd 56 (some 73) (bw 64 144115188075855871) HT_.out (h := ?_)
           refine pd 57 (some 74) (bw 64 288230376151711743) HT_.out (h := ?_)
           refine pd 58 (some 75) (bw 64 576460752303423487) HT_.out (h := ?_)
           refine pd 59 (some 76) (bw 64 1152921504606846975) HT_.out (h := ?_)
           refine pd 60 (some 77) (bw 64 2305843009213693951) HT_.out (h := ?_)
           refine pd 61 (some 78) (bw 64 4611686018427387903) HT_.out (h := ?_)
           refine pd 62 (some 79) (bw 64 9223372036854775807) HT_.out (h := ?_)
           refine pu 63 (some 80) (bw 64 18446744073709551615) HT_.out (h := ?_)
           refine done_ (done_of HT_.out (by kernel_rfl)) ?_
           try go_wp2
           go_ret
           exact ⟨pX, pB HB.out⟩
         ·rw [if_neg c9] at H
          have c9b0 : (((rd_T46 l0 x5_1).f2) == ((rd_T46 l1 x5_1).f2)) = false := beq_eq_false_iff_ne.mpr c9
          have c9b1 : (((rd_T46 l0 x5_1).f2) != ((rd_T46 l1 x5_1).f2)) = true := bne_iff_ne.mpr c9
          obtain rfl := Option.some.inj H
          try go_wp2
          have n0_ := Aside0.mk (below_drew1 HB.out)
          clear HB
          have HB := n0_
          clear n0_
          have p234 : 0 ≤ (x5_1 : Int) := of_decide_eq_true pS
          have q234 : x5_1 < (l0.length : Int) := of_decide_eq_true pS
          obtain ⟨ad234, A234_5, c234_5, e234, hx234_0, hx234_1, hx234_2, hx234_3, hx234_4, hx234_5, hx234_6, hx234_7, hx234_8, hx234_9, hl234_5, hi234_5⟩ := at_T46 HR0.out x5_1 p234 q234
          have hw234_9 := hx234_9
          have hw234_8 := hx234_8
          have hw234_7 := hx234_7
          have hw234_6 := hx234_6
          have hw234_5 := hx234_5
          have hw234_4 := hx234_4
          have hw234_3 := hx234_3
          have hw234_2 := hx234_2
          have hw234_1 := hx234_1
          have hw234_0 := hx234_0
          cases e234
          replace hx234_0 := cU HB.out hx234_0
          replace hx234_1 := cU HB.out hx234_1
          replace hx234_2 := cU HB.out hx234_2
          replace hx234_3 := cU HB.out hx234_3
          replace hx234_4 := cU HB.out hx234_4
          replace hx234_5 := cU HB.out hx234_5
          replace hx234_6 := cU HB.out hx234_6
          replace hx234_7 := cU HB.out hx234_7
          replace hx234_8 := cU HB.out hx234_8
          replace hx234_9 := cU HB.out hx234_9
          have HR234_5 := Aside0.mk hi234_5
          have HC234_5 := Aside0.mk hl234_5
          clear hi234_5 hl234_5
          replace p234 := eq_true p234
          replace q234 := eq_true q234
          have p235 : 0 ≤ (x5_1 : Int) := of_decide_eq_true pS
          have q235 : x5_1 < (l1.length : Int) := of_decide_eq_true pS
          obtain ⟨ad235, A235_5, c235_5, e235, hx235_0, hx235_1, hx235_2, hx235_3, hx235_4, hx235_5, hx235_6, hx235_7, hx235_8, hx235_9, hl235_5, hi235_5⟩ := at_T46 HR1.out x5_1 p235 q235
          have hw235_9 := hx235_9
          have hw235_8 := hx235_8
          have hw235_7 := hx235_7
          have hw235_6 := hx235_6
          have hw235_5 := hx235_5
          have hw235_4 := hx235_4
          have hw235_3 := hx235_3
          have hw235_2 := hx235_2
          have hw235_1 := hx235_1
          have hw235_0 := hx235_0
          cases e235
          replace hx235_0 := cU HB.out hx235_0
          replace hx235_1 := cU HB.out hx235_1
          replace hx235_2 := cU HB.out hx235_2
          replace hx235_3 := cU HB.out hx235_3
          replace hx235_4 := cU HB.out hx235_4
          replace hx235_5 := cU HB.out hx235_5
          replace hx235_6 := cU HB.out hx235_6
          replace hx235_7 := cU HB.out hx235_7
          replace hx235_8 := cU HB.out hx235_8
          replace hx235_9 := cU HB.out hx235_9
          have HR235_5 := Aside0.mk hi235_5
          have HC235_5 := Aside0.mk hl235_5
          clear hi235_5 hl235_5
          replace p235 := eq_true p235
          replace q235 := eq_true q235
          refine start_ (n := 64) (S := fun w' => w'.cell? (ad234.add ((x5_1).toNat * 10)) = some (.int .i64 ((rd_T46 l0 x5_1).f0)) ∧ cA w' (ad234.add ((x5_1).toNat * 10)) 1 (.int .i64 ((rd_T46 l0 x5_1).f1)) ∧ cA w' (ad234.add ((x5_1).toNat * 10)) 2 (.int .i64 ((rd_T46 l0 x5_1).f2)) ∧ cA w' (ad234.add ((x5_1).toNat * 10)) 3 (.string ((rd_T46 l0 x5_1).f3)) ∧ cA w' (ad234.add ((x5_1).toNat * 10)) 4 (.bool ((rd_T46 l0 x5_1).f4.f0)) ∧ cA w' (ad234.add ((x5_1).toNat * 10)) 5 (.slice A234_5 ((rd_T46 l0 x5_1).f4.f1).length c234_5) ∧ cA w' (ad234.add ((x5_1).toNat * 10)) 6 (.int .i64 ((rd_T46 l0 x5_1).f4.f2.f0)) ∧ cA w' (ad234.add ((x5_1).toNat * 10)) 7 (.int .i64 ((rd_T46 l0 x5_1).f4.f2.f1)) ∧ cA w' (ad234.add ((x5_1).toNat * 10)) 8 (.int .i64 ((rd_T46 l0 x5_1).f4.f2.f2)) ∧ cA w' (ad234.add ((x5_1).toNat * 10)) 9 (.int .u32 ((rd_T46 l0 x5_1).f4.f2.f3)) ∧ w'.cell? (ad235.add ((x5_1).toNat * 10)) = some (.int .i64 ((rd_T46 l1 x5_1).f0)) ∧ cA w' (ad235.add ((x5_1).toNat * 10)) 1 (.int .i64 ((rd_T46 l1 x5_1).f1)) ∧ cA w' (ad235.add ((x5_1).toNat * 10)) 2 (.int .i64 ((rd_T46 l1 x5_1).f2)) ∧ cA w' (ad235.add ((x5_1).toNat * 10)) 3 (.string ((rd_T46 l1 x5_1).f3)) ∧ cA w' (ad235.add ((x5_1).toNat * 10)) 4 (.bool ((rd_T46 l1 x5_1).f4.f0)) ∧ cA w' (ad235.add ((x5_1).toNat * 10)) 5 (.slice A235_5 ((rd_T46 l1 x5_1).f4.f1).length c235_5) ∧ cA w' (ad235.add ((x5_1).toNat * 10)) 6 (.int .i64 ((rd_T46 l1 x5_1).f4.f2.f0)) ∧ cA w' (ad235.add ((x5_1).toNat * 10)) 7 (.int .i64 ((rd_T46 l1 x5_1).f4.f2.f1)) ∧ cA w' (ad235.add ((x5_1).toNat * 10)) 8 (.int .i64 ((rd_T46 l1 x5_1).f4.f2.f2)) ∧ cA w' (ad235.add ((x5_1).toNat * 10)) 9 (.int .u32 ((rd_T46 l1 x5_1).f4.f2.f3))) (ds := []) #[false, false, false, false, false, false, false, false, false, false, false, false, false, false, false, false, false, false, false, false, false, false, false, false, false, false, false, false, false, false, false, false, false, false, false, false, false, false, false, false, false, false, false, false, false, false, false, false, false, false, false, false, false, false, false, false, false, false, false, false, false, false, false, false] (by kernel_rfl) rfl rfl ⟨(cT HB.out hw234_0), (cT HB.out hw234_1), (cT HB.out hw234_2), (cT HB.out hw234_3), (cT HB.out hw234_4), (cT HB.out hw234_5), (cT HB.out hw234_6), (cT HB.out hw234_7), (cT HB.out hw234_8), (cT HB.out hw234_9), (cT HB.out hw235_0), (cT HB.out hw235_1), (cT HB.out hw235_2), (cT HB.out hw235_3), (cT HB.out hw235_4), (cT HB.out hw235_5), (cT HB.out hw235_6), (cT HB.out hw235_7), (cT HB.out hw235_8), (cT HB.out hw235_9)⟩ (fun hHeld => ?_); refine with_tabW garnerref06_Same.tab6 garnerref06_Same.bits6 (fun HT_ HW_ => ?_)
          generalize wr.drew = w18 at HB HR234_5 HR235_5 hx234_0 hx234_1 hx234_2 hx234_3 hx234_4 hx234_5 hx234_6 hx234_7 hx234_8 hx234_9 hx235_0 hx235_1 hx235_2 hx235_3 hx235_4 hx235_5 hx235_6 hx235_7 hx235_8 hx235_9 hHeld ⊢
          refine pu 0 (some 17) (bw 64 1) HT_.out (h := ?_)
          refine pu 1 (some 18) (bw 64 3) HT_.out (h := ?_)
          refine pu 2 (some 19) (bw 64 7) HT_.out (h := ?_)
          refine pu 3 (some 20) (bw 64 15) HT_.out (h := ?_)
          refine pu 5 (some 22) (bw 64 47) HT_.out (h := ?_)
          refine pu 6 (some 23) (bw 64 111) HT_.out (h := ?_)
          refine pu 7 (some 24) (bw 64 239) HT_.out (h := ?_)
          refine pu 8 (some 25) (bw 64 495) HT_.out (h := ?_)
          refine tk 4 (some 21) (bw 64 511) HT_.out HW_.out hHeld (h := ?_)
          refine tk 9 (some 26) (bw 64 1023) HT_.out HW_.out hHeld (h := ?_)
          refine pu 10 (some 27) (bw 64 2047) HT_.out (h := ?_)
          refine pu 11 (some 28) (bw 64 4095) HT_.out (h := ?_)
          refine pu 12 (some 29) (bw 64 8191) HT_.out (h := ?_)
          refine pu 13 (some 30) (bw 64 16383) HT_.out (h := ?_)
          refine pu 14 (some 31) (bw 64 32767) HT_.out (h := ?_)
          refine pu 15 (some 32) (bw 64 65535) HT_.out (h := ?_)
          refine pu 17 (some 34) (bw 64 196607) HT_.out (h := ?_)
          refine pu 18 (some 35) (bw 64 458751) HT_.out (h := ?_)
          refine pu 19 (some 36) (bw 64 983039) HT_.out (h := ?_)
          refine pu 20 (some 37) (bw 64 2031615) HT_.out (h := ?_)
          refine tk 16 (some 33) (bw 64 2097151) HT_.out HW_.out hHeld (h := ?_)
          refine tk 21 (some 38) (bw 64 4194303) HT_.out HW_.out hHeld (h := ?_)
          refine pu 22 (some 39) (bw 64 8388607) HT_.out (h := ?_)
          refine pu 23 (some 40) (bw 64 16777215) HT_.out (h := ?_)
          refine pu 24 (some 41) (bw 64 33554431) HT_.out (h := ?_)
          refine pu 25 (some 42) (bw 64 67108863) HT_.out (h := ?_)
          refine pu 26 (some 43) (bw 64 134217727) HT_.out (h := ?_)
          refine pu 27 (some 44) (bw 64 268435455) HT_.out (h := ?_)
          refine pu 28 (some 45) (bw 64 536870911) HT_.out (h := ?_)
          refine pu 30 (some 47) (bw 64 1610612735) HT_.out (h := ?_)
          refine pu 31 (some 48) (bw 64 3758096383) HT_.out (h := ?_)
          refine pu 32 (some 49) (bw 64 8053063679) HT_.out (h := ?_)
          refine pu 33 (some 50) (bw 64 16642998271) HT_.out (h := ?_)
          refine tk 29 (some 46) (bw 64 17179869183) HT_.out HW_.out hHeld (h := ?_)
          refine tk 34 (some 51) (bw 64 34359738367) HT_.out HW_.out hHeld (h := ?_)
          refine pu 35 (some 52) (bw 64 68719476735) HT_.out (h := ?_)
          refine pu 36 (some 53) (bw 64 137438953471) HT_.out (h := ?_)
          refine pu 37 (some 54) (bw 64 274877906943) HT_.out (h := ?_)
          refine pd 38 (some 55) (bw 64 549755813887) HT_.out (h := ?_)
          refine pd 39 (some 56) (bw 64 1099511627775) HT_.out (h := ?_)
          refine pd 40 (some 57) (bw 64 2199023255551) HT_.out (h := ?_)
          refine pd 41 (some 58) (bw 64 4398046511103) HT_.out (h := ?_)
          refine pd 42 (some 59) (bw 64 8796093022207) HT_.out (h := ?_)
          refine pd 43 (some 60) (bw 64 17592186044415) HT_.out (h := ?_)
          refine pd 44 (some 61) (bw 64 35184372088831) HT_.out (h := ?_)
          refine pd 45 (some 62) (bw 64 70368744177663) HT_.out (h := ?_)
          refine pd 46 (some 63) (bw 64 140737488355327) HT_.out (h := ?_)
          refine pd 47 (some 64) (bw 64 281474976710655) HT_.out (h := ?_)
          refine pd 48 (some 65) (bw 64 562949953421311) HT_.out (h := ?_)
          refine pu 49 (some 66) (bw 64 1125899906842623) HT_.out (h := ?_)
          refine pu 50 (some 67) (bw 64 2251799813685247) HT_.out (h := ?_)
          refine pd 51 (some 68) (bw 64 4503599627370495) HT_.out (h := ?_)
          refine pd 52 (some 69) (bw 64 9007199254740991) HT_.out (h := ?_)
          refine pd 53 (some 70) (bw 64 18014398509481983) HT_.out (h := ?_)
          refine pd 54 (some 71) (bw 64 36028797018963967) HT_.out (h := ?_)
          refine pd 55 (some 72) (bw 64 72057594037927935) HT_.out (h := ?_)
          refine pd 56 (some 73) (bw 64 144115188075855871) HT_.out (h := ?_)
          refine pd 57 (some 74) (bw 64 288230376151711743) HT_.out (h := ?_)
          refine pd 58 (some 75) (bw 64 576460752303423487) HT_.out (h := ?_)
          refine pd 59 (some 76) (bw 64 1152921504606846975) HT_.out (h := ?_)
          refine pd 60 (some 77) (bw 64 2305843009213693951) HT_.out (h := ?_)
          refine pd 61 (some 78) (bw 64 4611686018427387903) HT_.out (h := ?_)
          refine pd 62 (some 79) (bw 64 9223372036854775807) HT_.out (h := ?_)
          refine pu 63 (some 80) (bw 64 18446744073709551615) HT_.out (h := ?_)
          refine done_ (done_of HT_.out (by kernel_rfl)) ?_
          try go_wp2
          go_ret
          exact ⟨pX, pB HB.out⟩
        ·rw [if_neg c8] at H
         have c8b0 : (((rd_T46 l0 x5_1).f1) == ((rd_T46 l1 x5_1).f1)) = false := beq_eq_false_iff_ne.mpr c8
         have c8b1 : (((rd_T46 l0 x5_1).f1) != ((rd_T46 l1 x5_1).f1)) = true := bne_iff_ne.mpr c8
         obtain rfl := Option.some.inj H
         try go_wp2
         have n0_ := Aside0.mk (below_drew1 HB.out)
         clear HB
         have HB := n0_
         clear n0_
         have p234 : 0 ≤ (x5_1 : Int) := of_decide_eq_true pS
         have q234 : x5_1 < (l0.length : Int) := of_decide_eq_true pS
         obtain ⟨ad234, A234_5, c234_5, e234, hx234_0, hx234_1, hx234_2, hx234_3, hx234_4, hx234_5, hx234_6, hx234_7, hx234_8, hx234_9, hl234_5, hi234_5⟩ := at_T46 HR0.out x5_1 p234 q234
         have hw234_9 := hx234_9
         have hw234_8 := hx234_8
         have hw234_7 := hx234_7
         have hw234_6 := hx234_6
         have hw234_5 := hx234_5
         have hw234_4 := hx234_4
         have hw234_3 := hx234_3
         have hw234_2 := hx234_2
         have hw234_1 := hx234_1
         have hw234_0 := hx234_0
         cases e234
         replace hx234_0 := cU HB.out hx234_0
         replace hx234_1 := cU HB.out hx234_1
         replace hx234_2 := cU HB.out hx234_2
         replace hx234_3 := cU HB.out hx234_3
         replace hx234_4 := cU HB.out hx234_4
         replace hx234_5 := cU HB.out hx234_5
         replace hx234_6 := cU HB.out hx234_6
         replace hx234_7 := cU HB.out hx234_7
         replace hx234_8 := cU HB.out hx234_8
         replace hx234_9 := cU HB.out hx234_9
         have HR234_5 := Aside0.mk hi234_5
         have HC234_5 := Aside0.mk hl234_5
         clear hi234_5 hl234_5
         replace p234 := eq_true p234
         replace q234 := eq_true q234
         have p235 : 0 ≤ (x5_1 : Int) := of_decide_eq_true pS
         have q235 : x5_1 < (l1.length : Int) := of_decide_eq_true pS
         obtain ⟨ad235, A235_5, c235_5, e235, hx235_0, hx235_1, hx235_2, hx235_3, hx235_4, hx235_5, hx235_6, hx235_7, hx235_8, hx235_9, hl235_5, hi235_5⟩ := at_T46 HR1.out x5_1 p235 q235
         have hw235_9 := hx235_9
         have hw235_8 := hx235_8
         have hw235_7 := hx235_7
         have hw235_6 := hx235_6
         have hw235_5 := hx235_5
         have hw235_4 := hx235_4
         have hw235_3 := hx235_3
         have hw235_2 := hx235_2
         have hw235_1 := hx235_1
         have hw235_0 := hx235_0
         cases e235
         replace hx235_0 := cU HB.out hx235_0
         replace hx235_1 := cU HB.out hx235_1
         replace hx235_2 := cU HB.out hx235_2
         replace hx235_3 := cU HB.out hx235_3
         replace hx235_4 := cU HB.out hx235_4
         replace hx235_5 := cU HB.out hx235_5
         replace hx235_6 := cU HB.out hx235_6
         replace hx235_7 := cU HB.out hx235_7
         replace hx235_8 := cU HB.out hx235_8
         replace hx235_9 := cU HB.out hx235_9
         have HR235_5 := Aside0.mk hi235_5
         have HC235_5 := Aside0.mk hl235_5
         clear hi235_5 hl235_5
         replace p235 := eq_true p235
         replace q235 := eq_true q235
         refine start_ (n := 64) (S := fun w' => w'.cell? (ad234.add ((x5_1).toNat * 10)) = some (.int .i64 ((rd_T46 l0 x5_1).f0)) ∧ cA w' (ad234.add ((x5_1).toNat * 10)) 1 (.int .i64 ((rd_T46 l0 x5_1).f1)) ∧ cA w' (ad234.add ((x5_1).toNat * 10)) 2 (.int .i64 ((rd_T46 l0 x5_1).f2)) ∧ cA w' (ad234.add ((x5_1).toNat * 10)) 3 (.string ((rd_T46 l0 x5_1).f3)) ∧ cA w' (ad234.add ((x5_1).toNat * 10)) 4 (.bool ((rd_T46 l0 x5_1).f4.f0)) ∧ cA w' (ad234.add ((x5_1).toNat * 10)) 5 (.slice A234_5 ((rd_T46 l0 x5_1).f4.f1).length c234_5) ∧ cA w' (ad234.add ((x5_1).toNat * 10)) 6 (.int .i64 ((rd_T46 l0 x5_1).f4.f2.f0)) ∧ cA w' (ad234.add ((x5_1).toNat * 10)) 7 (.int .i64 ((rd_T46 l0 x5_1).f4.f2.f1)) ∧ cA w' (ad234.add ((x5_1).toNat * 10)) 8 (.int .i64 ((rd_T46 l0 x5_1).f4.f2.f2)) ∧ cA w' (ad234.add ((x5_1).toNat * 10)) 9 (.int .u32 ((rd_T46 l0 x5_1).f4.f2.f3)) ∧ w'.cell? (ad235.add ((x5_1).toNat * 10)) = some (.int .i64 ((rd_T46 l1 x5_1).f0)) ∧ cA w' (ad235.add ((x5_1).toNat * 10)) 1 (.int .i64 ((rd_T46 l1 x5_1).f1)) ∧ cA w' (ad235.add ((x5_1).toNat * 10)) 2 (.int .i64 ((rd_T46 l1 x5_1).f2)) ∧ cA w' (ad235.add ((x5_1).toNat * 10)) 3 (.string ((rd_T46 l1 x5_1).f3)) ∧ cA w' (ad235.add ((x5_1).toNat * 10)) 4 (.bool ((rd_T46 l1 x5_1).f4.f0)) ∧ cA w' (ad235.add ((x5_1).toNat * 10)) 5 (.slice A235_5 ((rd_T46 l1 x5_1).f4.f1).length c235_5) ∧ cA w' (ad235.add ((x5_1).toNat * 10)) 6 (.int .i64 ((rd_T46 l1 x5_1).f4.f2.f0)) ∧ cA w' (ad235.add ((x5_1).toNat * 10)) 7 (.int .i64 ((rd_T46 l1 x5_1).f4.f2.f1)) ∧ cA w' (ad235.add ((x5_1).toNat * 10)) 8 (.int .i64 ((rd_T46 l1 x5_1).f4.f2.f2)) ∧ cA w' (ad235.add ((x5_1).toNat * 10)) 9 (.int .u32 ((rd_T46 l1 x5_1).f4.f2.f3))) (ds := []) #[false, false, false, false, false, false, false, false, false, false, false, false, false, false, false, false, false, false, false, false, false, false, false, false, false, false, false, false, false, false, false, false, false, false, false, false, false, false, false, false, false, false, false, false, false, false, false, false, false, false, false, false, false, false, false, false, false, false, false, false, false, false, false, false] (by kernel_rfl) rfl rfl ⟨(cT HB.out hw234_0), (cT HB.out hw234_1), (cT HB.out hw234_2), (cT HB.out hw234_3), (cT HB.out hw234_4), (cT HB.out hw234_5), (cT HB.out hw234_6), (cT HB.out hw234_7), (cT HB.out hw234_8), (cT HB.out hw234_9), (cT HB.out hw235_0), (cT HB.out hw235_1), (cT HB.out hw235_2), (cT HB.out hw235_3), (cT HB.out hw235_4), (cT HB.out hw235_5), (cT HB.out hw235_6), (cT HB.out hw235_7), (cT HB.out hw235_8), (cT HB.out hw235_9)⟩ (fun hHeld => ?_); refine with_tabW garnerref06_Same.tab6 garnerref06_Same.bits6 (fun HT_ HW_ => ?_)
         generalize wr.drew = w19 at HB HR234_5 HR235_5 hx234_0 hx234_1 hx234_2 hx234_3 hx234_4 hx234_5 hx234_6 hx234_7 hx234_8 hx234_9 hx235_0 hx235_1 hx235_2 hx235_3 hx235_4 hx235_5 hx235_6 hx235_7 hx235_8 hx235_9 hHeld ⊢
         refine pu 0 (some 17) (bw 64 1) HT_.out (h := ?_)
         refine pu 1 (some 18) (bw 64 3) HT_.out (h := ?_)
         refine pu 2 (some 19) (bw 64 7) HT_.out (h := ?_)
         refine pu 3 (some 20) (bw 64 15) HT_.out (h := ?_)
         refine pu 5 (some 22) (bw 64 47) HT_.out (h := ?_)
         refine pu 6 (some 23) (bw 64 111) HT_.out (h := ?_)
         refine pu 7 (some 24) (bw 64 239) HT_.out (h := ?_)
         refine pu 8 (some 25) (bw 64 495) HT_.out (h := ?_)
         refine tk 4 (some 21) (bw 64 511) HT_.out HW_.out hHeld (h := ?_)
         refine tk 9 (some 26) (bw 64 1023) HT_.out HW_.out hHeld (h := ?_)
         refine pu 10 (some 27) (bw 64 2047) HT_.out (h := ?_)
         refine pu 11 (some 28) (bw 64 4095) HT_.out (h := ?_)
         refine pu 12 (some 29) (bw 64 8191) HT_.out (h := ?_)
         refine pu 13 (some 30) (bw 64 16383) HT_.out (h := ?_)
         refine pu 14 (some 31) (bw 64 32767) HT_.out (h := ?_)
         refine pu 15 (some 32) (bw 64 65535) HT_.out (h := ?_)
         refine pu 17 (some 34) (bw 64 196607) HT_.out (h := ?_)
         refine pu 18 (some 35) (bw 64 458751) HT_.out (h := ?_)
         refine pu 19 (some 36) (bw 64 983039) HT_.out (h := ?_)
         refine pu 20 (some 37) (bw 64 2031615) HT_.out (h := ?_)
         refine tk 16 (some 33) (bw 64 2097151) HT_.out HW_.out hHeld (h := ?_)
         refine tk 21 (some 38) (bw 64 4194303) HT_.out HW_.out hHeld (h := ?_)
         refine pu 22 (some 39) (bw 64 8388607) HT_.out (h := ?_)
         refine pu 23 (some 40) (bw 64 16777215) HT_.out (h := ?_)
         refine pu 24 (some 41) (bw 64 33554431) HT_.out (h := ?_)
         refine pd 25 (some 42) (bw 64 67108863) HT_.out (h := ?_)
         refine pd 26 (some 43) (bw 64 134217727) HT_.out (h := ?_)
         refine pd 27 (some 44) (bw 64 268435455) HT_.out (h := ?_)
         refine pd 28 (some 45) (bw 64 536870911) HT_.out (h := ?_)
         refine pd 29 (some 46) (bw 64 1073741823) HT_.out (h := ?_)
         refine pd 30 (some 47) (bw 64 2147483647) HT_.out (h := ?_)
         refine pd 31 (some 48) (bw 64 4294967295) HT_.out (h := ?_)
         refine pd 32 (some 49) (bw 64 8589934591) HT_.out (h := ?_)
         refine pd 33 (some 50) (bw 64 17179869183) HT_.out (h := ?_)
         refine pd 34 (some 51) (bw 64 34359738367) HT_.out (h := ?_)
         refine pd 35 (some 52) (bw 64 68719476735) HT_.out (h := ?_)
         refine pu 36 (some 53) (bw 64 137438953471) HT_.out (h := ?_)
         refine pu 37 (some 54) (bw 64 274877906943) HT_.out (h := ?_)
         refine pd 38 (some 55) (bw 64 549755813887) HT_.out (h := ?_)
         refine pd 39 (some 56) (bw 64 1099511627775) HT_.out (h := ?_)
         refine pd 40 (some 57) (bw 64 2199023255551) HT_.out (h := ?_)
         refine pd 41 (some 58) (bw 64 4398046511103) HT_.out (h := ?_)
         refine pd 42 (some 59) (bw 64 8796093022207) HT_.out (h := ?_)
         refine pd 43 (some 60) (bw 64 17592186044415) HT_.out (h := ?_)
         refine pd 44 (some 61) (bw 64 35184372088831) HT_.out (h := ?_)
         refine pd 45 (some 62) (bw 64 70368744177663) HT_.out (h := ?_)
         refine pd 46 (some 63) (bw 64 140737488355327) HT_.out (h := ?_)
         refine pd 47 (some 64) (bw 64 281474976710655) HT_.out (h := ?_)
         refine pd 48 (some 65) (bw 64 562949953421311) HT_.out (h := ?_)
         refine pu 49 (some 66) (bw 64 1125899906842623) HT_.out (h := ?_)
         refine pu 50 (some 67) (bw 64 2251799813685247) HT_.out (h := ?_)
         refine pd 51 (some 68) (bw 64 4503599627370495) HT_.out (h := ?_)
         refine pd 52 (some 69) (bw 64 9007199254740991) HT_.out (h := ?_)
         refine pd 53 (some 70) (bw 64 18014398509481983) HT_.out (h := ?_)
         refine pd 54 (some 71) (bw 64 36028797018963967) HT_.out (h := ?_)
         refine pd 55 (some 72) (bw 64 72057594037927935) HT_.out (h := ?_)
         refine pd 56 (some 73) (bw 64 144115188075855871) HT_.out (h := ?_)
         refine pd 57 (some 74) (bw 64 288230376151711743) HT_.out (h := ?_)
         refine pd 58 (some 75) (bw 64 576460752303423487) HT_.out (h := ?_)
         refine pd 59 (some 76) (bw 64 1152921504606846975) HT_.out (h := ?_)
         refine pd 60 (some 77) (bw 64 2305843009213693951) HT_.out (h := ?_)
         refine pd 61 (some 78) (bw 64 4611686018427387903) HT_.out (h := ?_)
         refine pd 62 (some 79) (bw 64 9223372036854775807) HT_.out (h := ?_)
         refine pu 63 (some 80) (bw 64 18446744073709551615) HT_.out (h := ?_)
         refine done_ (done_of HT_.out (by kernel_rfl)) ?_
         try go_wp2
         go_ret
         exact ⟨pX, pB HB.out⟩
       ·rw [if_neg c7] at H
        have c7b0 : (((rd_T46 l0 x5_1).f0) == ((rd_T46 l1 x5_1).f0)) = false := beq_eq_false_iff_ne.mpr c7
        have c7b1 : (((rd_T46 l0 x5_1).f0) != ((rd_T46 l1 x5_1).f0)) = true := bne_iff_ne.mpr c7
        obtain rfl := Option.some.inj H
        try go_wp2
        have n0_ := Aside0.mk (below_drew1 HB.out)
        clear HB
        have HB := n0_
        clear n0_
        have p234 : 0 ≤ (x5_1 : Int) := of_decide_eq_true pS
        have q234 : x5_1 < (l0.length : Int) := of_decide_eq_true pS
        obtain ⟨ad234, A234_5, c234_5, e234, hx234_0, hx234_1, hx234_2, hx234_3, hx234_4, hx234_5, hx234_6, hx234_7, hx234_8, hx234_9, hl234_5, hi234_5⟩ := at_T46 HR0.out x5_1 p234 q234
        have hw234_9 := hx234_9
        have hw234_8 := hx234_8
        have hw234_7 := hx234_7
        have hw234_6 := hx234_6
        have hw234_5 := hx234_5
        have hw234_4 := hx234_4
        have hw234_3 := hx234_3
        have hw234_2 := hx234_2
        have hw234_1 := hx234_1
        have hw234_0 := hx234_0
        cases e234
        replace hx234_0 := cU HB.out hx234_0
        replace hx234_1 := cU HB.out hx234_1
        replace hx234_2 := cU HB.out hx234_2
        replace hx234_3 := cU HB.out hx234_3
        replace hx234_4 := cU HB.out hx234_4
        replace hx234_5 := cU HB.out hx234_5
        replace hx234_6 := cU HB.out hx234_6
        replace hx234_7 := cU HB.out hx234_7
        replace hx234_8 := cU HB.out hx234_8
        replace hx234_9 := cU HB.out hx234_9
        have HR234_5 := Aside0.mk hi234_5
        have HC234_5 := Aside0.mk hl234_5
        clear hi234_5 hl234_5
        replace p234 := eq_true p234
        replace q234 := eq_true q234
        have p235 : 0 ≤ (x5_1 : Int) := of_decide_eq_true pS
        have q235 : x5_1 < (l1.length : Int) := of_decide_eq_true pS
        obtain ⟨ad235, A235_5, c235_5, e235, hx235_0, hx235_1, hx235_2, hx235_3, hx235_4, hx235_5, hx235_6, hx235_7, hx235_8, hx235_9, hl235_5, hi235_5⟩ := at_T46 HR1.out x5_1 p235 q235
        have hw235_9 := hx235_9
        have hw235_8 := hx235_8
        have hw235_7 := hx235_7
        have hw235_6 := hx235_6
        have hw235_5 := hx235_5
        have hw235_4 := hx235_4
        have hw235_3 := hx235_3
        have hw235_2 := hx235_2
        have hw235_1 := hx235_1
        have hw235_0 := hx235_0
        cases e235
        replace hx235_0 := cU HB.out hx235_0
        replace hx235_1 := cU HB.out hx235_1
        replace hx235_2 := cU HB.out hx235_2
        replace hx235_3 := cU HB.out hx235_3
        replace hx235_4 := cU HB.out hx235_4
        replace hx235_5 := cU HB.out hx235_5
        replace hx235_6 := cU HB.out hx235_6
        replace hx235_7 := cU HB.out hx235_7
        replace hx235_8 := cU HB.out hx235_8
        replace hx235_9 := cU HB.out hx235_9
        have HR235_5 := Aside0.mk hi235_5
        have HC235_5 := Aside0.mk hl235_5
        clear hi235_5 hl235_5
        replace p235 := eq_true p235
        replace q235 := eq_true q235
        refine start_ (n := 64) (S := fun w' => w'.cell? (ad234.add ((x5_1).toNat * 10)) = some (.int .i64 ((rd_T46 l0 x5_1).f0)) ∧ cA w' (ad234.add ((x5_1).toNat * 10)) 1 (.int .i64 ((rd_T46 l0 x5_1).f1)) ∧ cA w' (ad234.add ((x5_1).toNat * 10)) 2 (.int .i64 ((rd_T46 l0 x5_1).f2)) ∧ cA w' (ad234.add ((x5_1).toNat * 10)) 3 (.string ((rd_T46 l0 x5_1).f3)) ∧ cA w' (ad234.add ((x5_1).toNat * 10)) 4 (.bool ((rd_T46 l0 x5_1).f4.f0)) ∧ cA w' (ad234.add ((x5_1).toNat * 10)) 5 (.slice A234_5 ((rd_T46 l0 x5_1).f4.f1).length c234_5) ∧ cA w' (ad234.add ((x5_1).toNat * 10)) 6 (.int .i64 ((rd_T46 l0 x5_1).f4.f2.f0)) ∧ cA w' (ad234.add ((x5_1).toNat * 10)) 7 (.int .i64 ((rd_T46 l0 x5_1).f4.f2.f1)) ∧ cA w' (ad234.add ((x5_1).toNat * 10)) 8 (.int .i64 ((rd_T46 l0 x5_1).f4.f2.f2)) ∧ cA w' (ad234.add ((x5_1).toNat * 10)) 9 (.int .u32 ((rd_T46 l0 x5_1).f4.f2.f3)) ∧ w'.cell? (ad235.add ((x5_1).toNat * 10)) = some (.int .i64 ((rd_T46 l1 x5_1).f0)) ∧ cA w' (ad235.add ((x5_1).toNat * 10)) 1 (.int .i64 ((rd_T46 l1 x5_1).f1)) ∧ cA w' (ad235.add ((x5_1).toNat * 10)) 2 (.int .i64 ((rd_T46 l1 x5_1).f2)) ∧ cA w' (ad235.add ((x5_1).toNat * 10)) 3 (.string ((rd_T46 l1 x5_1).f3)) ∧ cA w' (ad235.add ((x5_1).toNat * 10)) 4 (.bool ((rd_T46 l1 x5_1).f4.f0)) ∧ cA w' (ad235.add ((x5_1).toNat * 10)) 5 (.slice A235_5 ((rd_T46 l1 x5_1).f4.f1).length c235_5) ∧ cA w' (ad235.add ((x5_1).toNat * 10)) 6 (.int .i64 ((rd_T46 l1 x5_1).f4.f2.f0)) ∧ cA w' (ad235.add ((x5_1).toNat * 10)) 7 (.int .i64 ((rd_T46 l1 x5_1).f4.f2.f1)) ∧ cA w' (ad235.add ((x5_1).toNat * 10)) 8 (.int .i64 ((rd_T46 l1 x5_1).f4.f2.f2)) ∧ cA w' (ad235.add ((x5_1).toNat * 10)) 9 (.int .u32 ((rd_T46 l1 x5_1).f4.f2.f3))) (ds := []) #[false, false, false, false, false, false, false, false, false, false, false, false, false, false, false, false, false, false, false, false, false, false, false, false, false, false, false, false, false, false, false, false, false, false, false, false, false, false, false, false, false, false, false, false, false, false, false, false, false, false, false, false, false, false, false, false, false, false, false, false, false, false, false, false] (by kernel_rfl) rfl rfl ⟨(cT HB.out hw234_0), (cT HB.out hw234_1), (cT HB.out hw234_2), (cT HB.out hw234_3), (cT HB.out hw234_4), (cT HB.out hw234_5), (cT HB.out hw234_6), (cT HB.out hw234_7), (cT HB.out hw234_8), (cT HB.out hw234_9), (cT HB.out hw235_0), (cT HB.out hw235_1), (cT HB.out hw235_2), (cT HB.out hw235_3), (cT HB.out hw235_4), (cT HB.out hw235_5), (cT HB.out hw235_6), (cT HB.out hw235_7), (cT HB.out hw235_8), (cT HB.out hw235_9)⟩ (fun hHeld => ?_); refine with_tabW garnerref06_Same.tab6 garnerref06_Same.bits6 (fun HT_ HW_ => ?_)
        generalize wr.drew = w20 at HB HR234_5 HR235_5 hx234_0 hx234_1 hx234_2 hx234_3 hx234_4 hx234_5 hx234_6 hx234_7 hx234_8 hx234_9 hx235_0 hx235_1 hx235_2 hx235_3 hx235_4 hx235_5 hx235_6 hx235_7 hx235_8 hx235_9 hHeld ⊢
        refine pu 0 (some 17) (bw 64 1) HT_.out (h := ?_)
        refine pu 1 (some 18) (bw 64 3) HT_.out (h := ?_)
        refine pu 2 (some 19) (bw 64 7) HT_.out (h := ?_)
        refine pu 3 (some 20) (bw 64 15) HT_.out (h := ?_)
        refine pu 5 (some 22) (bw 64 47) HT_.out (h := ?_)
        refine pu 6 (some 23) (bw 64 111) HT_.out (h := ?_)
        refine pu 7 (some 24) (bw 64 239) HT_.out (h := ?_)
        refine pu 8 (some 25) (bw 64 495) HT_.out (h := ?_)
        refine tk 4 (some 21) (bw 64 511) HT_.out HW_.out hHeld (h := ?_)
        refine tk 9 (some 26) (bw 64 1023) HT_.out HW_.out hHeld (h := ?_)
        refine pu 10 (some 27) (bw 64 2047) HT_.out (h := ?_)
        refine pu 11 (some 28) (bw 64 4095) HT_.out (h := ?_)
        refine pd 12 (some 29) (bw 64 8191) HT_.out (h := ?_)
        refine pd 13 (some 30) (bw 64 16383) HT_.out (h := ?_)
        refine pd 14 (some 31) (bw 64 32767) HT_.out (h := ?_)
        refine pd 15 (some 32) (bw 64 65535) HT_.out (h := ?_)
        refine pd 16 (some 33) (bw 64 131071) HT_.out (h := ?_)
        refine pd 17 (some 34) (bw 64 262143) HT_.out (h := ?_)
        refine pd 18 (some 35) (bw 64 524287) HT_.out (h := ?_)
        refine pd 19 (some 36) (bw 64 1048575) HT_.out (h := ?_)
        refine pd 20 (some 37) (bw 64 2097151) HT_.out (h := ?_)
        refine pd 21 (some 38) (bw 64 4194303) HT_.out (h := ?_)
        refine pd 22 (some 39) (bw 64 8388607) HT_.out (h := ?_)
        refine pu 23 (some 40) (bw 64 16777215) HT_.out (h := ?_)
        refine pu 24 (some 41) (bw 64 33554431) HT_.out (h := ?_)
        refine pd 25 (some 42) (bw 64 67108863) HT_.out (h := ?_)
        refine pd 26 (some 43) (bw 64 134217727) HT_.out (h := ?_)
        refine pd 27 (some 44) (bw 64 268435455) HT_.out (h := ?_)
        refine pd 28 (some 45) (bw 64 536870911) HT_.out (h := ?_)
        refine pd 29 (some 46) (bw 64 1073741823) HT_.out (h := ?_)
        refine pd 30 (some 47) (bw 64 2147483647) HT_.out (h := ?_)
        refine pd 31 (some 48) (bw 64 4294967295) HT_.out (h := ?_)
        refine pd 32 (some 49) (bw 64 8589934591) HT_.out (h := ?_)
        refine pd 33 (some 50) (bw 64 17179869183) HT_.out (h := ?_)
        refine pd 34 (some 51) (bw 64 34359738367) HT_.out (h := ?_)
        refine pd 35 (some 52) (bw 64 68719476735) HT_.out (h := ?_)
        refine pu 36 (some 53) (bw 64 137438953471) HT_.out (h := ?_)
        refine pu 37 (some 54) (bw 64 274877906943) HT_.out (h := ?_)
        refine pd 38 (some 55) (bw 64 549755813887) HT_.out (h := ?_)
        refine pd 39 (some 56) (bw 64 1099511627775) HT_.out (h := ?_)
        refine pd 40 (some 57) (bw 64 2199023255551) HT_.out (h := ?_)
        refine pd 41 (some 58) (bw 64 4398046511103) HT_.out (h := ?_)
        refine pd 42 (some 59) (bw 64 8796093022207) HT_.out (h := ?_)
        refine pd 43 (some 60) (bw 64 17592186044415) HT_.out (h := ?_)
        refine pd 44 (some 61) (bw 64 35184372088831) HT_.out (h := ?_)
        refine pd 45 (some 62) (bw 64 70368744177663) HT_.out (h := ?_)
        refine pd 46 (some 63) (bw 64 140737488355327) HT_.out (h := ?_)
        refine pd 47 (some 64) (bw 64 281474976710655) HT_.out (h := ?_)
        refine pd 48 (some 65) (bw 64 562949953421311) HT_.out (h := ?_)
        refine pu 49 (some 66) (bw 64 1125899906842623) HT_.out (h := ?_)
        refine pu 50 (some 67) (bw 64 2251799813685247) HT_.out (h := ?_)
        refine pd 51 (some 68) (bw 64 4503599627370495) HT_.out (h := ?_)
        refine pd 52 (some 69) (bw 64 9007199254740991) HT_.out (h := ?_)
        refine pd 53 (some 70) (bw 64 18014398509481983) HT_.out (h := ?_)
        refine pd 54 (some 71) (bw 64 36028797018963967) HT_.out (h := ?_)
        refine pd 55 (some 72) (bw 64 72057594037927935) HT_.out (h := ?_)
        refine pd 56 (some 73) (bw 64 144115188075855871) HT_.out (h := ?_)
        refine pd 57 (some 74) (bw 64 288230376151711743) HT_.out (h := ?_)
        refine pd 58 (some 75) (bw 64 576460752303423487) HT_.out (h := ?_)
        refine pd 59 (some 76) (bw 64 1152921504606846975) HT_.out (h := ?_)
        refine pd 60 (some 77) (bw 64 2305843009213693951) HT_.out (h := ?_)
        refine pd 61 (some 78) (bw 64 4611686018427387903) HT_.out (h := ?_)
        refine pd 62 (some 79) (bw 64 9223372036854775807) HT_.out (h := ?_)
        refine pu 63 (some 80) (bw 64 18446744073709551615) HT_.out (h := ?_)
        refine done_ (done_of HT_.out (by kernel_rfl)) ?_
        try go_wp2
        go_ret
        exact ⟨pX, pB HB.out⟩
      ·rw [if_neg c6] at H
       exact absurd H (by simp)
     ·rw [if_neg c5] at H
      exact absurd H (by simp)
    ·rw [if_neg c4] at H
     have c4b0 : decide (x5_1 < (l0.length : Int)) = false := decide_eq_false c4
     clear c4
     obtain rfl := Option.some.inj H
     go_wp2
     go_ret
     exact ⟨pX, pB HB.out⟩
 ·rw [if_neg c3] at H
  have c3b0 : ((l0.length : Int) == (l1.length : Int)) = false := beq_eq_false_iff_ne.mpr c3
  have c3b1 : ((l0.length : Int) != (l1.length : Int)) = true := bne_iff_ne.mpr c3
  have c3b2 : (l0.length == l1.length) = false := by first | simpa using c3 | (simp at c3 ⊢; omega)
  obtain rfl := Option.some.inj H
  go_enter Try.func13, Try.ntmps13
  go_wp2
  go_ret
  exact ⟨pX, pB HB.out⟩
end Go.Proofs.Ytinldhpdfomcjaa.PRaftParts
