/- What the law reaches, as plain Lean functions, and that the machine's calls answer just that. -/
import Derived.Test.YtdanmjfkocjgjaaPWalGetsx0
import Derived.Test.YtdanmjfkocjgjaaPWalGetsx17
import Derived.Test.YtdanmjfkocjgjaaPWalGetsx20
namespace Go.Proofs.Ytdanmjfkocjgjaa.PWalGets
open Go.RowKit Go.Proofs.YtdanmjfkocjgjaaW.PrintWords Go.Proofs.YtdanmjfkocjgjaaW.PrintLast Go.Proofs.YtdanmjfkocjgjaaW.PrintMore
attribute [local go_sem] max2_int min2_int max_two min_two max_three min_three max_four min_four
set_option linter.unusedVariables false
set_option linter.unusedSimpArgs false
attribute [local go_sem] wrap64_l1 wrap64_l2 wrap64_l3 wrap64_l4 wrap64_l5
def garnerref22_Get.j0 : Nat → List Int → Bool → Option (Int × Int × Int × Bool)
 | 0, _, _ => none
 | k + 1, x4, x39 => if x39 = true then (some (0, 0, 0, false)) else (if 0 < (x4.length : Int) then (if 1 < (x4.length : Int) then (if 2 < (x4.length : Int) then ((garnerref22_May.f (wrap64 (rd x4 0)) (wrap64 (rd x4 1)) (wrap64 (rd x4 2))).bind fun t525 => (if t525 = true then (some (wrap64 (rd x4 0), wrap64 (rd x4 1), wrap64 (rd x4 2), true)) else (some (0, 0, 0, false)))) else (none)) else (none)) else (none))
def garnerref22_Get.f (k : Nat) (l0 : List Int) : Option (Int × Int × Int × Bool) := (garnerref02_All.f k l0 3).bind fun bt513 => (if bt513.2.2 = 0 then (if bt513.2.1 = (l0.length : Int) then (if 0 < (bt513.1.length : Int) then (if (rd bt513.1 0) > 2147483647 then (garnerref22_Get.j0 k bt513.1 true) else (if 1 < (bt513.1.length : Int) then (if (rd bt513.1 1) > 2147483647 then (garnerref22_Get.j0 k bt513.1 true) else (if 2 < (bt513.1.length : Int) then (garnerref22_Get.j0 k bt513.1 (decide ((rd bt513.1 2) > 2147483647))) else (none))) else (none))) else (none)) else (garnerref22_Get.j0 k bt513.1 true)) else (garnerref22_Get.j0 k bt513.1 true))
theorem garnerref22_Get.mono_l : ∀ k, (∀ y0 y1, LeO (garnerref22_Get.j0 k y0 y1) (garnerref22_Get.j0 (k + 1) y0 y1))
 | 0 => fun _ _ r h => by simp [garnerref22_Get.j0] at h
 | k + 1 => by
  have ih0 := garnerref22_Get.mono_l k
  ·intro y0 y1
   unfold garnerref22_Get.j0
   repeat' (with_reducible first | exact ih0 .. | exact garnerref02_All.mono .. | exact LeO.refl .. | exact LeO.none .. | refine LeO.ite ?_ ?_ | refine LeO.bind ?_ (fun _ => ?_))
theorem garnerref22_Get.mono : ∀ a0 k, LeO (garnerref22_Get.f k a0) (garnerref22_Get.f (k + 1) a0) := by
 intro a0 k
 have ih0 := garnerref22_Get.mono_l k
 unfold garnerref22_Get.f
 repeat' (with_reducible first | exact ih0 .. | exact garnerref02_All.mono .. | exact LeO.refl .. | exact LeO.none .. | refine LeO.ite ?_ ?_ | refine LeO.bind ?_ (fun _ => ?_))
def garnerref22_Get.T4 : Bool × List (List Nat × List Nat) := (true, [([], []), ([0], [0]), ([1], [1]), ([2], [2]), ([], []), ([4], [4]), ([5], [5]), ([6], [6]), ([], []), ([8], [8]), ([9], [9]), ([10], [10]), ([3, 7, 11], [3, 7, 11]), ([], []), ([13, 12, 0, 1, 2, 3, 4, 5, 6, 7, 8, 9, 10, 11, 12, 13], [12, 13])])
def garnerref22_Get.B4 : List Nat := [0, 1, 3, 7, 0, 16, 48, 112, 0, 256, 768, 1792, 4095, 0, 16383]
theorem garnerref22_Get.tab4 : rtab .any (opsOf Try.f21 4) = garnerref22_Get.T4 := by kernel_rfl
theorem garnerref22_Get.bits4 : waitsOk garnerref22_Get.T4.2 garnerref22_Get.B4 = true := by kernel_rfl
set_option maxHeartbeats 8000000 in
set_option maxRecDepth 100000 in
theorem garnerref22_Get.calls (k : Nat) (A0 : Option Addr) (c0 : Nat) (l0 : List Int) (r1 : Int) (r2 : Int) (r3 : Int) (r4 : Bool) (w : World) (hr0 : Kd.C (Kd.int .u8) w A0 l0.length l0) (hc0 : l0.length ≤ c0) (h : garnerref22_Get.f k l0 = some (r1, r2, r3, r4)) :
 Calls Try.prog 21 #[.slice A0 l0.length c0] w fun e w' => e = .returned (.tuple #[.agg #[.int .i64 r1, .int .i64 r2, .int .i64 r3], .bool r4]) ∧ Below w.heap.size w w' := by
 have hu28 := Try.underlying28
 have HR0 := Am hr0
 have HC0 := Am hc0
 clear hr0 hc0
 have HB := Am (Below.refl w.heap.size w)
 unfold garnerref22_Get.f at h
 have H := h
 clear h
 replace H := Option.bind_eq_some_iff.mp H
 obtain ⟨⟨t513, t514, t515⟩, A20, H⟩ := H
 dsimp only at H
 have A2 := Am A20
 clear A20
 have HC3 := Am H
 clear H
 go_enter Try.func21, Try.ntmps21
 go_upto_region 2 with (first | ((with_reducible refine gate_dst (N := 2) rfl ?_); (try (refine gate_guard (by rfl) ?_; dsimp only)); refine zE 2 #[.int .i64 0, .int .i64 0, .int .i64 0] 28 ?_; intro An hg w4 hbox hb; have Ab := Am (hbox); have Az := Am (zG hg (below_size (pB HB.out))); replace HB := Am (below_step (pB HB.out) hb); have Aj := Az; clear hb hbox hg) | ((with_reducible refine gate_callee (f := 46) rfl ?_); refine goesL_ (some 10) rfl rfl Try.func46 (by kernel_rfl) rfl #[.slice A0 l0.length c0, .int .i64 3] rfl pL ?_; (with_reducible refine (garnerref02_All.calls k _ _ l0 3 t513 t514 t515 _ ?A1 ?A3 A2.out).mono ?_); (case A1 => exact pC (Kd.C_below HR0.out HB.out)); (case A3 => exact HC0.out); rintro e w5 ⟨v516, rfl, ho0, hb⟩; refine ⟨_, rfl, ?_⟩; have Al := Am (Kd.R_lower ho0 (below_size (pE HB.out Aj.out))); replace Ab := kBa Ab hb; replace HB := Am (below_step (pE HB.out Aj.out) hb); (try clear hb); (try clear hb2); (try clear hk); (try clear hi); (try clear ho0)))
 (try simp only [Act.put, List.setIfInBounds_toArray, List.set_cons_zero, List.set_cons_succ])
 go_cut [39] (fun v39 wc => ∃ (kq : Nat) (At : Bool), v39 = .bool At ∧ Aside0 (garnerref22_Get.j0 kq t513 At = some (r1, r2, r3, r4)) ∧ Aside0 (kq ≤ k) ∧ Aside0 (Kd.R (Kd.int .u64) 61 wc w.heap.size (fun _ => True) v516 t513) ∧ Aside0 (wc.heap[An]? = some (.cells #[.int .i64 0, .int .i64 0, .int .i64 0] 28 (0, 0))) ∧ Aside0 (Below w.heap.size w wc))
 case first =>
  have H := HC3.out
  clear HC3
  by_cases c6 : t515 = 0
  rotate_left
  ·rw [if_neg c6] at H
   have c6b0 := beq_eq_false_iff_ne.mpr c6
   have c6b1 := bne_iff_ne.mpr c6
   (first | rw [c6b0] | (simp only [i64_w, i32_w]; rw [c6b0]) | skip)
   have H' := Am H
   clear H
   go_wp2
   go_meet
   case rel => exact ⟨_, (true), zr, H', ⟨zo⟩, ⟨by (with_reducible repeat (first | apply Kd.R_alloc | apply Kd.R_drewN | apply Kd.R_drew)); exact Al.out⟩, ⟨pK Ab.out⟩, ⟨pE HB.out Aj.out⟩⟩
  rw [if_pos c6] at H
  have c6b0 := beq_iff_eq.mpr c6
  have c6b1 := bne_eq_false_iff_eq.mpr c6
  clear c6
  (first | rw [c6b0] | (simp only [i64_w, i32_w]; rw [c6b0]) | skip)
  by_cases c7 : t514 = (l0.length : Int)
  rotate_left
  ·rw [if_neg c7] at H
   have c7b0 := beq_eq_false_iff_ne.mpr c7
   have c7b1 := bne_iff_ne.mpr c7
   have H' := Am H
   clear H
   go_wp2
   go_meet
   case rel => exact ⟨_, (true), zr, H', ⟨zo⟩, ⟨by (with_reducible repeat (first | apply Kd.R_alloc | apply Kd.R_drewN | apply Kd.R_drew)); exact Al.out⟩, ⟨pK Ab.out⟩, ⟨pE HB.out Aj.out⟩⟩
  rw [if_pos c7] at H
  have c7b0 := beq_iff_eq.mpr c7
  have c7b1 := bne_eq_false_iff_eq.mpr c7
  clear c7
  obtain ⟨c8, H⟩ := zI H
  have c8b0 := decide_eq_true c8
  have c8b1 : decide (0 < t513.length) = true := decide_eq_true (by omega)
  clear c8
  by_cases c9 : (rd t513 0) > 2147483647
  ·rw [if_pos c9] at H
   have c9b0 : decide (2147483647 < (rd t513 0)) = true := decide_eq_true c9
   clear c9
   have H' := Am H
   clear H
   obtain ⟨Ao10, co10, A6⟩ := Kd.R_slice Al.out
   subst A6
   have p518 : 0 ≤ (0 : Int) := (by omega)
   have q518 : 0 < (t513.length : Int) := of_decide_eq_true pS
   obtain ⟨Ar, e518, Ak⟩ := Kd.at_int (Kd.R_reads' Al.out).2.2 0 p518 q518
   cases e518
   have qi518 : (0 < t513.length) = True := eq_true (by omega)
   (try rw [tz] at Ak)
   (try rw [Addr.add_zero'] at Ak)
   replace p518 := eq_true p518
   replace q518 := eq_true q518
   go_wp2
   go_meet
   case rel => exact ⟨_, (true), zr, H', ⟨zo⟩, ⟨by (with_reducible repeat (first | apply Kd.R_alloc | apply Kd.R_drewN | apply Kd.R_drew)); exact Al.out⟩, ⟨pK Ab.out⟩, ⟨pE HB.out Aj.out⟩⟩
  rw [if_neg c9] at H
  have c9b0 : decide (2147483647 < (rd t513 0)) = false := decide_eq_false c9
  clear c9
  obtain ⟨c11, H⟩ := zI H
  have c11b0 := decide_eq_true c11
  have c11b1 : decide (1 < t513.length) = true := decide_eq_true (by omega)
  clear c11
  by_cases c12 : (rd t513 1) > 2147483647
  ·rw [if_pos c12] at H
   have c12b0 : decide (2147483647 < (rd t513 1)) = true := decide_eq_true c12
   clear c12
   have H' := Am H
   clear H
   obtain ⟨Ao13, co13, A7⟩ := Kd.R_slice Al.out
   subst A7
   have p518 : 0 ≤ (0 : Int) := (by omega)
   have q518 : 0 < (t513.length : Int) := of_decide_eq_true pS
   obtain ⟨Ar, e518, Ak⟩ := Kd.at_int (Kd.R_reads' Al.out).2.2 0 p518 q518
   cases e518
   have qi518 : (0 < t513.length) = True := eq_true (by omega)
   (try rw [tz] at Ak)
   (try rw [Addr.add_zero'] at Ak)
   replace p518 := eq_true p518
   replace q518 := eq_true q518
   have p519 : 0 ≤ (1 : Int) := (by omega)
   have q519 : 1 < (t513.length : Int) := of_decide_eq_true pS
   obtain ⟨Au, e519, Ap⟩ := Kd.at_int (Kd.R_reads' Al.out).2.2 1 p519 q519
   obtain rfl : Ar = Au := (by injection e519)
   (try simp only [show (1 : Int).toNat = 1 from rfl, Nat.reduceMul, Nat.reduceEqDiff, Go.Addr.add, ↓reduceIte] at Ap)
   have qi519 : (1 < t513.length) = True := eq_true (by omega)
   (try rw [show ((1 : Int)).toNat = 1 from rfl] at Ap)
   replace p519 := eq_true p519
   replace q519 := eq_true q519
   go_wp2
   go_meet
   case rel => exact ⟨_, (true), zr, H', ⟨zo⟩, ⟨by (with_reducible repeat (first | apply Kd.R_alloc | apply Kd.R_drewN | apply Kd.R_drew)); exact Al.out⟩, ⟨pK Ab.out⟩, ⟨pE HB.out Aj.out⟩⟩
  rw [if_neg c12] at H
  have c12b0 : decide (2147483647 < (rd t513 1)) = false := decide_eq_false c12
  clear c12
  obtain ⟨c14, H⟩ := zI H
  have c14b0 := decide_eq_true c14
  have c14b1 : decide (2 < t513.length) = true := decide_eq_true (by omega)
  clear c14
  have H' := Am H
  clear H
  obtain ⟨Ao15, co15, A8⟩ := Kd.R_slice Al.out
  subst A8
  have p518 : 0 ≤ (0 : Int) := (by omega)
  have q518 : 0 < (t513.length : Int) := of_decide_eq_true pS
  obtain ⟨Ar, e518, Ak⟩ := Kd.at_int (Kd.R_reads' Al.out).2.2 0 p518 q518
  cases e518
  have qi518 : (0 < t513.length) = True := eq_true (by omega)
  (try rw [tz] at Ak)
  (try rw [Addr.add_zero'] at Ak)
  replace p518 := eq_true p518
  replace q518 := eq_true q518
  have p519 : 0 ≤ (1 : Int) := (by omega)
  have q519 : 1 < (t513.length : Int) := of_decide_eq_true pS
  obtain ⟨Au, e519, Ap⟩ := Kd.at_int (Kd.R_reads' Al.out).2.2 1 p519 q519
  obtain rfl : Ar = Au := (by injection e519)
  (try simp only [show (1 : Int).toNat = 1 from rfl, Nat.reduceMul, Nat.reduceEqDiff, Go.Addr.add, ↓reduceIte] at Ap)
  have qi519 : (1 < t513.length) = True := eq_true (by omega)
  (try rw [show ((1 : Int)).toNat = 1 from rfl] at Ap)
  replace p519 := eq_true p519
  replace q519 := eq_true q519
  have p520 : 0 ≤ (2 : Int) := (by omega)
  have q520 : 2 < (t513.length : Int) := of_decide_eq_true pS
  obtain ⟨A4, e520, Aq⟩ := Kd.at_int (Kd.R_reads' Al.out).2.2 2 p520 q520
  obtain rfl : Ar = A4 := (by injection e520)
  (try simp only [show (2 : Int).toNat = 2 from rfl, Nat.reduceMul, Nat.reduceEqDiff, Go.Addr.add, ↓reduceIte] at Aq)
  have qi520 : (2 < t513.length) = True := eq_true (by omega)
  (try rw [show ((2 : Int)).toNat = 2 from rfl] at Aq)
  replace p520 := eq_true p520
  replace q520 := eq_true q520
  go_wp2
  go_meet
  case rel => exact ⟨_, (decide ((rd t513 2) > 2147483647)), zr, H', ⟨zo⟩, ⟨by (with_reducible repeat (first | apply Kd.R_alloc | apply Kd.R_drewN | apply Kd.R_drew)); exact Al.out⟩, ⟨pK Ab.out⟩, ⟨pE HB.out Aj.out⟩⟩
 case rest =>
  clear HC3
  try clear c1
  try clear c2
  try clear p2
  try clear c4
  try clear p5
  try clear q5
  try clear hx5
  try clear qi5
  try clear c6
  try clear c6b0
  try clear c6b1
  try clear c7
  try clear c7b0
  try clear c7b1
  try clear c8
  try clear c8b0
  try clear c8b1
  try clear c9
  try clear c9b0
  try clear c11
  try clear c11b0
  try clear c11b1
  try clear c12
  try clear c12b0
  try clear c14
  try clear c14b0
  try clear c14b1
  try clear Ak
  try clear Ap
  try clear Aq
  try clear p518
  try clear p519
  try clear p520
  try clear q518
  try clear q519
  try clear q520
  obtain ⟨kq, At, rfl, HA, HJ2, Ac, Ab, HB⟩ := hcut
  cases kq with
  | zero => exact absurd HA.out (by simp [garnerref22_Get.j0])
  | succ kj2 =>
   have H := HA.out
   clear HA
   simp only [garnerref22_Get.j0] at H
   by_cases c16 : At = true
   ·subst c16
    rw [if_pos rfl] at H
    simp only [Option.some.injEq, Prod.mk.injEq] at H
    obtain ⟨rfl, rfl, rfl, rfl⟩ := H
    obtain ⟨_, _, _⟩ := bc3 Ab.out
    obtain ⟨_, _, _⟩ := bf3 Ab.out
    go_wp2
    refine bodyPost_ret (results_ct rfl _ _ An 28 #[.int .i64 0, .int .i64 0, .int .i64 0] (0, 0) _ rfl (kX0 Ab.out) Try.underlying28 rfl (by kernel_rfl)) rfl ?_
    exact ⟨pX, pE HB.out Aj.out⟩
   replace c16 := Bool.eq_false_iff.mpr c16
   subst c16
   rw [if_neg zF] at H
   obtain ⟨c18, H⟩ := zI H
   have c18b0 := decide_eq_true c18
   have c18b1 : decide (0 < t513.length) = true := decide_eq_true (by omega)
   clear c18
   obtain ⟨c19, H⟩ := zI H
   have c19b0 := decide_eq_true c19
   have c19b1 : decide (1 < t513.length) = true := decide_eq_true (by omega)
   clear c19
   obtain ⟨c20, H⟩ := zI H
   have c20b0 := decide_eq_true c20
   have c20b1 : decide (2 < t513.length) = true := decide_eq_true (by omega)
   clear c20
   replace H := Option.bind_eq_some_iff.mp H
   obtain ⟨t525, A210, H⟩ := H
   have A21 := Am A210
   clear A210
   by_cases c22 : t525 = true
   ·subst c22
    rw [if_pos rfl] at H
    simp only [Option.some.injEq, Prod.mk.injEq] at H
    obtain ⟨rfl, rfl, rfl, rfl⟩ := H
    try go_wp2
    replace Ac := dRa Ac
    replace Ab := kDa Ab
    replace HB := bDa HB
    obtain ⟨Ao24, co24, Ax⟩ := Kd.R_slice Ac.out
    (first | subst Ax | (injection Ax with f1_ f2_ f3_; have f4_ := f1_.symm; have f5_ := f3_.symm; clear f1_ f2_ f3_; subst f4_; subst f5_))
    have p521 : 0 ≤ (0 : Int) := (by omega)
    have q521 : 0 < (t513.length : Int) := of_decide_eq_true pS
    obtain ⟨Ao, e521, Ag⟩ := Kd.at_int (Kd.R_reads' Ac.out).2.2 0 p521 q521
    cases e521
    have qi521 : (0 < t513.length) = True := eq_true (by omega)
    (try rw [tz] at Ag)
    (try rw [Addr.add_zero'] at Ag)
    replace p521 := eq_true p521
    replace q521 := eq_true q521
    have p522 : 0 ≤ (1 : Int) := (by omega)
    have q522 : 1 < (t513.length : Int) := of_decide_eq_true pS
    obtain ⟨Av, e522, Ah⟩ := Kd.at_int (Kd.R_reads' Ac.out).2.2 1 p522 q522
    obtain rfl : Ao = Av := (by injection e522)
    (try simp only [show (1 : Int).toNat = 1 from rfl, Nat.reduceMul, Nat.reduceEqDiff, Go.Addr.add, ↓reduceIte] at Ah)
    have qi522 : (1 < t513.length) = True := eq_true (by omega)
    (try rw [show ((1 : Int)).toNat = 1 from rfl] at Ah)
    replace p522 := eq_true p522
    replace q522 := eq_true q522
    have p523 : 0 ≤ (2 : Int) := (by omega)
    have q523 : 2 < (t513.length : Int) := of_decide_eq_true pS
    obtain ⟨Aw, e523, Ai⟩ := Kd.at_int (Kd.R_reads' Ac.out).2.2 2 p523 q523
    obtain rfl : Ao = Aw := (by injection e523)
    (try simp only [show (2 : Int).toNat = 2 from rfl, Nat.reduceMul, Nat.reduceEqDiff, Go.Addr.add, ↓reduceIte] at Ai)
    have qi523 : (2 < t513.length) = True := eq_true (by omega)
    (try rw [show ((2 : Int)).toNat = 2 from rfl] at Ai)
    replace p523 := eq_true p523
    replace q523 := eq_true q523
    refine start_ (n := 15) (S := fun w' => w'.cell? Ao = some (.int .u64 (rd t513 0)) ∧ cA w' Ao 1 (.int .u64 (rd t513 1)) ∧ cA w' Ao 2 (.int .u64 (rd t513 2))) (ds := []) #[false, false, false, false, false, false, false, false, false, false, false, false, false, false, false] (by kernel_rfl) rfl rfl ⟨Ag, Ah, Ai⟩ (fun hHeld => ?_); refine with_tabW garnerref22_Get.tab4 garnerref22_Get.bits4 (fun HT_ HW_ => ?_)
    (first | generalize wc.drew = w23 at Ac Ab HB Ag Ah Ai hHeld ⊢ | generalize wc.drew = w23 at Ab HB Ag Ah Ai hHeld ⊢)
    refine pui 0 41 15 1 HT_ ?_
    refine pui 1 42 15 3 HT_ ?_
    refine pui 4 45 15 19 HT_ ?_
    refine pui 5 46 15 51 HT_ ?_
    refine pui 8 49 15 307 HT_ ?_
    refine pui 9 50 15 819 HT_ ?_
    refine tki 2 43 15 823 HT_ HW_ hHeld ?_
    refine pui 3 44 15 831 HT_ ?_
    refine tki 6 47 15 895 HT_ HW_ hHeld ?_
    refine pui 7 48 15 1023 HT_ ?_
    refine tki 10 51 15 2047 HT_ HW_ hHeld ?_
    refine pui 11 52 15 4095 HT_ ?_
    refine pui 12 53 15 8191 HT_ ?_
    refine onei 13 7 15 16383 HT_ (fun K hK => ?_)
    refine box_step ?hg (N := 7) ?hd (cs := #[.int .i64 0, .int .i64 0, .int .i64 0]) (t := 28) ?hr ?_; (case hd => rfl); (case hg => rfl); (case hr => first | (go_simp; done) | (go_simp; rfl))
    intro Af hg w25 hbox hb
    have HS0_ := (hb.cell (World.block_lt_of_cell? _ _ (hHeld.1))).trans (hHeld.1)
    have HS1_ := (hb.cell (World.block_lt_of_cell? _ _ (hHeld.2.1))).trans (hHeld.2.1)
    have HS2_ := (hb.cell (World.block_lt_of_cell? _ _ (hHeld.2.2))).trans (hHeld.2.2)
    replace Ac := bRa Ac hb
    have Aa := Am (hbox)
    have A5 := Am (zG hg (below_size (pE HB.out Aj.out)))
    have As := Am (zG hg (below_size (pE HB.out Aj.out)))
    replace HB := Am (below_step (pE HB.out Aj.out) hb)
    have Ad := Am (zN hg (kL Ab.out))
    have Ae := Am (zM hg (kL Ab.out))
    replace Ab := kBa Ab hb
    clear hb hbox hg
    refine hK.out _ _ ⟨HS0_, HS1_, HS2_⟩ (fun hHeld => ?_)
    clear hK K
    refine norm_ (a' := ?_) ?_ ?_
    rotate_left
    ·show Act.put _ (some 7) _ = _
     simp only [Act.put, List.setIfInBounds_toArray, List.set_cons_zero, List.set_cons_succ, i64_w, i32_w]
     rfl
    refine one_ (i := 14) (N := none) (bw 15 32767) rfl rfl (one_of HT_.out (by kernel_rfl)) (by decide) (fun K hK => ?_)
    have hs26 : w25.cell? ⟨Af, 0, none⟩ = some (.int .i64 0) := (blk_cell Aa.out 0).trans rfl
    have hfs26 := blk_frozen Aa.out 0
    have hns26_0 := Ad.out
    have hms26_0 := Ae.out
    have hs27 : w25.cell? ⟨Af, 1, none⟩ = some (.int .i64 0) := (blk_cell Aa.out 1).trans rfl
    have hfs27 := blk_frozen Aa.out 1
    have hns27_0 := Ad.out
    have hms27_0 := Ae.out
    have hs28 : w25.cell? ⟨Af, 2, none⟩ = some (.int .i64 0) := (blk_cell Aa.out 2).trans rfl
    have hfs28 := blk_frozen Aa.out 2
    have hns28_0 := Ad.out
    have hms28_0 := Ae.out
    refine skip_ (w1 := ?_) (by rfl) rfl ?_ ?_
    rotate_left
    ·go_simp
     rfl
    refine hK.out _ _ ⟨(cX1 hHeld.1 (by first | exact Kd.own_blk (Kd.R_ne Ac.out Aa.out (by decide)) | (rw [add_block]; exact Kd.own_blk (Kd.R_ne Ac.out Aa.out (by decide))) | (show (Addr.add _ _).block ≠ _; rw [add_block]; exact Kd.own_blk (Kd.R_ne Ac.out Aa.out (by decide))) | (dsimp only; exact Kd.own_blk (Kd.R_ne Ac.out Aa.out (by decide))))), (cX1 hHeld.2.1 (by first | exact Kd.own_blk (Kd.R_ne Ac.out Aa.out (by decide)) | (rw [add_block]; exact Kd.own_blk (Kd.R_ne Ac.out Aa.out (by decide))) | (show (Addr.add _ _).block ≠ _; rw [add_block]; exact Kd.own_blk (Kd.R_ne Ac.out Aa.out (by decide))) | (dsimp only; exact Kd.own_blk (Kd.R_ne Ac.out Aa.out (by decide))))), (cX1 hHeld.2.2 (by first | exact Kd.own_blk (Kd.R_ne Ac.out Aa.out (by decide)) | (rw [add_block]; exact Kd.own_blk (Kd.R_ne Ac.out Aa.out (by decide))) | (show (Addr.add _ _).block ≠ _; rw [add_block]; exact Kd.own_blk (Kd.R_ne Ac.out Aa.out (by decide))) | (dsimp only; exact Kd.own_blk (Kd.R_ne Ac.out Aa.out (by decide)))))⟩ (fun hHeld => ?_)
    clear hK K
    refine done_ (done_of HT_.out (by kernel_rfl)) ?_
    have hnb29 := Ae.out
    have hnc29 := Ad.out
    obtain ⟨_, _, _⟩ := bc3 Aa.out
    obtain ⟨_, _, _⟩ := bf3 Aa.out
    try go_wp2_with (first | ((with_reducible refine gate_callee (f := 30) rfl ?_); refine goesL_ (some 55) rfl rfl Try.func30 (by kernel_rfl) rfl #[.agg #[.int .i64 (wrap64 (rd t513 0)), .int .i64 (wrap64 (rd t513 1)), .int .i64 (wrap64 (rd t513 2))]] rfl pL ?_; (with_reducible refine (garnerref22_May.calls (wrap64 (rd t513 0)) (wrap64 (rd t513 1)) (wrap64 (rd t513 2)) true _ A21.out).mono ?_); rintro e w31 ⟨rfl, hb⟩; refine ⟨_, rfl, ?_⟩; replace Ac := Am (Kd.R_below (by (with_reducible repeat (first | apply Kd.R_alloc | apply Kd.R_drewN | apply Kd.R_drew)); exact (Kd.R_mono (Rf3 (g := Af) (Kd.R_types Ac.out Aa.out (by decide)) (fun _ hk => hk.2)) (fun _ h_ => h_.1))) hb); replace Ab := Am (blk_below (g := An) (kX1 Ab.out Ad.out) hb); replace Aa := Am (blk_below (g := Af) (kX0 Aa.out) hb); replace HB := Am (below_step (pE2 HB.out Aj.out As.out) hb); (try clear hb); (try clear hb2); (try clear hk); (try clear hi); obtain ⟨_, _, _⟩ := bc3 Aa.out; obtain ⟨_, _, _⟩ := bf3 Aa.out; obtain ⟨_, _, _⟩ := bc3 Ab.out; obtain ⟨_, _, _⟩ := bf3 Ab.out))
    refine bodyPost_ret (results_ct rfl _ _ An 28 #[.int .i64 (wrap64 (rd t513 0)), .int .i64 (wrap64 (rd t513 1)), .int .i64 (wrap64 (rd t513 2))] (0, 0) _ rfl (kX0 Ab.out) Try.underlying28 rfl (by kernel_rfl)) rfl ?_
    exact ⟨pX, pE2 HB.out Aj.out As.out⟩
   replace c22 := Bool.eq_false_iff.mpr c22
   subst c22
   rw [if_neg zF] at H
   simp only [Option.some.injEq, Prod.mk.injEq] at H
   obtain ⟨rfl, rfl, rfl, rfl⟩ := H
   try go_wp2
   replace Ac := dRa Ac
   replace Ab := kDa Ab
   replace HB := bDa HB
   obtain ⟨Ao35, co35, Ay⟩ := Kd.R_slice Ac.out
   (first | subst Ay | (injection Ay with f1_ f2_ f3_; have f4_ := f1_.symm; have f5_ := f3_.symm; clear f1_ f2_ f3_; subst f4_; subst f5_))
   have p521 : 0 ≤ (0 : Int) := (by omega)
   have q521 : 0 < (t513.length : Int) := of_decide_eq_true pS
   obtain ⟨Ao, e521, Ag⟩ := Kd.at_int (Kd.R_reads' Ac.out).2.2 0 p521 q521
   cases e521
   have qi521 : (0 < t513.length) = True := eq_true (by omega)
   (try rw [tz] at Ag)
   (try rw [Addr.add_zero'] at Ag)
   replace p521 := eq_true p521
   replace q521 := eq_true q521
   have p522 : 0 ≤ (1 : Int) := (by omega)
   have q522 : 1 < (t513.length : Int) := of_decide_eq_true pS
   obtain ⟨Av, e522, Ah⟩ := Kd.at_int (Kd.R_reads' Ac.out).2.2 1 p522 q522
   obtain rfl : Ao = Av := (by injection e522)
   (try simp only [show (1 : Int).toNat = 1 from rfl, Nat.reduceMul, Nat.reduceEqDiff, Go.Addr.add, ↓reduceIte] at Ah)
   have qi522 : (1 < t513.length) = True := eq_true (by omega)
   (try rw [show ((1 : Int)).toNat = 1 from rfl] at Ah)
   replace p522 := eq_true p522
   replace q522 := eq_true q522
   have p523 : 0 ≤ (2 : Int) := (by omega)
   have q523 : 2 < (t513.length : Int) := of_decide_eq_true pS
   obtain ⟨Aw, e523, Ai⟩ := Kd.at_int (Kd.R_reads' Ac.out).2.2 2 p523 q523
   obtain rfl : Ao = Aw := (by injection e523)
   (try simp only [show (2 : Int).toNat = 2 from rfl, Nat.reduceMul, Nat.reduceEqDiff, Go.Addr.add, ↓reduceIte] at Ai)
   have qi523 : (2 < t513.length) = True := eq_true (by omega)
   (try rw [show ((2 : Int)).toNat = 2 from rfl] at Ai)
   replace p523 := eq_true p523
   replace q523 := eq_true q523
   refine start_ (n := 15) (S := fun w' => w'.cell? Ao = some (.int .u64 (rd t513 0)) ∧ cA w' Ao 1 (.int .u64 (rd t513 1)) ∧ cA w' Ao 2 (.int .u64 (rd t513 2))) (ds := []) #[false, false, false, false, false, false, false, false, false, false, false, false, false, false, false] (by kernel_rfl) rfl rfl ⟨Ag, Ah, Ai⟩ (fun hHeld => ?_); refine with_tabW garnerref22_Get.tab4 garnerref22_Get.bits4 (fun HT_ HW_ => ?_)
   (first | generalize wc.drew = w34 at Ac Ab HB Ag Ah Ai hHeld ⊢ | generalize wc.drew = w34 at Ab HB Ag Ah Ai hHeld ⊢)
   refine pui 0 41 15 1 HT_ ?_
   refine pui 1 42 15 3 HT_ ?_
   refine pui 4 45 15 19 HT_ ?_
   refine pui 5 46 15 51 HT_ ?_
   refine pui 8 49 15 307 HT_ ?_
   refine pui 9 50 15 819 HT_ ?_
   refine tki 2 43 15 823 HT_ HW_ hHeld ?_
   refine pui 3 44 15 831 HT_ ?_
   refine tki 6 47 15 895 HT_ HW_ hHeld ?_
   refine pui 7 48 15 1023 HT_ ?_
   refine tki 10 51 15 2047 HT_ HW_ hHeld ?_
   refine pui 11 52 15 4095 HT_ ?_
   refine pui 12 53 15 8191 HT_ ?_
   refine onei 13 7 15 16383 HT_ (fun K hK => ?_)
   refine box_step ?hg (N := 7) ?hd (cs := #[.int .i64 0, .int .i64 0, .int .i64 0]) (t := 28) ?hr ?_; (case hd => rfl); (case hg => rfl); (case hr => first | (go_simp; done) | (go_simp; rfl))
   intro Af hg w36 hbox hb
   have HS0_ := (hb.cell (World.block_lt_of_cell? _ _ (hHeld.1))).trans (hHeld.1)
   have HS1_ := (hb.cell (World.block_lt_of_cell? _ _ (hHeld.2.1))).trans (hHeld.2.1)
   have HS2_ := (hb.cell (World.block_lt_of_cell? _ _ (hHeld.2.2))).trans (hHeld.2.2)
   replace Ac := bRa Ac hb
   have Aa := Am (hbox)
   have A5 := Am (zG hg (below_size (pE HB.out Aj.out)))
   have As := Am (zG hg (below_size (pE HB.out Aj.out)))
   replace HB := Am (below_step (pE HB.out Aj.out) hb)
   have Ad := Am (zN hg (kL Ab.out))
   have Ae := Am (zM hg (kL Ab.out))
   replace Ab := kBa Ab hb
   clear hb hbox hg
   refine hK.out _ _ ⟨HS0_, HS1_, HS2_⟩ (fun hHeld => ?_)
   clear hK K
   refine norm_ (a' := ?_) ?_ ?_
   rotate_left
   ·show Act.put _ (some 7) _ = _
    simp only [Act.put, List.setIfInBounds_toArray, List.set_cons_zero, List.set_cons_succ, i64_w, i32_w]
    rfl
   refine one_ (i := 14) (N := none) (bw 15 32767) rfl rfl (one_of HT_.out (by kernel_rfl)) (by decide) (fun K hK => ?_)
   have hs37 : w36.cell? ⟨Af, 0, none⟩ = some (.int .i64 0) := (blk_cell Aa.out 0).trans rfl
   have hfs37 := blk_frozen Aa.out 0
   have hns37_0 := Ad.out
   have hms37_0 := Ae.out
   have hs38 : w36.cell? ⟨Af, 1, none⟩ = some (.int .i64 0) := (blk_cell Aa.out 1).trans rfl
   have hfs38 := blk_frozen Aa.out 1
   have hns38_0 := Ad.out
   have hms38_0 := Ae.out
   have hs39 : w36.cell? ⟨Af, 2, none⟩ = some (.int .i64 0) := (blk_cell Aa.out 2).trans rfl
   have hfs39 := blk_frozen Aa.out 2
   have hns39_0 := Ad.out
   have hms39_0 := Ae.out
   refine skip_ (w1 := ?_) (by rfl) rfl ?_ ?_
   rotate_left
   ·go_simp
    rfl
   refine hK.out _ _ ⟨(cX1 hHeld.1 (by first | exact Kd.own_blk (Kd.R_ne Ac.out Aa.out (by decide)) | (rw [add_block]; exact Kd.own_blk (Kd.R_ne Ac.out Aa.out (by decide))) | (show (Addr.add _ _).block ≠ _; rw [add_block]; exact Kd.own_blk (Kd.R_ne Ac.out Aa.out (by decide))) | (dsimp only; exact Kd.own_blk (Kd.R_ne Ac.out Aa.out (by decide))))), (cX1 hHeld.2.1 (by first | exact Kd.own_blk (Kd.R_ne Ac.out Aa.out (by decide)) | (rw [add_block]; exact Kd.own_blk (Kd.R_ne Ac.out Aa.out (by decide))) | (show (Addr.add _ _).block ≠ _; rw [add_block]; exact Kd.own_blk (Kd.R_ne Ac.out Aa.out (by decide))) | (dsimp only; exact Kd.own_blk (Kd.R_ne Ac.out Aa.out (by decide))))), (cX1 hHeld.2.2 (by first | exact Kd.own_blk (Kd.R_ne Ac.out Aa.out (by decide)) | (rw [add_block]; exact Kd.own_blk (Kd.R_ne Ac.out Aa.out (by decide))) | (show (Addr.add _ _).block ≠ _; rw [add_block]; exact Kd.own_blk (Kd.R_ne Ac.out Aa.out (by decide))) | (dsimp only; exact Kd.own_blk (Kd.R_ne Ac.out Aa.out (by decide)))))⟩ (fun hHeld => ?_)
   clear hK K
   refine done_ (done_of HT_.out (by kernel_rfl)) ?_
   have hnb40 := Ae.out
   have hnc40 := Ad.out
   obtain ⟨_, _, _⟩ := bc3 Aa.out
   obtain ⟨_, _, _⟩ := bf3 Aa.out
   try go_wp2_with (first | ((with_reducible refine gate_callee (f := 30) rfl ?_); refine goesL_ (some 55) rfl rfl Try.func30 (by kernel_rfl) rfl #[.agg #[.int .i64 (wrap64 (rd t513 0)), .int .i64 (wrap64 (rd t513 1)), .int .i64 (wrap64 (rd t513 2))]] rfl pL ?_; (with_reducible refine (garnerref22_May.calls (wrap64 (rd t513 0)) (wrap64 (rd t513 1)) (wrap64 (rd t513 2)) false _ A21.out).mono ?_); rintro e w42 ⟨rfl, hb⟩; refine ⟨_, rfl, ?_⟩; replace Ac := Am (Kd.R_below (by (with_reducible repeat (first | apply Kd.R_alloc | apply Kd.R_drewN | apply Kd.R_drew)); exact (Kd.R_mono (Rf3 (g := Af) (Kd.R_types Ac.out Aa.out (by decide)) (fun _ hk => hk.2)) (fun _ h_ => h_.1))) hb); replace Ab := Am (blk_below (g := An) (kX1 Ab.out Ad.out) hb); replace Aa := Am (blk_below (g := Af) (kX0 Aa.out) hb); replace HB := Am (below_step (pE2 HB.out Aj.out As.out) hb); (try clear hb); (try clear hb2); (try clear hk); (try clear hi); obtain ⟨_, _, _⟩ := bc3 Ab.out; obtain ⟨_, _, _⟩ := bf3 Ab.out))
   refine bodyPost_ret (results_ct rfl _ _ An 28 #[.int .i64 0, .int .i64 0, .int .i64 0] (0, 0) _ rfl (kX0 Ab.out) Try.underlying28 rfl (by kernel_rfl)) rfl ?_
   exact ⟨pX, pE2 HB.out Aj.out As.out⟩
end Go.Proofs.Ytdanmjfkocjgjaa.PWalGets
