/- What the law reaches, as plain Lean functions, and that the machine's calls answer just that. -/
import Derived.Test.YtdanmjfkocjgjaaPWalGetsx0
import Derived.Test.YtdanmjfkocjgjaaPWalGetsx14
import Derived.Test.YtdanmjfkocjgjaaPWalGetsx17
namespace Go.Proofs.Ytdanmjfkocjgjaa.PWalGets
open Go.RowKit Go.Proofs.YtdanmjfkocjgjaaW.PrintWords Go.Proofs.YtdanmjfkocjgjaaW.PrintLast Go.Proofs.YtdanmjfkocjgjaaW.PrintMore
attribute [local go_sem] max2_int min2_int max_two min_two max_three min_three max_four min_four
set_option linter.unusedVariables false
set_option linter.unusedSimpArgs false
attribute [local go_sem] wrap64_l1 wrap64_l2 wrap64_l3 wrap64_l4 wrap64_l5
mutual
def garnerref04_Get.j0 : Nat → List Int → List Int → Int → Bool → Option (Int × Int × Int × Int × Int)
 | 0, _, _, _, _ => none
 | k + 1, x0, x4, x5, x41 => if x41 = true then (some (0, 0, 0, 0, 0)) else (if 0 < (x4.length : Int) then (if 1 < (x4.length : Int) then (if 2 < (x4.length : Int) then (garnerref04_Get.l0 k x0 x5 3 (wrap64 (rd x4 0)) (wrap64 (rd x4 1)) (wrap64 (rd x4 2)) 0) else (none)) else (none)) else (none))
def garnerref04_Get.l0 : Nat → List Int → Int → Int → Int → Int → Int → Int → Option (Int × Int × Int × Int × Int)
 | 0, _, _, _, _, _, _, _ => none
 | k + 1, x0, x5, x8, x442000, x442001, x442002, x442003 => if x8 ≥ 0 then (if 0 ≤ (wrap64 (x5 + x8)) then (if (wrap64 (x5 + x8)) < (x0.length : Int) then (garnerref04_Get.l0 k x0 x5 (wrap64 (x8 - 1)) x442000 x442001 x442002 ((((x442003 * 256) % 4294967296) + ((rd x0 (wrap64 (x5 + x8))) % 4294967296)) % 4294967296)) else (none)) else (none)) else ((garnerref04_May.f x442000 x442001 x442002 x442003).bind fun t443 => (if t443 = true then (some (x442000, x442001, x442002, x442003, wrap64 (x5 + 4))) else (some (0, 0, 0, 0, 0))))
end
def garnerref04_Get.f (k : Nat) (l0 : List Int) : Option (Int × Int × Int × Int × Int) := (garnerref02_All.f k l0 3).bind fun bt430 => (if bt430.2.2 = 0 then (if (wrap64 (bt430.2.1 + 4)) > (l0.length : Int) then (garnerref04_Get.j0 k l0 bt430.1 bt430.2.1 true) else (if 0 < (bt430.1.length : Int) then (if (rd bt430.1 0) > 2147483647 then (garnerref04_Get.j0 k l0 bt430.1 bt430.2.1 true) else (if 1 < (bt430.1.length : Int) then (if (rd bt430.1 1) > 2147483647 then (garnerref04_Get.j0 k l0 bt430.1 bt430.2.1 true) else (if 2 < (bt430.1.length : Int) then (garnerref04_Get.j0 k l0 bt430.1 bt430.2.1 (decide ((rd bt430.1 2) > 4096))) else (none))) else (none))) else (none))) else (garnerref04_Get.j0 k l0 bt430.1 bt430.2.1 true))
theorem garnerref04_Get.mono_l : ∀ k, (∀ y0 y1 y2 y3, LeO (garnerref04_Get.j0 k y0 y1 y2 y3) (garnerref04_Get.j0 (k + 1) y0 y1 y2 y3)) ∧ (∀ y0 y1 y2 y3 y4 y5 y6, LeO (garnerref04_Get.l0 k y0 y1 y2 y3 y4 y5 y6) (garnerref04_Get.l0 (k + 1) y0 y1 y2 y3 y4 y5 y6))
 | 0 => ⟨fun _ _ _ _ r h => by simp [garnerref04_Get.j0] at h, fun _ _ _ _ _ _ _ r h => by simp [garnerref04_Get.l0] at h⟩
 | k + 1 => by
  obtain ⟨ih0, ih1⟩ := garnerref04_Get.mono_l k
  refine ⟨?_, ?_⟩
  ·intro y0 y1 y2 y3
   unfold garnerref04_Get.j0
   repeat' (with_reducible first | exact ih0 .. | exact ih1 .. | exact garnerref02_All.mono .. | exact LeO.refl .. | exact LeO.none .. | refine LeO.ite ?_ ?_ | refine LeO.bind ?_ (fun _ => ?_))
  ·intro y0 y1 y2 y3 y4 y5 y6
   unfold garnerref04_Get.l0
   repeat' (with_reducible first | exact ih0 .. | exact ih1 .. | exact garnerref02_All.mono .. | exact LeO.refl .. | exact LeO.none .. | refine LeO.ite ?_ ?_ | refine LeO.bind ?_ (fun _ => ?_))
theorem garnerref04_Get.mono : ∀ a0 k, LeO (garnerref04_Get.f k a0) (garnerref04_Get.f (k + 1) a0) := by
 intro a0 k
 obtain ⟨ih0, ih1⟩ := garnerref04_Get.mono_l k
 unfold garnerref04_Get.f
 repeat' (with_reducible first | exact ih0 .. | exact ih1 .. | exact garnerref02_All.mono .. | exact LeO.refl .. | exact LeO.none .. | refine LeO.ite ?_ ?_ | refine LeO.bind ?_ (fun _ => ?_))
def garnerref04_Get.T4 : Bool × List (List Nat × List Nat) := (true, [([], []), ([0], [0]), ([1], [1]), ([2], [2]), ([], []), ([4], [4]), ([5], [5]), ([6], [6]), ([], []), ([8], [8]), ([9], [9]), ([10], [10]), ([3, 7, 11], [3, 7, 11]), ([], []), ([13, 12, 0, 1, 2, 3, 4, 5, 6, 7, 8, 9, 10, 11, 12, 13], [12, 13])])
def garnerref04_Get.B4 : List Nat := [0, 1, 3, 7, 0, 16, 48, 112, 0, 256, 768, 1792, 4095, 0, 16383]
theorem garnerref04_Get.tab4 : rtab .any (opsOf Try.f79 4) = garnerref04_Get.T4 := by kernel_rfl
theorem garnerref04_Get.bits4 : waitsOk garnerref04_Get.T4.2 garnerref04_Get.B4 = true := by kernel_rfl
def garnerref04_Get.T8 : Bool × List (List Nat × List Nat) := (true, [([], []), ([0], [0]), ([1], [1]), ([], []), ([], []), ([], []), ([4, 5], [4, 5]), ([3, 6], [3, 6]), ([7], [7]), ([8], [8]), ([2, 9], [2, 9]), ([0, 1, 2, 3, 4, 5, 6, 7, 8, 9, 10], []), ([11, 10, 0, 1, 2, 3, 4, 5, 6, 7, 8, 9, 10], [10, 11])])
def garnerref04_Get.B8 : List Nat := [0, 1, 3, 0, 0, 0, 48, 120, 248, 504, 1023, 2047, 4095]
theorem garnerref04_Get.tab8 : rtab .any (opsOf Try.f79 8) = garnerref04_Get.T8 := by kernel_rfl
theorem garnerref04_Get.bits8 : waitsOk garnerref04_Get.T8.2 garnerref04_Get.B8 = true := by kernel_rfl
set_option maxHeartbeats 8000000 in
set_option maxRecDepth 100000 in
theorem garnerref04_Get.calls (k : Nat) (A0 : Option Addr) (c0 : Nat) (l0 : List Int) (r1 : Int) (r2 : Int) (r3 : Int) (r4 : Int) (r5 : Int) (w : World) (hr0 : Kd.C (Kd.int .u8) w A0 l0.length l0) (hc0 : l0.length ≤ c0) (h : garnerref04_Get.f k l0 = some (r1, r2, r3, r4, r5)) :
 Calls Try.prog 79 #[.slice A0 l0.length c0] w fun e w' => e = .returned (.tuple #[.agg #[.int .i64 r1, .int .i64 r2, .int .i64 r3, .int .u32 r4], .int .i64 r5]) ∧ Below w.heap.size w w' := by
 have hu48 := Try.underlying48
 have HR0 := Am hr0
 have HC0 := Am hc0
 clear hr0 hc0
 have HB := Am (Below.refl w.heap.size w)
 unfold garnerref04_Get.f at h
 have H := h
 clear h
 replace H := Option.bind_eq_some_iff.mp H
 obtain ⟨⟨t430, t431, t432⟩, A20, H⟩ := H
 dsimp only at H
 have A2 := Am A20
 clear A20
 have HC3 := Am H
 clear H
 go_enter Try.func79, Try.ntmps79
 go_upto_region 2 with (first | ((with_reducible refine gate_dst (N := 2) rfl ?_); (try (refine gate_guard (by rfl) ?_; dsimp only)); refine zE 2 #[.int .i64 0, .int .i64 0, .int .i64 0, .int .u32 0] 48 ?_; intro Ap hg w4 hbox hb; have Ac := Am (hbox); have Ba := Am (zG hg (below_size (pB HB.out))); replace HB := Am (below_step (pB HB.out) hb); have Ag := Ba; clear hb hbox hg) | ((with_reducible refine gate_callee (f := 46) rfl ?_); refine goesL_ (some 11) rfl rfl Try.func46 (by kernel_rfl) rfl #[.slice A0 l0.length c0, .int .i64 3] rfl pL ?_; (with_reducible refine (garnerref02_All.calls k _ _ l0 3 t430 t431 t432 _ ?Bb ?Bc A2.out).mono ?_); (case Bb => exact pC (Kd.C_below HR0.out HB.out)); (case Bc => exact HC0.out); rintro e w5 ⟨v433, rfl, ho0, hb⟩; refine ⟨_, rfl, ?_⟩; have Ah := Am (Kd.R_lower ho0 (below_size (pE HB.out Ag.out))); replace Ac := kBa Ac hb; replace HB := Am (below_step (pE HB.out Ag.out) hb); (try clear hb); (try clear hb2); (try clear hk); (try clear hi); (try clear ho0)))
 (try simp only [Act.put, List.setIfInBounds_toArray, List.set_cons_zero, List.set_cons_succ])
 go_cut [41] (fun v41 wc => ∃ (kq : Nat) (Aw : Bool), v41 = .bool Aw ∧ Aside0 (garnerref04_Get.j0 kq l0 t430 t431 Aw = some (r1, r2, r3, r4, r5)) ∧ Aside0 (kq ≤ k) ∧ Aside0 (Kd.R (Kd.int .u64) 61 wc w.heap.size (fun _ => True) v433 t430) ∧ Aside0 (wc.heap[Ap]? = some (.cells #[.int .i64 0, .int .i64 0, .int .i64 0, .int .u32 0] 48 (0, 0))) ∧ Aside0 (Below w.heap.size w wc))
 case first =>
  have H := HC3.out
  clear HC3
  by_cases c6 : t432 = 0
  rotate_left
  ·rw [if_neg c6] at H
   have c6b0 := beq_eq_false_iff_ne.mpr c6
   have c6b1 := bne_iff_ne.mpr c6
   (first | rw [c6b0] | (simp only [i64_w, i32_w]; rw [c6b0]) | skip)
   have H' := Am H
   clear H
   go_wp2
   go_meet
   case rel => exact ⟨_, (true), zr, H', ⟨zo⟩, ⟨by (with_reducible repeat (first | apply Kd.R_alloc | apply Kd.R_drewN | apply Kd.R_drew)); exact Ah.out⟩, ⟨pK Ac.out⟩, ⟨pE HB.out Ag.out⟩⟩
  rw [if_pos c6] at H
  have c6b0 := beq_iff_eq.mpr c6
  have c6b1 := bne_eq_false_iff_eq.mpr c6
  clear c6
  (first | rw [c6b0] | (simp only [i64_w, i32_w]; rw [c6b0]) | skip)
  by_cases c7 : (wrap64 (t431 + 4)) > (l0.length : Int)
  ·rw [if_pos c7] at H
   have c7b0 : decide ((l0.length : Int) < (wrap64 (t431 + 4))) = true := decide_eq_true c7
   clear c7
   have H' := Am H
   clear H
   go_wp2
   go_meet
   case rel => exact ⟨_, (true), zr, H', ⟨zo⟩, ⟨by (with_reducible repeat (first | apply Kd.R_alloc | apply Kd.R_drewN | apply Kd.R_drew)); exact Ah.out⟩, ⟨pK Ac.out⟩, ⟨pE HB.out Ag.out⟩⟩
  rw [if_neg c7] at H
  have c7b0 : decide ((l0.length : Int) < (wrap64 (t431 + 4))) = false := decide_eq_false c7
  clear c7
  obtain ⟨c8, H⟩ := zI H
  have c8b0 := decide_eq_true c8
  have c8b1 : decide (0 < t430.length) = true := decide_eq_true (by omega)
  clear c8
  by_cases c9 : (rd t430 0) > 2147483647
  ·rw [if_pos c9] at H
   have c9b0 : decide (2147483647 < (rd t430 0)) = true := decide_eq_true c9
   clear c9
   have H' := Am H
   clear H
   obtain ⟨Ao10, co10, Bh⟩ := Kd.R_slice Ah.out
   subst Bh
   have p435 : 0 ≤ (0 : Int) := (by omega)
   have q435 : 0 < (t430.length : Int) := of_decide_eq_true pS
   obtain ⟨Au, e435, Af⟩ := Kd.at_int (Kd.R_reads' Ah.out).2.2 0 p435 q435
   cases e435
   have qi435 : (0 < t430.length) = True := eq_true (by omega)
   (try rw [tz] at Af)
   (try rw [Addr.add_zero'] at Af)
   replace p435 := eq_true p435
   replace q435 := eq_true q435
   go_wp2
   go_meet
   case rel => exact ⟨_, (true), zr, H', ⟨zo⟩, ⟨by (with_reducible repeat (first | apply Kd.R_alloc | apply Kd.R_drewN | apply Kd.R_drew)); exact Ah.out⟩, ⟨pK Ac.out⟩, ⟨pE HB.out Ag.out⟩⟩
  rw [if_neg c9] at H
  have c9b0 : decide (2147483647 < (rd t430 0)) = false := decide_eq_false c9
  clear c9
  obtain ⟨c11, H⟩ := zI H
  have c11b0 := decide_eq_true c11
  have c11b1 : decide (1 < t430.length) = true := decide_eq_true (by omega)
  clear c11
  by_cases c12 : (rd t430 1) > 2147483647
  ·rw [if_pos c12] at H
   have c12b0 : decide (2147483647 < (rd t430 1)) = true := decide_eq_true c12
   clear c12
   have H' := Am H
   clear H
   obtain ⟨Ao13, co13, Bi⟩ := Kd.R_slice Ah.out
   subst Bi
   have p435 : 0 ≤ (0 : Int) := (by omega)
   have q435 : 0 < (t430.length : Int) := of_decide_eq_true pS
   obtain ⟨Au, e435, Af⟩ := Kd.at_int (Kd.R_reads' Ah.out).2.2 0 p435 q435
   cases e435
   have qi435 : (0 < t430.length) = True := eq_true (by omega)
   (try rw [tz] at Af)
   (try rw [Addr.add_zero'] at Af)
   replace p435 := eq_true p435
   replace q435 := eq_true q435
   have p436 : 0 ≤ (1 : Int) := (by omega)
   have q436 : 1 < (t430.length : Int) := of_decide_eq_true pS
   obtain ⟨Ax, e436, Ak⟩ := Kd.at_int (Kd.R_reads' Ah.out).2.2 1 p436 q436
   obtain rfl : Au = Ax := (by injection e436)
   (try simp only [show (1 : Int).toNat = 1 from rfl, Nat.reduceMul, Nat.reduceEqDiff, Go.Addr.add, ↓reduceIte] at Ak)
   have qi436 : (1 < t430.length) = True := eq_true (by omega)
   (try rw [show ((1 : Int)).toNat = 1 from rfl] at Ak)
   replace p436 := eq_true p436
   replace q436 := eq_true q436
   go_wp2
   go_meet
   case rel => exact ⟨_, (true), zr, H', ⟨zo⟩, ⟨by (with_reducible repeat (first | apply Kd.R_alloc | apply Kd.R_drewN | apply Kd.R_drew)); exact Ah.out⟩, ⟨pK Ac.out⟩, ⟨pE HB.out Ag.out⟩⟩
  rw [if_neg c12] at H
  have c12b0 : decide (2147483647 < (rd t430 1)) = false := decide_eq_false c12
  clear c12
  obtain ⟨c14, H⟩ := zI H
  have c14b0 := decide_eq_true c14
  have c14b1 : decide (2 < t430.length) = true := decide_eq_true (by omega)
  clear c14
  have H' := Am H
  clear H
  obtain ⟨Ao15, co15, Bj⟩ := Kd.R_slice Ah.out
  subst Bj
  have p435 : 0 ≤ (0 : Int) := (by omega)
  have q435 : 0 < (t430.length : Int) := of_decide_eq_true pS
  obtain ⟨Au, e435, Af⟩ := Kd.at_int (Kd.R_reads' Ah.out).2.2 0 p435 q435
  cases e435
  have qi435 : (0 < t430.length) = True := eq_true (by omega)
  (try rw [tz] at Af)
  (try rw [Addr.add_zero'] at Af)
  replace p435 := eq_true p435
  replace q435 := eq_true q435
  have p436 : 0 ≤ (1 : Int) := (by omega)
  have q436 : 1 < (t430.length : Int) := of_decide_eq_true pS
  obtain ⟨Ax, e436, Ak⟩ := Kd.at_int (Kd.R_reads' Ah.out).2.2 1 p436 q436
  obtain rfl : Au = Ax := (by injection e436)
  (try simp only [show (1 : Int).toNat = 1 from rfl, Nat.reduceMul, Nat.reduceEqDiff, Go.Addr.add, ↓reduceIte] at Ak)
  have qi436 : (1 < t430.length) = True := eq_true (by omega)
  (try rw [show ((1 : Int)).toNat = 1 from rfl] at Ak)
  replace p436 := eq_true p436
  replace q436 := eq_true q436
  have p437 : 0 ≤ (2 : Int) := (by omega)
  have q437 : 2 < (t430.length : Int) := of_decide_eq_true pS
  obtain ⟨Bd, e437, Aq⟩ := Kd.at_int (Kd.R_reads' Ah.out).2.2 2 p437 q437
  obtain rfl : Au = Bd := (by injection e437)
  (try simp only [show (2 : Int).toNat = 2 from rfl, Nat.reduceMul, Nat.reduceEqDiff, Go.Addr.add, ↓reduceIte] at Aq)
  have qi437 : (2 < t430.length) = True := eq_true (by omega)
  (try rw [show ((2 : Int)).toNat = 2 from rfl] at Aq)
  replace p437 := eq_true p437
  replace q437 := eq_true q437
  go_wp2
  go_meet
  case rel => exact ⟨_, (decide ((rd t430 2) > 4096)), zr, H', ⟨zo⟩, ⟨by (with_reducible repeat (first | apply Kd.R_alloc | apply Kd.R_drewN | apply Kd.R_drew)); exact Ah.out⟩, ⟨pK Ac.out⟩, ⟨pE HB.out Ag.out⟩⟩
 case rest =>
  clear HC3
  try clear c1
  try clear p2
  try clear c4
  try clear p4
  try clear q4
  try clear hx4
  try clear qi4
  try clear c6
  try clear c6b0
  try clear c6b1
  try clear p6
  try clear c7
  try clear c7b0
  try clear c8
  try clear c8b0
  try clear c8b1
  try clear c9
  try clear c9b0
  try clear c11
  try clear c11b0
  try clear c11b1
  try clear c12
  try clear c12b0
  try clear c14
  try clear c14b0
  try clear c14b1
  try clear Af
  try clear Ak
  try clear Aq
  try clear p435
  try clear p436
  try clear p437
  try clear q435
  try clear q436
  try clear q437
  obtain ⟨kq, Aw, rfl, HA, HJ2, Aj, Ac, HB⟩ := hcut
  cases kq with
  | zero => exact absurd HA.out (by simp [garnerref04_Get.j0])
  | succ kj2 =>
   have H := HA.out
   clear HA
   simp only [garnerref04_Get.j0] at H
   by_cases c16 : Aw = true
   ·subst c16
    rw [if_pos rfl] at H
    simp only [Option.some.injEq, Prod.mk.injEq] at H
    obtain ⟨rfl, rfl, rfl, rfl, rfl⟩ := H
    obtain ⟨Ay, Az, A1, A3⟩ := bc4 Ac.out
    obtain ⟨A4, A5, A6, A7⟩ := bf4 Ac.out
    go_wp2
    refine bodyPost_ret (results_ct rfl _ _ Ap 48 #[.int .i64 0, .int .i64 0, .int .i64 0, .int .u32 0] (0, 0) _ rfl (kX0 Ac.out) Try.underlying48 rfl (by kernel_rfl)) rfl ?_
    exact ⟨pX, pE HB.out Ag.out⟩
   replace c16 := Bool.eq_false_iff.mpr c16
   subst c16
   rw [if_neg zF] at H
   obtain ⟨c18, H⟩ := zI H
   have c18b0 := decide_eq_true c18
   have c18b1 : decide (0 < t430.length) = true := decide_eq_true (by omega)
   clear c18
   obtain ⟨c19, H⟩ := zI H
   have c19b0 := decide_eq_true c19
   have c19b1 : decide (1 < t430.length) = true := decide_eq_true (by omega)
   clear c19
   obtain ⟨c20, H⟩ := zI H
   have c20b0 := decide_eq_true c20
   have c20b1 : decide (2 < t430.length) = true := decide_eq_true (by omega)
   clear c20
   have H' := Am H
   clear H
   try go_wp2
   replace Aj := dRa Aj
   replace Ac := kDa Ac
   replace HB := bDa HB
   obtain ⟨Ao22, co22, A9⟩ := Kd.R_slice Aj.out
   (first | subst A9 | (injection A9 with f1_ f2_ f3_; have f4_ := f1_.symm; have f5_ := f3_.symm; clear f1_ f2_ f3_; subst f4_; subst f5_))
   have p438 : 0 ≤ (0 : Int) := (by omega)
   have q438 : 0 < (t430.length : Int) := of_decide_eq_true pS
   obtain ⟨Av, e438, Al⟩ := Kd.at_int (Kd.R_reads' Aj.out).2.2 0 p438 q438
   cases e438
   have qi438 : (0 < t430.length) = True := eq_true (by omega)
   (try rw [tz] at Al)
   (try rw [Addr.add_zero'] at Al)
   replace p438 := eq_true p438
   replace q438 := eq_true q438
   have p439 : 0 ≤ (1 : Int) := (by omega)
   have q439 : 1 < (t430.length : Int) := of_decide_eq_true pS
   obtain ⟨Be, e439, An⟩ := Kd.at_int (Kd.R_reads' Aj.out).2.2 1 p439 q439
   obtain rfl : Av = Be := (by injection e439)
   (try simp only [show (1 : Int).toNat = 1 from rfl, Nat.reduceMul, Nat.reduceEqDiff, Go.Addr.add, ↓reduceIte] at An)
   have qi439 : (1 < t430.length) = True := eq_true (by omega)
   (try rw [show ((1 : Int)).toNat = 1 from rfl] at An)
   replace p439 := eq_true p439
   replace q439 := eq_true q439
   have p440 : 0 ≤ (2 : Int) := (by omega)
   have q440 : 2 < (t430.length : Int) := of_decide_eq_true pS
   obtain ⟨Bf, e440, Ao⟩ := Kd.at_int (Kd.R_reads' Aj.out).2.2 2 p440 q440
   obtain rfl : Av = Bf := (by injection e440)
   (try simp only [show (2 : Int).toNat = 2 from rfl, Nat.reduceMul, Nat.reduceEqDiff, Go.Addr.add, ↓reduceIte] at Ao)
   have qi440 : (2 < t430.length) = True := eq_true (by omega)
   (try rw [show ((2 : Int)).toNat = 2 from rfl] at Ao)
   replace p440 := eq_true p440
   replace q440 := eq_true q440
   refine start_ (n := 15) (S := fun w' => w'.cell? Av = some (.int .u64 (rd t430 0)) ∧ cA w' Av 1 (.int .u64 (rd t430 1)) ∧ cA w' Av 2 (.int .u64 (rd t430 2))) (ds := []) #[false, false, false, false, false, false, false, false, false, false, false, false, false, false, false] (by kernel_rfl) rfl rfl ⟨Al, An, Ao⟩ (fun hHeld => ?_); refine with_tabW garnerref04_Get.tab4 garnerref04_Get.bits4 (fun HT_ HW_ => ?_)
   (first | generalize wc.drew = w21 at Aj Ac HB Al An Ao hHeld ⊢ | generalize wc.drew = w21 at Ac HB Al An Ao hHeld ⊢)
   refine pui 0 43 15 1 HT_ ?_
   refine pui 1 44 15 3 HT_ ?_
   refine pui 4 47 15 19 HT_ ?_
   refine pui 5 48 15 51 HT_ ?_
   refine pui 8 51 15 307 HT_ ?_
   refine pui 9 52 15 819 HT_ ?_
   refine tki 2 45 15 823 HT_ HW_ hHeld ?_
   refine pui 3 46 15 831 HT_ ?_
   refine tki 6 49 15 895 HT_ HW_ hHeld ?_
   refine pui 7 50 15 1023 HT_ ?_
   refine tki 10 53 15 2047 HT_ HW_ hHeld ?_
   refine pui 11 54 15 4095 HT_ ?_
   refine pui 12 55 15 8191 HT_ ?_
   refine onei 13 7 15 16383 HT_ (fun K hK => ?_)
   refine box_step ?hg (N := 7) ?hd (cs := #[.int .i64 0, .int .i64 0, .int .i64 0, .int .u32 0]) (t := 48) ?hr ?_; (case hd => rfl); (case hg => rfl); (case hr => first | (go_simp; done) | (go_simp; rfl))
   intro Ai hg w23 hbox hb
   have HS0_ := (hb.cell (World.block_lt_of_cell? _ _ (hHeld.1))).trans (hHeld.1)
   have HS1_ := (hb.cell (World.block_lt_of_cell? _ _ (hHeld.2.1))).trans (hHeld.2.1)
   have HS2_ := (hb.cell (World.block_lt_of_cell? _ _ (hHeld.2.2))).trans (hHeld.2.2)
   replace Aj := bRa Aj hb
   have Aa := Am (hbox)
   have GW441 := Am (zG hg (below_size (pE HB.out Ag.out)))
   have At := Am (zG hg (below_size (pE HB.out Ag.out)))
   replace HB := Am (below_step (pE HB.out Ag.out) hb)
   have Ad := Am (zN hg (kL Ac.out))
   have Ae := Am (zM hg (kL Ac.out))
   replace Ac := kBa Ac hb
   clear hb hbox hg
   refine hK.out _ _ ⟨HS0_, HS1_, HS2_⟩ (fun hHeld => ?_)
   clear hK K
   refine norm_ (a' := ?_) ?_ ?_
   rotate_left
   ·show Act.put _ (some 7) _ = _
    simp only [Act.put, List.setIfInBounds_toArray, List.set_cons_zero, List.set_cons_succ, i64_w, i32_w]
    rfl
   refine one_ (i := 14) (N := none) (bw 15 32767) rfl rfl (one_of HT_.out (by kernel_rfl)) (by decide) (fun K hK => ?_)
   have hs24 : w23.cell? ⟨Ai, 0, none⟩ = some (.int .i64 0) := (blk_cell Aa.out 0).trans rfl
   have hfs24 := blk_frozen Aa.out 0
   have hns24_0 := Ad.out
   have hms24_0 := Ae.out
   have hs25 : w23.cell? ⟨Ai, 1, none⟩ = some (.int .i64 0) := (blk_cell Aa.out 1).trans rfl
   have hfs25 := blk_frozen Aa.out 1
   have hns25_0 := Ad.out
   have hms25_0 := Ae.out
   have hs26 : w23.cell? ⟨Ai, 2, none⟩ = some (.int .i64 0) := (blk_cell Aa.out 2).trans rfl
   have hfs26 := blk_frozen Aa.out 2
   have hns26_0 := Ad.out
   have hms26_0 := Ae.out
   have hs27 : w23.cell? ⟨Ai, 3, none⟩ = some (.int .u32 0) := (blk_cell Aa.out 3).trans rfl
   have hfs27 := blk_frozen Aa.out 3
   have hns27_0 := Ad.out
   have hms27_0 := Ae.out
   refine skip_ (w1 := ?_) (by rfl) rfl ?_ ?_
   rotate_left
   ·go_simp
    rfl
   refine hK.out _ _ ⟨(cX1 hHeld.1 (by first | exact Kd.own_blk (Kd.R_ne Aj.out Aa.out (by decide)) | (rw [add_block]; exact Kd.own_blk (Kd.R_ne Aj.out Aa.out (by decide))) | (show (Addr.add _ _).block ≠ _; rw [add_block]; exact Kd.own_blk (Kd.R_ne Aj.out Aa.out (by decide))) | (dsimp only; exact Kd.own_blk (Kd.R_ne Aj.out Aa.out (by decide))))), (cX1 hHeld.2.1 (by first | exact Kd.own_blk (Kd.R_ne Aj.out Aa.out (by decide)) | (rw [add_block]; exact Kd.own_blk (Kd.R_ne Aj.out Aa.out (by decide))) | (show (Addr.add _ _).block ≠ _; rw [add_block]; exact Kd.own_blk (Kd.R_ne Aj.out Aa.out (by decide))) | (dsimp only; exact Kd.own_blk (Kd.R_ne Aj.out Aa.out (by decide))))), (cX1 hHeld.2.2 (by first | exact Kd.own_blk (Kd.R_ne Aj.out Aa.out (by decide)) | (rw [add_block]; exact Kd.own_blk (Kd.R_ne Aj.out Aa.out (by decide))) | (show (Addr.add _ _).block ≠ _; rw [add_block]; exact Kd.own_blk (Kd.R_ne Aj.out Aa.out (by decide))) | (dsimp only; exact Kd.own_blk (Kd.R_ne Aj.out Aa.out (by decide)))))⟩ (fun hHeld => ?_)
   clear hK K
   refine done_ (done_of HT_.out (by kernel_rfl)) ?_
   try go_wp2
   go_loopg [8] kj2 (fun kq v8 w' => ∃ (As : Int) (Ab : Int), v8 = .int .i64 As ∧ Aside0 (garnerref04_Get.l0 kq l0 t431 As (wrap64 (rd t430 0)) (wrap64 (rd t430 1)) (wrap64 (rd t430 2)) Ab = some (r1, r2, r3, r4, r5)) ∧ Aside0 (kq ≤ kj2) ∧ Aside0 (w'.heap[Ap]? = some (.cells #[.int .i64 0, .int .i64 0, .int .i64 0, .int .u32 0] 48 (0, 0))) ∧ Aside0 (w'.heap[Ai]? = some (.cells #[.int .i64 (wrap64 (rd t430 0)), .int .i64 (wrap64 (rd t430 1)), .int .i64 (wrap64 (rd t430 2)), .int .u32 Ab] 48 (0, 0))) ∧ Aside0 (Below w.heap.size w w'))
   case atStart => exact ⟨(3), (0), zr, H', ⟨Nat.le_refl _⟩, ⟨kX1 Ac.out Ad.out⟩, ⟨kX0 Aa.out⟩, ⟨pE2 HB.out Ag.out At.out⟩⟩
   case round =>
    clear H'
    try clear c1
    try clear c2
    try clear p2
    try clear c4
    try clear p4
    try clear q4
    try clear hx4
    try clear qi4
    try clear c6
    try clear c6b0
    try clear c6b1
    try clear p6
    try clear c7
    try clear c7b0
    try clear c8
    try clear c8b0
    try clear c8b1
    try clear c9
    try clear c9b0
    try clear c11
    try clear c11b0
    try clear c11b1
    try clear c12
    try clear c12b0
    try clear c14
    try clear c14b0
    try clear c14b1
    try clear c16
    try clear c18
    try clear c18b0
    try clear c18b1
    try clear c19
    try clear c19b0
    try clear c19b1
    try clear c20
    try clear c20b0
    try clear c20b1
    try clear Ay Az A1 A3
    try clear A4 A5 A6 A7
    try clear Af
    try clear Ak
    try clear Aq
    try clear Al
    try clear An
    try clear Ao
    try clear p2
    try clear p4
    try clear p435
    try clear p436
    try clear p437
    try clear p438
    try clear p439
    try clear p440
    try clear p6
    try clear q4
    try clear q435
    try clear q436
    try clear q437
    try clear q438
    try clear q439
    try clear q440
    obtain ⟨As, Ab, rfl, HA, HK2, Ac, Aa, HB⟩ := hrel
    cases gk with
    | zero => exact absurd HA.out (by simp [garnerref04_Get.l0])
    | succ k2 =>
     have H := HA.out
     clear HA
     simp only [garnerref04_Get.l0] at H
     by_cases c28 : As ≥ 0
     rotate_left
     ·rw [if_neg c28] at H
      have c28b0 : decide (0 ≤ As) = false := decide_eq_false c28
      clear c28
      replace H := Option.bind_eq_some_iff.mp H
      obtain ⟨t443, A340, H⟩ := H
      have A34 := Am A340
      clear A340
      by_cases c35 : t443 = true
      ·subst c35
       rw [if_pos rfl] at H
       simp only [Option.some.injEq, Prod.mk.injEq] at H
       obtain ⟨rfl, rfl, rfl, rfl, rfl⟩ := H
       have hnb36 := Ae.out
       have hnc36 := Ad.out
       obtain ⟨_, _, _, _⟩ := bc4 Aa.out
       obtain ⟨_, _, _, _⟩ := bf4 Aa.out
       go_wp2_with (first | ((with_reducible refine gate_callee (f := 81) rfl ?_); refine goesL_ (some 73) rfl rfl Try.func81 (by kernel_rfl) rfl #[.agg #[.int .i64 (wrap64 (rd t430 0)), .int .i64 (wrap64 (rd t430 1)), .int .i64 (wrap64 (rd t430 2)), .int .u32 Ab]] rfl pL ?_; (with_reducible refine (garnerref04_May.calls (wrap64 (rd t430 0)) (wrap64 (rd t430 1)) (wrap64 (rd t430 2)) Ab true _ A34.out).mono ?_); rintro e w38 ⟨rfl, hb⟩; refine ⟨_, rfl, ?_⟩; replace Ac := kBa Ac hb; replace Aa := kBa Aa hb; replace HB := Am (below_step (pE2 HB.out Ag.out At.out) hb); (try clear hb); (try clear hb2); (try clear hk); (try clear hi); obtain ⟨_, _, _, _⟩ := bc4 Aa.out; obtain ⟨_, _, _, _⟩ := bf4 Aa.out; obtain ⟨_, _, _, _⟩ := bc4 Ac.out; obtain ⟨_, _, _, _⟩ := bf4 Ac.out))
       refine bodyPost_ret (results_ct rfl _ _ Ap 48 #[.int .i64 (wrap64 (rd t430 0)), .int .i64 (wrap64 (rd t430 1)), .int .i64 (wrap64 (rd t430 2)), .int .u32 Ab] (0, 0) _ rfl (kX0 Ac.out) Try.underlying48 rfl (by kernel_rfl)) rfl ?_
       exact ⟨pX, pE2 HB.out Ag.out At.out⟩
      replace c35 := Bool.eq_false_iff.mpr c35
      subst c35
      rw [if_neg zF] at H
      simp only [Option.some.injEq, Prod.mk.injEq] at H
      obtain ⟨rfl, rfl, rfl, rfl, rfl⟩ := H
      have hnb41 := Ae.out
      have hnc41 := Ad.out
      obtain ⟨_, _, _, _⟩ := bc4 Aa.out
      obtain ⟨_, _, _, _⟩ := bf4 Aa.out
      go_wp2_with (first | ((with_reducible refine gate_callee (f := 81) rfl ?_); refine goesL_ (some 73) rfl rfl Try.func81 (by kernel_rfl) rfl #[.agg #[.int .i64 (wrap64 (rd t430 0)), .int .i64 (wrap64 (rd t430 1)), .int .i64 (wrap64 (rd t430 2)), .int .u32 Ab]] rfl pL ?_; (with_reducible refine (garnerref04_May.calls (wrap64 (rd t430 0)) (wrap64 (rd t430 1)) (wrap64 (rd t430 2)) Ab false _ A34.out).mono ?_); rintro e w43 ⟨rfl, hb⟩; refine ⟨_, rfl, ?_⟩; replace Ac := kBa Ac hb; replace Aa := kBa Aa hb; replace HB := Am (below_step (pE2 HB.out Ag.out At.out) hb); (try clear hb); (try clear hb2); (try clear hk); (try clear hi); obtain ⟨_, _, _, _⟩ := bc4 Ac.out; obtain ⟨_, _, _, _⟩ := bf4 Ac.out))
      refine bodyPost_ret (results_ct rfl _ _ Ap 48 #[.int .i64 0, .int .i64 0, .int .i64 0, .int .u32 0] (0, 0) _ rfl (kX0 Ac.out) Try.underlying48 rfl (by kernel_rfl)) rfl ?_
      exact ⟨pX, pE2 HB.out Ag.out At.out⟩
     rw [if_pos c28] at H
     have c28b0 : decide (0 ≤ As) = true := decide_eq_true c28
     clear c28
     obtain ⟨ji29, hji29⟩ : ∃ j_ : Int, (wrap64 (t431 + As)) = j_ := ⟨_, rfl⟩
     replace H : (if 0 ≤ (ji29) then (if (ji29) < (l0.length : Int) then (garnerref04_Get.l0 k2 l0 t431 (wrap64 (As - 1)) (wrap64 (rd t430 0)) (wrap64 (rd t430 1)) (wrap64 (rd t430 2)) ((((Ab * 256) % 4294967296) + ((rd l0 (ji29)) % 4294967296)) % 4294967296)) else (none)) else (none)) = some (r1, r2, r3, r4, r5) := by first | (rw [hji29] at H; exact H) | (simp only [hji29] at H ⊢; exact H)
     have hji29w : (IntKind.i64.wrap (t431 + As)) = ji29 := (i64_w _).trans hji29
     obtain ⟨c30, H⟩ := zI H
     have c30b0 := decide_eq_true c30
     clear c30
     obtain ⟨c31, H⟩ := zI H
     have c31b0 := decide_eq_true c31
     clear c31
     have H' := Am H
     clear H
     try go_wp2
     replace Ac := kDa Ac
     replace Aa := kDa Aa
     replace HB := bDa HB
     have p442 : 0 ≤ ((ji29) : Int) := of_decide_eq_true pS
     have q442 : (ji29) < (l0.length : Int) := of_decide_eq_true pS
     obtain ⟨Bg, e442, Ar⟩ := Kd.at_int HR0.out (ji29) p442 q442
     have A8 := Ar
     cases e442
     replace Ar := cU HB.out Ar
     replace p442 := eq_true p442
     replace q442 := eq_true q442
     refine start_ (n := 13) (S := fun w' => cG w' Ai 0 (.int .i64 (wrap64 (rd t430 0))) ∧ cG w' Ai 1 (.int .i64 (wrap64 (rd t430 1))) ∧ cG w' Ai 2 (.int .i64 (wrap64 (rd t430 2))) ∧ cG w' Ai 3 (.int .u32 Ab) ∧ w'.cell? (Bg.add ((ji29)).toNat) = some (.int .u8 (rd l0 (ji29)))) (ds := [12]) #[false, false, false, false, false, false, false, false, false, false, false, false, false] (by kernel_rfl) rfl rfl ⟨(blk_cell Aa.out 0).trans rfl, (blk_cell Aa.out 1).trans rfl, (blk_cell Aa.out 2).trans rfl, (blk_cell Aa.out 3).trans rfl, (cT HB.out A8)⟩ (fun hHeld => ?_); refine with_tabW garnerref04_Get.tab8 garnerref04_Get.bits8 (fun HT_ HW_ => ?_)
     generalize wr.drew = w32 at Ac Aa HB Ar hHeld ⊢
     refine pui 0 60 13 1 HT_ ?_
     refine pui 3 63 13 9 HT_ ?_
     refine pui 4 64 13 25 HT_ ?_
     refine pui 5 65 13 57 HT_ ?_
     refine pui 6 66 13 121 HT_ ?_
     refine pui 7 67 13 249 HT_ ?_
     refine tki 1 61 13 251 HT_ HW_ hHeld ?_
     refine pui 2 62 13 255 HT_ ?_
     refine tki 8 68 13 511 HT_ HW_ hHeld ?_
     refine pui 9 69 13 1023 HT_ ?_
     refine pui 10 70 13 2047 HT_ ?_
     refine pui 11 71 13 4095 HT_ ?_
     refine last_ (i := 12) (N := none) (bw 13 8191) rfl rfl (one_of HT_.out (by kernel_rfl)) (by decide) (fun K hK => ?_)
     have hs33 : w32.cell? ⟨Ai, 3, none⟩ = some (.int .u32 Ab) := (blk_cell Aa.out 3).trans rfl
     have hfs33 := blk_frozen Aa.out 3
     have hns33_0 := Ad.out
     have hms33_0 := Ae.out
     refine skip_ (w1 := ?_) (by rfl) rfl ?_ ?_
     rotate_left
     ·go_simp
      rfl
     refine hK.out _ _ ?_
     clear hK K
     refine done_ (done_of HT_.out (by kernel_rfl)) ?_
     try go_wp2
     go_roundg k2
     case measure => have := HJ2.out; have := HK2.out; omega
     case rel => exact ⟨(wrap64 (As - 1)), ((((Ab * 256) % 4294967296) + ((rd l0 (ji29)) % 4294967296)) % 4294967296), zr, H', ⟨by have := HJ2.out; have := HK2.out; omega⟩, ⟨kX1 Ac.out Ad.out⟩, ⟨by (with_reducible repeat (first | refine blk_drewN ?_ _ | refine blk_drew ?_ | refine blk_alloc ?_ _)); refine blk_put (cs := #[.int .i64 (wrap64 (rd t430 0)), .int .i64 (wrap64 (rd t430 1)), .int .i64 (wrap64 (rd t430 2)), .int .u32 Ab]) ?_ 3 _ rfl; (with_reducible repeat (first | refine blk_drewN ?_ _ | refine blk_drew ?_ | refine blk_alloc ?_ _)); exact Aa.out⟩, ⟨pE2 HB.out Ag.out At.out⟩⟩
end Go.Proofs.Ytdanmjfkocjgjaa.PWalGets
