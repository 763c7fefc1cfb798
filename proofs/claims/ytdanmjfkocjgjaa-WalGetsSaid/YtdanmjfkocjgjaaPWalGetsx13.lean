/- What the law reaches, as plain Lean functions, and that the machine's calls answer just that. -/
import Derived.Test.YtdanmjfkocjgjaaPWalGetsx0
import Derived.Test.YtdanmjfkocjgjaaPWalGetsx3
import Derived.Test.YtdanmjfkocjgjaaPWalGetsx9
namespace Go.Proofs.Ytdanmjfkocjgjaa.PWalGets
open Go.RowKit Go.Proofs.YtdanmjfkocjgjaaW.PrintWords Go.Proofs.YtdanmjfkocjgjaaW.PrintLast Go.Proofs.YtdanmjfkocjgjaaW.PrintMore
attribute [local go_sem] max2_int min2_int max_two min_two max_three min_three max_four min_four
set_option linter.unusedVariables false
set_option linter.unusedSimpArgs false
attribute [local go_sem] wrap64_l1 wrap64_l2 wrap64_l3 wrap64_l4 wrap64_l5
def hard_Get.j0 : Nat → List Int → Bool → Option (Int × Int × Int × Int)
 | 0, _, _ => none
 | k + 1, x4, x34 => if x34 = true then (some (0, 0, 0, 2)) else (if 0 < (x4.length : Int) then (if 1 < (x4.length : Int) then (if 2 < (x4.length : Int) then ((hard_Check.f (wrap64 (rd x4 0)) (wrap64 (rd x4 1)) (wrap64 (rd x4 2))).bind fun t360 => (if t360 = 0 then (some (wrap64 (rd x4 0), wrap64 (rd x4 1), wrap64 (rd x4 2), 0)) else (some (0, 0, 0, 2)))) else (none)) else (none)) else (none))
def hard_Get.f (k : Nat) (l0 : List Int) : Option (Int × Int × Int × Int) := (varint_All.f k l0 3).bind fun bt348 => (if bt348.2.2 = 0 then (if bt348.2.1 = (l0.length : Int) then (if 0 < (bt348.1.length : Int) then (if 1 < (bt348.1.length : Int) then (if 2 < (bt348.1.length : Int) then (hard_Get.j0 k bt348.1 (decide ((mx (mx (rd bt348.1 0) (rd bt348.1 1)) (rd bt348.1 2)) > 2147483647))) else (none)) else (none)) else (none)) else (hard_Get.j0 k bt348.1 true)) else (hard_Get.j0 k bt348.1 true))
theorem hard_Get.mono_l : ∀ k, (∀ y0 y1, LeO (hard_Get.j0 k y0 y1) (hard_Get.j0 (k + 1) y0 y1))
 | 0 => fun _ _ r h => by simp [hard_Get.j0] at h
 | k + 1 => by
  have ih0 := hard_Get.mono_l k
  ·intro y0 y1
   unfold hard_Get.j0
   repeat' (with_reducible first | exact ih0 .. | exact varint_All.mono .. | exact LeO.refl .. | exact LeO.none .. | refine LeO.ite ?_ ?_ | refine LeO.bind ?_ (fun _ => ?_))
theorem hard_Get.mono : ∀ a0 k, LeO (hard_Get.f k a0) (hard_Get.f (k + 1) a0) := by
 intro a0 k
 have ih0 := hard_Get.mono_l k
 unfold hard_Get.f
 repeat' (with_reducible first | exact ih0 .. | exact varint_All.mono .. | exact LeO.refl .. | exact LeO.none .. | refine LeO.ite ?_ ?_ | refine LeO.bind ?_ (fun _ => ?_))
def hard_Get.T2 : Bool × List (List Nat × List Nat) := (true, [([], []), ([0], [0]), ([1], [1]), ([2], [2]), ([2], [2]), ([4, 2], [2, 4]), ([3, 5, 2], [2, 3, 5]), ([2, 6], [2, 6]), ([7, 2], [7]), ([8], [8]), ([9, 8], [8, 9]), ([10, 8], [8, 10]), ([8], [8]), ([12, 8], [8, 12]), ([13, 8], [8, 13]), ([8], [8]), ([15, 8], [8, 15]), ([16, 8], [8, 16]), ([11, 14, 17, 8], [8, 11, 14, 17]), ([18, 8], [8, 18]), ([8, 19], [8, 19])])
def hard_Get.B2 : List Nat := [0, 1, 3, 7, 7, 23, 63, 127, 255, 511, 1023, 2047, 511, 4607, 12799, 511, 33279, 98815, 262143, 524287, 1048575]
theorem hard_Get.tab2 : rtab .any (opsOf Try.f18 2) = hard_Get.T2 := by kernel_rfl
theorem hard_Get.bits2 : waitsOk hard_Get.T2.2 hard_Get.B2 = true := by kernel_rfl
def hard_Get.T4 : Bool × List (List Nat × List Nat) := (true, [([], []), ([0], [0]), ([1], [1]), ([2], [2]), ([], []), ([4], [4]), ([5], [5]), ([6], [6]), ([], []), ([8], [8]), ([9], [9]), ([10], [10]), ([3, 7, 11], [3, 7, 11]), ([], []), ([13, 12, 0, 1, 2, 3, 4, 5, 6, 7, 8, 9, 10, 11, 12, 13], [12, 13])])
def hard_Get.B4 : List Nat := [0, 1, 3, 7, 0, 16, 48, 112, 0, 256, 768, 1792, 4095, 0, 16383]
theorem hard_Get.tab4 : rtab .any (opsOf Try.f18 4) = hard_Get.T4 := by kernel_rfl
theorem hard_Get.bits4 : waitsOk hard_Get.T4.2 hard_Get.B4 = true := by kernel_rfl
set_option maxHeartbeats 8000000 in
set_option maxRecDepth 100000 in
theorem hard_Get.calls (k : Nat) (A0 : Option Addr) (c0 : Nat) (l0 : List Int) (r1 : Int) (r2 : Int) (r3 : Int) (r4 : Int) (w : World) (hr0 : Kd.C (Kd.int .u8) w A0 l0.length l0) (hc0 : l0.length ≤ c0) (h : hard_Get.f k l0 = some (r1, r2, r3, r4)) :
 Calls Try.prog 18 #[.slice A0 l0.length c0] w fun e w' => e = .returned (.tuple #[.agg #[.int .i64 r1, .int .i64 r2, .int .i64 r3], .int .i64 r4]) ∧ Below w.heap.size w w' := by
 have hu28 := Try.underlying28
 have HR0 := Am hr0
 have HC0 := Am hc0
 clear hr0 hc0
 have HB := Am (Below.refl w.heap.size w)
 unfold hard_Get.f at h
 have H := h
 clear h
 replace H := Option.bind_eq_some_iff.mp H
 obtain ⟨⟨t348, t349, t350⟩, A20, H⟩ := H
 dsimp only at H
 have A2 := Am A20
 clear A20
 have HC3 := Am H
 clear H
 go_enter Try.func18, Try.ntmps18
 go_upto_region 2 with (first | ((with_reducible refine gate_dst (N := 2) rfl ?_); (try (refine gate_guard (by rfl) ?_; dsimp only)); refine zE 2 #[.int .i64 0, .int .i64 0, .int .i64 0] 28 ?_; intro Al hg w4 hbox hb; have Ab := Am (hbox); have Az := Am (zG hg (below_size (pB HB.out))); replace HB := Am (below_step (pB HB.out) hb); have Aj := Az; clear hb hbox hg) | ((with_reducible refine gate_callee (f := 43) rfl ?_); refine goesL_ (some 10) rfl rfl Try.func43 (by kernel_rfl) rfl #[.slice A0 l0.length c0, .int .i64 3] rfl pL ?_; (with_reducible refine (varint_All.calls k _ _ l0 3 t348 t349 t350 _ ?A1 ?A3 A2.out).mono ?_); (case A1 => exact pC (Kd.C_below HR0.out HB.out)); (case A3 => exact HC0.out); rintro e w5 ⟨v351, rfl, ho0, hb⟩; refine ⟨_, rfl, ?_⟩; have Ak := Am (Kd.R_lower ho0 (below_size (pE HB.out Aj.out))); replace Ab := kBa Ab hb; replace HB := Am (below_step (pE HB.out Aj.out) hb); (try clear hb); (try clear hb2); (try clear hk); (try clear hi); (try clear ho0)))
 (try simp only [Act.put, List.setIfInBounds_toArray, List.set_cons_zero, List.set_cons_succ])
 go_cut [34] (fun v34 wc => ∃ (kq : Nat) (At : Bool), v34 = .bool At ∧ Aside0 (hard_Get.j0 kq t348 At = some (r1, r2, r3, r4)) ∧ Aside0 (kq ≤ k) ∧ Aside0 (Kd.R (Kd.int .u64) 61 wc w.heap.size (fun _ => True) v351 t348) ∧ Aside0 (wc.heap[Al]? = some (.cells #[.int .i64 0, .int .i64 0, .int .i64 0] 28 (0, 0))) ∧ Aside0 (Below w.heap.size w wc))
 case first =>
  have H := HC3.out
  clear HC3
  by_cases c6 : t350 = 0
  rotate_left
  ·rw [if_neg c6] at H
   have c6b0 := beq_eq_false_iff_ne.mpr c6
   have c6b1 := bne_iff_ne.mpr c6
   (first | rw [c6b0] | (simp only [i64_w, i32_w]; rw [c6b0]) | skip)
   have H' := Am H
   clear H
   try go_wp2
   replace Ak := dRa Ak
   replace Ab := kDa Ab
   replace HB := bDa HB
   refine start_ (n := 21) (S := fun w' => True) (ds := []) #[false, false, false, false, false, false, false, false, false, false, false, false, false, false, false, false, false, false, false, false, false] (by kernel_rfl) rfl rfl trivial (fun hHeld => ?_); refine with_tabW hard_Get.tab2 hard_Get.bits2 (fun HT_ HW_ => ?_)
   generalize w5.drew = w16 at Ak Ab HB hHeld ⊢
   refine pui 0 14 21 1 HT_ ?_
   refine pui 1 15 21 3 HT_ ?_
   refine pui 2 16 21 7 HT_ ?_
   refine pdi 3 17 21 15 HT_ ?_
   refine pdi 4 18 21 31 HT_ ?_
   refine pdi 5 19 21 63 HT_ ?_
   refine pdi 6 20 21 127 HT_ ?_
   refine pui 7 21 21 255 HT_ ?_
   refine pui 8 22 21 511 HT_ ?_
   refine pdi 9 23 21 1023 HT_ ?_
   refine pdi 10 24 21 2047 HT_ ?_
   refine pdi 11 25 21 4095 HT_ ?_
   refine pdi 12 26 21 8191 HT_ ?_
   refine pdi 13 27 21 16383 HT_ ?_
   refine pdi 14 28 21 32767 HT_ ?_
   refine pdi 15 29 21 65535 HT_ ?_
   refine pdi 16 30 21 131071 HT_ ?_
   refine pdi 17 31 21 262143 HT_ ?_
   refine pdi 18 32 21 524287 HT_ ?_
   refine pdi 19 33 21 1048575 HT_ ?_
   refine pui 20 34 21 2097151 HT_ ?_
   refine done_ (done_of HT_.out (by kernel_rfl)) ?_
   try go_wp2
   go_meet
   case rel => exact ⟨_, (true), zr, H', ⟨zo⟩, ⟨by (with_reducible repeat (first | apply Kd.R_alloc | apply Kd.R_drewN | apply Kd.R_drew)); exact Ak.out⟩, ⟨pK Ab.out⟩, ⟨pE HB.out Aj.out⟩⟩
  rw [if_pos c6] at H
  have c6b0 := beq_iff_eq.mpr c6
  have c6b1 := bne_eq_false_iff_eq.mpr c6
  clear c6
  (first | rw [c6b0] | (simp only [i64_w, i32_w]; rw [c6b0]) | skip)
  by_cases c7 : t349 = (l0.length : Int)
  rotate_left
  ·rw [if_neg c7] at H
   have c7b0 := beq_eq_false_iff_ne.mpr c7
   have c7b1 := bne_iff_ne.mpr c7
   have H' := Am H
   clear H
   try go_wp2
   replace Ak := dRa Ak
   replace Ab := kDa Ab
   replace HB := bDa HB
   refine start_ (n := 21) (S := fun w' => True) (ds := []) #[false, false, false, false, false, false, false, false, false, false, false, false, false, false, false, false, false, false, false, false, false] (by kernel_rfl) rfl rfl trivial (fun hHeld => ?_); refine with_tabW hard_Get.tab2 hard_Get.bits2 (fun HT_ HW_ => ?_)
   generalize w5.drew = w15 at Ak Ab HB hHeld ⊢
   refine pui 0 14 21 1 HT_ ?_
   refine pui 1 15 21 3 HT_ ?_
   refine pui 2 16 21 7 HT_ ?_
   refine pui 3 17 21 15 HT_ ?_
   refine pui 4 18 21 31 HT_ ?_
   refine pui 5 19 21 63 HT_ ?_
   refine pui 6 20 21 127 HT_ ?_
   refine pui 7 21 21 255 HT_ ?_
   refine pui 8 22 21 511 HT_ ?_
   refine pdi 9 23 21 1023 HT_ ?_
   refine pdi 10 24 21 2047 HT_ ?_
   refine pdi 11 25 21 4095 HT_ ?_
   refine pdi 12 26 21 8191 HT_ ?_
   refine pdi 13 27 21 16383 HT_ ?_
   refine pdi 14 28 21 32767 HT_ ?_
   refine pdi 15 29 21 65535 HT_ ?_
   refine pdi 16 30 21 131071 HT_ ?_
   refine pdi 17 31 21 262143 HT_ ?_
   refine pdi 18 32 21 524287 HT_ ?_
   refine pdi 19 33 21 1048575 HT_ ?_
   refine pui 20 34 21 2097151 HT_ ?_
   refine done_ (done_of HT_.out (by kernel_rfl)) ?_
   try go_wp2
   go_meet
   case rel => exact ⟨_, (true), zr, H', ⟨zo⟩, ⟨by (with_reducible repeat (first | apply Kd.R_alloc | apply Kd.R_drewN | apply Kd.R_drew)); exact Ak.out⟩, ⟨pK Ab.out⟩, ⟨pE HB.out Aj.out⟩⟩
  rw [if_pos c7] at H
  have c7b0 := beq_iff_eq.mpr c7
  have c7b1 := bne_eq_false_iff_eq.mpr c7
  clear c7
  obtain ⟨c8, H⟩ := zI H
  have c8b0 := decide_eq_true c8
  have c8b1 : decide (0 < t348.length) = true := decide_eq_true (by omega)
  clear c8
  obtain ⟨c9, H⟩ := zI H
  have c9b0 := decide_eq_true c9
  have c9b1 : decide (1 < t348.length) = true := decide_eq_true (by omega)
  clear c9
  obtain ⟨c10, H⟩ := zI H
  have c10b0 := decide_eq_true c10
  have c10b1 : decide (2 < t348.length) = true := decide_eq_true (by omega)
  clear c10
  obtain ⟨ji11, hji11⟩ : ∃ j_ : Int, (mx (rd t348 0) (rd t348 1)) = j_ := ⟨_, rfl⟩
  replace H : (hard_Get.j0 k t348 (decide ((mx (ji11) (rd t348 2)) > 2147483647))) = some (r1, r2, r3, r4) := by first | (rw [hji11] at H; exact H) | (simp only [hji11] at H ⊢; exact H)
  have hji11_ : (if (rd t348 0) < (rd t348 1) then (rd t348 1) else (rd t348 0)) = ji11 := hji11
  obtain ⟨ji12, hji12⟩ : ∃ j_ : Int, (mx (ji11) (rd t348 2)) = j_ := ⟨_, rfl⟩
  replace H : (hard_Get.j0 k t348 (decide ((ji12) > 2147483647))) = some (r1, r2, r3, r4) := by first | (rw [hji12] at H; exact H) | (simp only [hji12] at H ⊢; exact H)
  have hji12_ : (if (ji11) < (rd t348 2) then (rd t348 2) else (ji11)) = ji12 := hji12
  have H' := Am H
  clear H
  try go_wp2
  replace Ak := dRa Ak
  replace Ab := kDa Ab
  replace HB := bDa HB
  obtain ⟨Ao14, co14, Aw⟩ := Kd.R_slice Ak.out
  (first | subst Aw | (injection Aw with f1_ f2_ f3_; have f4_ := f1_.symm; have f5_ := f3_.symm; clear f1_ f2_ f3_; subst f4_; subst f5_))
  have p353 : 0 ≤ (0 : Int) := (by omega)
  have q353 : 0 < (t348.length : Int) := of_decide_eq_true pS
  obtain ⟨Ar, e353, Ao⟩ := Kd.at_int (Kd.R_reads' Ak.out).2.2 0 p353 q353
  cases e353
  have qi353 : (0 < t348.length) = True := eq_true (by omega)
  (try rw [tz] at Ao)
  (try rw [Addr.add_zero'] at Ao)
  replace p353 := eq_true p353
  replace q353 := eq_true q353
  have p354 : 0 ≤ (1 : Int) := (by omega)
  have q354 : 1 < (t348.length : Int) := of_decide_eq_true pS
  obtain ⟨A4, e354, Ap⟩ := Kd.at_int (Kd.R_reads' Ak.out).2.2 1 p354 q354
  obtain rfl : Ar = A4 := (by injection e354)
  (try simp only [show (1 : Int).toNat = 1 from rfl, Nat.reduceMul, Nat.reduceEqDiff, Go.Addr.add, ↓reduceIte] at Ap)
  have qi354 : (1 < t348.length) = True := eq_true (by omega)
  (try rw [show ((1 : Int)).toNat = 1 from rfl] at Ap)
  replace p354 := eq_true p354
  replace q354 := eq_true q354
  have p355 : 0 ≤ (2 : Int) := (by omega)
  have q355 : 2 < (t348.length : Int) := of_decide_eq_true pS
  obtain ⟨A5, e355, Aq⟩ := Kd.at_int (Kd.R_reads' Ak.out).2.2 2 p355 q355
  obtain rfl : Ar = A5 := (by injection e355)
  (try simp only [show (2 : Int).toNat = 2 from rfl, Nat.reduceMul, Nat.reduceEqDiff, Go.Addr.add, ↓reduceIte] at Aq)
  have qi355 : (2 < t348.length) = True := eq_true (by omega)
  (try rw [show ((2 : Int)).toNat = 2 from rfl] at Aq)
  replace p355 := eq_true p355
  replace q355 := eq_true q355
  refine start_ (n := 21) (S := fun w' => w'.cell? Ar = some (.int .u64 (rd t348 0)) ∧ cA w' Ar 1 (.int .u64 (rd t348 1)) ∧ cA w' Ar 2 (.int .u64 (rd t348 2))) (ds := []) #[false, false, false, false, false, false, false, false, false, false, false, false, false, false, false, false, false, false, false, false, false] (by kernel_rfl) rfl rfl ⟨Ao, Ap, Aq⟩ (fun hHeld => ?_); refine with_tabW hard_Get.tab2 hard_Get.bits2 (fun HT_ HW_ => ?_)
  generalize w5.drew = w13 at Ak Ab HB Ao Ap Aq hHeld ⊢
  refine pui 0 14 21 1 HT_ ?_
  refine pui 1 15 21 3 HT_ ?_
  refine pui 2 16 21 7 HT_ ?_
  refine pui 3 17 21 15 HT_ ?_
  refine pui 4 18 21 31 HT_ ?_
  refine pui 5 19 21 63 HT_ ?_
  refine pui 6 20 21 127 HT_ ?_
  refine pui 7 21 21 255 HT_ ?_
  refine pui 8 22 21 511 HT_ ?_
  refine pui 9 23 21 1023 HT_ ?_
  refine pui 10 24 21 2047 HT_ ?_
  refine pui 12 26 21 6143 HT_ ?_
  refine pui 13 27 21 14335 HT_ ?_
  refine pui 15 29 21 47103 HT_ ?_
  refine pui 16 30 21 112639 HT_ ?_
  refine tki 11 25 21 114687 HT_ HW_ hHeld ?_
  refine tki 14 28 21 131071 HT_ HW_ hHeld ?_
  refine tki 17 31 21 262143 HT_ HW_ hHeld ?_
  refine pui 18 32 21 524287 HT_ ?_
  refine pui 19 33 21 1048575 HT_ ?_
  refine pui 20 34 21 2097151 HT_ ?_
  refine done_ (done_of HT_.out (by kernel_rfl)) ?_
  try go_wp2
  go_meet
  case rel => exact ⟨_, (decide ((ji12) > 2147483647)), (by first | rfl | (simp; done) | (simp only [← hji12] <;> (first | rfl | simp)) | (simp [*]; done)), H', ⟨zo⟩, ⟨by (with_reducible repeat (first | apply Kd.R_alloc | apply Kd.R_drewN | apply Kd.R_drew)); exact Ak.out⟩, ⟨pK Ab.out⟩, ⟨pE HB.out Aj.out⟩⟩
 case rest =>
  clear HC3
  try clear c1
  try clear p2
  try clear p3
  try clear q3
  try clear hx3
  try clear qi3
  try clear c4
  try clear c6
  try clear c6b0
  try clear c6b1
  try clear c7
  try clear c7b0
  try clear c7b1
  try clear c8
  try clear c8b0
  try clear c8b1
  try clear c9
  try clear c9b0
  try clear c9b1
  try clear c10
  try clear c10b0
  try clear c10b1
  try clear Ao
  try clear Ap
  try clear Aq
  try clear p353
  try clear p354
  try clear p355
  try clear q353
  try clear q354
  try clear q355
  obtain ⟨kq, At, rfl, HA, HJ2, Ac, Ab, HB⟩ := hcut
  cases kq with
  | zero => exact absurd HA.out (by simp [hard_Get.j0])
  | succ kj2 =>
   have H := HA.out
   clear HA
   simp only [hard_Get.j0] at H
   by_cases c17 : At = true
   ·subst c17
    rw [if_pos rfl] at H
    simp only [Option.some.injEq, Prod.mk.injEq] at H
    obtain ⟨rfl, rfl, rfl, rfl⟩ := H
    obtain ⟨_, _, _⟩ := bc3 Ab.out
    obtain ⟨_, _, _⟩ := bf3 Ab.out
    go_wp2
    refine bodyPost_ret (results_ct rfl _ _ Al 28 #[.int .i64 0, .int .i64 0, .int .i64 0] (0, 0) _ rfl (kX0 Ab.out) Try.underlying28 rfl (by kernel_rfl)) rfl ?_
    exact ⟨pX, pE HB.out Aj.out⟩
   replace c17 := Bool.eq_false_iff.mpr c17
   subst c17
   rw [if_neg zF] at H
   obtain ⟨c19, H⟩ := zI H
   have c19b0 := decide_eq_true c19
   have c19b1 : decide (0 < t348.length) = true := decide_eq_true (by omega)
   clear c19
   obtain ⟨c20, H⟩ := zI H
   have c20b0 := decide_eq_true c20
   have c20b1 : decide (1 < t348.length) = true := decide_eq_true (by omega)
   clear c20
   obtain ⟨c21, H⟩ := zI H
   have c21b0 := decide_eq_true c21
   have c21b1 : decide (2 < t348.length) = true := decide_eq_true (by omega)
   clear c21
   replace H := Option.bind_eq_some_iff.mp H
   obtain ⟨t360, A220, H⟩ := H
   have A22 := Am A220
   clear A220
   by_cases c23 : t360 = 0
   rotate_left
   ·rw [if_neg c23] at H
    have c23b0 := beq_eq_false_iff_ne.mpr c23
    have c23b1 := bne_iff_ne.mpr c23
    simp only [Option.some.injEq, Prod.mk.injEq] at H
    obtain ⟨rfl, rfl, rfl, rfl⟩ := H
    try go_wp2
    replace Ac := dRa Ac
    replace Ab := kDa Ab
    replace HB := bDa HB
    obtain ⟨Ao36, co36, Ay⟩ := Kd.R_slice Ac.out
    (first | subst Ay | (injection Ay with f1_ f2_ f3_; have f4_ := f1_.symm; have f5_ := f3_.symm; clear f1_ f2_ f3_; subst f4_; subst f5_))
    have p356 : 0 ≤ (0 : Int) := (by omega)
    have q356 : 0 < (t348.length : Int) := of_decide_eq_true pS
    obtain ⟨An, e356, Ag⟩ := Kd.at_int (Kd.R_reads' Ac.out).2.2 0 p356 q356
    cases e356
    have qi356 : (0 < t348.length) = True := eq_true (by omega)
    (try rw [tz] at Ag)
    (try rw [Addr.add_zero'] at Ag)
    replace p356 := eq_true p356
    replace q356 := eq_true q356
    have p357 : 0 ≤ (1 : Int) := (by omega)
    have q357 : 1 < (t348.length : Int) := of_decide_eq_true pS
    obtain ⟨Au, e357, Ah⟩ := Kd.at_int (Kd.R_reads' Ac.out).2.2 1 p357 q357
    obtain rfl : An = Au := (by injection e357)
    (try simp only [show (1 : Int).toNat = 1 from rfl, Nat.reduceMul, Nat.reduceEqDiff, Go.Addr.add, ↓reduceIte] at Ah)
    have qi357 : (1 < t348.length) = True := eq_true (by omega)
    (try rw [show ((1 : Int)).toNat = 1 from rfl] at Ah)
    replace p357 := eq_true p357
    replace q357 := eq_true q357
    have p358 : 0 ≤ (2 : Int) := (by omega)
    have q358 : 2 < (t348.length : Int) := of_decide_eq_true pS
    obtain ⟨Av, e358, Ai⟩ := Kd.at_int (Kd.R_reads' Ac.out).2.2 2 p358 q358
    obtain rfl : An = Av := (by injection e358)
    (try simp only [show (2 : Int).toNat = 2 from rfl, Nat.reduceMul, Nat.reduceEqDiff, Go.Addr.add, ↓reduceIte] at Ai)
    have qi358 : (2 < t348.length) = True := eq_true (by omega)
    (try rw [show ((2 : Int)).toNat = 2 from rfl] at Ai)
    replace p358 := eq_true p358
    replace q358 := eq_true q358
    refine start_ (n := 15) (S := fun w' => w'.cell? An = some (.int .u64 (rd t348 0)) ∧ cA w' An 1 (.int .u64 (rd t348 1)) ∧ cA w' An 2 (.int .u64 (rd t348 2))) (ds := []) #[false, false, false, false, false, false, false, false, false, false, false, false, false, false, false] (by kernel_rfl) rfl rfl ⟨Ag, Ah, Ai⟩ (fun hHeld => ?_); refine with_tabW hard_Get.tab4 hard_Get.bits4 (fun HT_ HW_ => ?_)
    (first | generalize wc.drew = w35 at Ac Ab HB Ag Ah Ai hHeld ⊢ | generalize wc.drew = w35 at Ab HB Ag Ah Ai hHeld ⊢)
    refine pui 0 36 15 1 HT_ ?_
    refine pui 1 37 15 3 HT_ ?_
    refine pui 4 40 15 19 HT_ ?_
    refine pui 5 41 15 51 HT_ ?_
    refine pui 8 44 15 307 HT_ ?_
    refine pui 9 45 15 819 HT_ ?_
    refine tki 2 38 15 823 HT_ HW_ hHeld ?_
    refine pui 3 39 15 831 HT_ ?_
    refine tki 6 42 15 895 HT_ HW_ hHeld ?_
    refine pui 7 43 15 1023 HT_ ?_
    refine tki 10 46 15 2047 HT_ HW_ hHeld ?_
    refine pui 11 47 15 4095 HT_ ?_
    refine pui 12 48 15 8191 HT_ ?_
    refine onei 13 7 15 16383 HT_ (fun K hK => ?_)
    refine box_step ?hg (N := 7) ?hd (cs := #[.int .i64 0, .int .i64 0, .int .i64 0]) (t := 28) ?hr ?_; (case hd => rfl); (case hg => rfl); (case hr => first | (go_simp; done) | (go_simp; rfl))
    intro Af hg w37 hbox hb
    have HS0_ := (hb.cell (World.block_lt_of_cell? _ _ (hHeld.1))).trans (hHeld.1)
    have HS1_ := (hb.cell (World.block_lt_of_cell? _ _ (hHeld.2.1))).trans (hHeld.2.1)
    have HS2_ := (hb.cell (World.block_lt_of_cell? _ _ (hHeld.2.2))).trans (hHeld.2.2)
    replace Ac := bRa Ac hb
    have Aa := Am (hbox)
    have A6 := Am (zG hg (below_size (pE HB.out Aj.out)))
    have As := Am (zG hg (below_size (pE HB.out Aj.out)))
    replace HB := Am (below_step (pE HB.out Aj.out) hb)
    have Ad := Am (zN hg (kL Ab.out))
    have Ae := Am (zM hg (kL Ab.out))
    replace Ab := kBa Ab hb
    clear hb hbox hg
    refine hK.out _ _ ⟨HS0_, HS1_, HS2_⟩ (fun hHeld => ?_)
    clear hK K
    refine norm_ (a' := ?_) ?_ ?_
    rotate_left
    ·show Act.put _ (some 7) _ = _
     simp only [Act.put, List.setIfInBounds_toArray, List.set_cons_zero, List.set_cons_succ, i64_w, i32_w]
     rfl
    refine one_ (i := 14) (N := none) (bw 15 32767) rfl rfl (one_of HT_.out (by kernel_rfl)) (by decide) (fun K hK => ?_)
    have hs38 : w37.cell? ⟨Af, 0, none⟩ = some (.int .i64 0) := (blk_cell Aa.out 0).trans rfl
    have hfs38 := blk_frozen Aa.out 0
    have hns38_0 := Ad.out
    have hms38_0 := Ae.out
    have hs39 : w37.cell? ⟨Af, 1, none⟩ = some (.int .i64 0) := (blk_cell Aa.out 1).trans rfl
    have hfs39 := blk_frozen Aa.out 1
    have hns39_0 := Ad.out
    have hms39_0 := Ae.out
    have hs40 : w37.cell? ⟨Af, 2, none⟩ = some (.int .i64 0) := (blk_cell Aa.out 2).trans rfl
    have hfs40 := blk_frozen Aa.out 2
    have hns40_0 := Ad.out
    have hms40_0 := Ae.out
    refine skip_ (w1 := ?_) (by rfl) rfl ?_ ?_
    rotate_left
    ·go_simp
     rfl
    refine hK.out _ _ ⟨(cX1 hHeld.1 (by first | exact Kd.own_blk (Kd.R_ne Ac.out Aa.out (by decide)) | (rw [add_block]; exact Kd.own_blk (Kd.R_ne Ac.out Aa.out (by decide))) | (show (Addr.add _ _).block ≠ _; rw [add_block]; exact Kd.own_blk (Kd.R_ne Ac.out Aa.out (by decide))) | (dsimp only; exact Kd.own_blk (Kd.R_ne Ac.out Aa.out (by decide))))), (cX1 hHeld.2.1 (by first | exact Kd.own_blk (Kd.R_ne Ac.out Aa.out (by decide)) | (rw [add_block]; exact Kd.own_blk (Kd.R_ne Ac.out Aa.out (by decide))) | (show (Addr.add _ _).block ≠ _; rw [add_block]; exact Kd.own_blk (Kd.R_ne Ac.out Aa.out (by decide))) | (dsimp only; exact Kd.own_blk (Kd.R_ne Ac.out Aa.out (by decide))))), (cX1 hHeld.2.2 (by first | exact Kd.own_blk (Kd.R_ne Ac.out Aa.out (by decide)) | (rw [add_block]; exact Kd.own_blk (Kd.R_ne Ac.out Aa.out (by decide))) | (show (Addr.add _ _).block ≠ _; rw [add_block]; exact Kd.own_blk (Kd.R_ne Ac.out Aa.out (by decide))) | (dsimp only; exact Kd.own_blk (Kd.R_ne Ac.out Aa.out (by decide)))))⟩ (fun hHeld => ?_)
    clear hK K
    refine done_ (done_of HT_.out (by kernel_rfl)) ?_
    have hnb41 := Ae.out
    have hnc41 := Ad.out
    obtain ⟨_, _, _⟩ := bc3 Aa.out
    obtain ⟨_, _, _⟩ := bf3 Aa.out
    try go_wp2_with (first | ((with_reducible refine gate_callee (f := 32) rfl ?_); refine goesL_ (some 50) rfl rfl Try.func32 (by kernel_rfl) rfl #[.agg #[.int .i64 (wrap64 (rd t348 0)), .int .i64 (wrap64 (rd t348 1)), .int .i64 (wrap64 (rd t348 2))]] rfl pL ?_; (with_reducible refine (hard_Check.calls (wrap64 (rd t348 0)) (wrap64 (rd t348 1)) (wrap64 (rd t348 2)) t360 _ A22.out).mono ?_); rintro e w43 ⟨rfl, hb⟩; refine ⟨_, rfl, ?_⟩; replace Ac := Am (Kd.R_below (by (with_reducible repeat (first | apply Kd.R_alloc | apply Kd.R_drewN | apply Kd.R_drew)); exact (Kd.R_mono (Rf3 (g := Af) (Kd.R_types Ac.out Aa.out (by decide)) (fun _ hk => hk.2)) (fun _ h_ => h_.1))) hb); replace Ab := Am (blk_below (g := Al) (kX1 Ab.out Ad.out) hb); replace Aa := Am (blk_below (g := Af) (kX0 Aa.out) hb); replace HB := Am (below_step (pE2 HB.out Aj.out As.out) hb); (try clear hb); (try clear hb2); (try clear hk); (try clear hi); obtain ⟨_, _, _⟩ := bc3 Ab.out; obtain ⟨_, _, _⟩ := bf3 Ab.out))
    refine bodyPost_ret (results_ct rfl _ _ Al 28 #[.int .i64 0, .int .i64 0, .int .i64 0] (0, 0) _ rfl (kX0 Ab.out) Try.underlying28 rfl (by kernel_rfl)) rfl ?_
    exact ⟨pX, pE2 HB.out Aj.out As.out⟩
   rw [if_pos c23] at H
   have c23b0 := beq_iff_eq.mpr c23
   have c23b1 := bne_eq_false_iff_eq.mpr c23
   clear c23
   simp only [Option.some.injEq, Prod.mk.injEq] at H
   obtain ⟨rfl, rfl, rfl, rfl⟩ := H
   try go_wp2
   replace Ac := dRa Ac
   replace Ab := kDa Ab
   replace HB := bDa HB
   obtain ⟨Ao25, co25, Ax⟩ := Kd.R_slice Ac.out
   (first | subst Ax | (injection Ax with f1_ f2_ f3_; have f4_ := f1_.symm; have f5_ := f3_.symm; clear f1_ f2_ f3_; subst f4_; subst f5_))
   have p356 : 0 ≤ (0 : Int) := (by omega)
   have q356 : 0 < (t348.length : Int) := of_decide_eq_true pS
   obtain ⟨An, e356, Ag⟩ := Kd.at_int (Kd.R_reads' Ac.out).2.2 0 p356 q356
   cases e356
   have qi356 : (0 < t348.length) = True := eq_true (by omega)
   (try rw [tz] at Ag)
   (try rw [Addr.add_zero'] at Ag)
   replace p356 := eq_true p356
   replace q356 := eq_true q356
   have p357 : 0 ≤ (1 : Int) := (by omega)
   have q357 : 1 < (t348.length : Int) := of_decide_eq_true pS
   obtain ⟨Au, e357, Ah⟩ := Kd.at_int (Kd.R_reads' Ac.out).2.2 1 p357 q357
   obtain rfl : An = Au := (by injection e357)
   (try simp only [show (1 : Int).toNat = 1 from rfl, Nat.reduceMul, Nat.reduceEqDiff, Go.Addr.add, ↓reduceIte] at Ah)
   have qi357 : (1 < t348.length) = True := eq_true (by omega)
   (try rw [show ((1 : Int)).toNat = 1 from rfl] at Ah)
   replace p357 := eq_true p357
   replace q357 := eq_true q357
   have p358 : 0 ≤ (2 : Int) := (by omega)
   have q358 : 2 < (t348.length : Int) := of_decide_eq_true pS
   obtain ⟨Av, e358, Ai⟩ := Kd.at_int (Kd.R_reads' Ac.out).2.2 2 p358 q358
   obtain rfl : An = Av := (by injection e358)
   (try simp only [show (2 : Int).toNat = 2 from rfl, Nat.reduceMul, Nat.reduceEqDiff, Go.Addr.add, ↓reduceIte] at Ai)
   have qi358 : (2 < t348.length) = True := eq_true (by omega)
   (try rw [show ((2 : Int)).toNat = 2 from rfl] at Ai)
   replace p358 := eq_true p358
   replace q358 := eq_true q358
   refine start_ (n := 15) (S := fun w' => w'.cell? An = some (.int .u64 (rd t348 0)) ∧ cA w' An 1 (.int .u64 (rd t348 1)) ∧ cA w' An 2 (.int .u64 (rd t348 2))) (ds := []) #[false, false, false, false, false, false, false, false, false, false, false, false, false, false, false] (by kernel_rfl) rfl rfl ⟨Ag, Ah, Ai⟩ (fun hHeld => ?_); refine with_tabW hard_Get.tab4 hard_Get.bits4 (fun HT_ HW_ => ?_)
   (first | generalize wc.drew = w24 at Ac Ab HB Ag Ah Ai hHeld ⊢ | generalize wc.drew = w24 at Ab HB Ag Ah Ai hHeld ⊢)
   refine pui 0 36 15 1 HT_ ?_
   refine pui 1 37 15 3 HT_ ?_
   refine pui 4 40 15 19 HT_ ?_
   refine pui 5 41 15 51 HT_ ?_
   refine pui 8 44 15 307 HT_ ?_
   refine pui 9 45 15 819 HT_ ?_
   refine tki 2 38 15 823 HT_ HW_ hHeld ?_
   refine pui 3 39 15 831 HT_ ?_
   refine tki 6 42 15 895 HT_ HW_ hHeld ?_
   refine pui 7 43 15 1023 HT_ ?_
   refine tki 10 46 15 2047 HT_ HW_ hHeld ?_
   refine pui 11 47 15 4095 HT_ ?_
   refine pui 12 48 15 8191 HT_ ?_
   refine onei 13 7 15 16383 HT_ (fun K hK => ?_)
   refine box_step ?hg (N := 7) ?hd (cs := #[.int .i64 0, .int .i64 0, .int .i64 0]) (t := 28) ?hr ?_; (case hd => rfl); (case hg => rfl); (case hr => first | (go_simp; done) | (go_simp; rfl))
   intro Af hg w26 hbox hb
   have HS0_ := (hb.cell (World.block_lt_of_cell? _ _ (hHeld.1))).trans (hHeld.1)
   have HS1_ := (hb.cell (World.block_lt_of_cell? _ _ (hHeld.2.1))).trans (hHeld.2.1)
   have HS2_ := (hb.cell (World.block_lt_of_cell? _ _ (hHeld.2.2))).trans (hHeld.2.2)
   replace Ac := bRa Ac hb
   have Aa := Am (hbox)
   have A6 := Am (zG hg (below_size (pE HB.out Aj.out)))
   have As := Am (zG hg (below_size (pE HB.out Aj.out)))
   replace HB := Am (below_step (pE HB.out Aj.out) hb)
   have Ad := Am (zN hg (kL Ab.out))
   have Ae := Am (zM hg (kL Ab.out))
   replace Ab := kBa Ab hb
   clear hb hbox hg
   refine hK.out _ _ ⟨HS0_, HS1_, HS2_⟩ (fun hHeld => ?_)
   clear hK K
   refine norm_ (a' := ?_) ?_ ?_
   rotate_left
   ·show Act.put _ (some 7) _ = _
    simp only [Act.put, List.setIfInBounds_toArray, List.set_cons_zero, List.set_cons_succ, i64_w, i32_w]
    rfl
   refine one_ (i := 14) (N := none) (bw 15 32767) rfl rfl (one_of HT_.out (by kernel_rfl)) (by decide) (fun K hK => ?_)
   have hs27 : w26.cell? ⟨Af, 0, none⟩ = some (.int .i64 0) := (blk_cell Aa.out 0).trans rfl
   have hfs27 := blk_frozen Aa.out 0
   have hns27_0 := Ad.out
   have hms27_0 := Ae.out
   have hs28 : w26.cell? ⟨Af, 1, none⟩ = some (.int .i64 0) := (blk_cell Aa.out 1).trans rfl
   have hfs28 := blk_frozen Aa.out 1
   have hns28_0 := Ad.out
   have hms28_0 := Ae.out
   have hs29 : w26.cell? ⟨Af, 2, none⟩ = some (.int .i64 0) := (blk_cell Aa.out 2).trans rfl
   have hfs29 := blk_frozen Aa.out 2
   have hns29_0 := Ad.out
   have hms29_0 := Ae.out
   refine skip_ (w1 := ?_) (by rfl) rfl ?_ ?_
   rotate_left
   ·go_simp
    rfl
   refine hK.out _ _ ⟨(cX1 hHeld.1 (by first | exact Kd.own_blk (Kd.R_ne Ac.out Aa.out (by decide)) | (rw [add_block]; exact Kd.own_blk (Kd.R_ne Ac.out Aa.out (by decide))) | (show (Addr.add _ _).block ≠ _; rw [add_block]; exact Kd.own_blk (Kd.R_ne Ac.out Aa.out (by decide))) | (dsimp only; exact Kd.own_blk (Kd.R_ne Ac.out Aa.out (by decide))))), (cX1 hHeld.2.1 (by first | exact Kd.own_blk (Kd.R_ne Ac.out Aa.out (by decide)) | (rw [add_block]; exact Kd.own_blk (Kd.R_ne Ac.out Aa.out (by decide))) | (show (Addr.add _ _).block ≠ _; rw [add_block]; exact Kd.own_blk (Kd.R_ne Ac.out Aa.out (by decide))) | (dsimp only; exact Kd.own_blk (Kd.R_ne Ac.out Aa.out (by decide))))), (cX1 hHeld.2.2 (by first | exact Kd.own_blk (Kd.R_ne Ac.out Aa.out (by decide)) | (rw [add_block]; exact Kd.own_blk (Kd.R_ne Ac.out Aa.out (by decide))) | (show (Addr.add _ _).block ≠ _; rw [add_block]; exact Kd.own_blk (Kd.R_ne Ac.out Aa.out (by decide))) | (dsimp only; exact Kd.own_blk (Kd.R_ne Ac.out Aa.out (by decide)))))⟩ (fun hHeld => ?_)
   clear hK K
   refine done_ (done_of HT_.out (by kernel_rfl)) ?_
   have hnb30 := Ae.out
   have hnc30 := Ad.out
   obtain ⟨_, _, _⟩ := bc3 Aa.out
   obtain ⟨_, _, _⟩ := bf3 Aa.out
   try go_wp2_with (first | ((with_reducible refine gate_callee (f := 32) rfl ?_); refine goesL_ (some 50) rfl rfl Try.func32 (by kernel_rfl) rfl #[.agg #[.int .i64 (wrap64 (rd t348 0)), .int .i64 (wrap64 (rd t348 1)), .int .i64 (wrap64 (rd t348 2))]] rfl pL ?_; (with_reducible refine (hard_Check.calls (wrap64 (rd t348 0)) (wrap64 (rd t348 1)) (wrap64 (rd t348 2)) t360 _ A22.out).mono ?_); rintro e w32 ⟨rfl, hb⟩; refine ⟨_, rfl, ?_⟩; replace Ac := Am (Kd.R_below (by (with_reducible repeat (first | apply Kd.R_alloc | apply Kd.R_drewN | apply Kd.R_drew)); exact (Kd.R_mono (Rf3 (g := Af) (Kd.R_types Ac.out Aa.out (by decide)) (fun _ hk => hk.2)) (fun _ h_ => h_.1))) hb); replace Ab := Am (blk_below (g := Al) (kX1 Ab.out Ad.out) hb); replace Aa := Am (blk_below (g := Af) (kX0 Aa.out) hb); replace HB := Am (below_step (pE2 HB.out Aj.out As.out) hb); (try clear hb); (try clear hb2); (try clear hk); (try clear hi); obtain ⟨_, _, _⟩ := bc3 Aa.out; obtain ⟨_, _, _⟩ := bf3 Aa.out; obtain ⟨_, _, _⟩ := bc3 Ab.out; obtain ⟨_, _, _⟩ := bf3 Ab.out))
   refine bodyPost_ret (results_ct rfl _ _ Al 28 #[.int .i64 (wrap64 (rd t348 0)), .int .i64 (wrap64 (rd t348 1)), .int .i64 (wrap64 (rd t348 2))] (0, 0) _ rfl (kX0 Ab.out) Try.underlying28 rfl (by kernel_rfl)) rfl ?_
   exact ⟨pX, pE2 HB.out Aj.out As.out⟩
end Go.Proofs.Ytdanmjfkocjgjaa.PWalGets
