/- What the law reaches, as plain Lean functions, and that the machine's calls answer just that. -/
import Derived.Test.YtjebpaahpehfnaaPRelayPutsx0
import Derived.Test.YtjebpaahpehfnaaPRelayPutsx2
import Derived.Test.YtjebpaahpehfnaaPRelayPutsx3
import Derived.Test.YtjebpaahpehfnaaPRelayPutsx5
namespace Go.Proofs.Ytjebpaahpehfnaa.PRelayPuts
open Go.RowKit Go.Proofs.YtjebpaahpehfnaaW.PrintWords Go.Proofs.YtjebpaahpehfnaaW.PrintLast Go.Proofs.YtjebpaahpehfnaaW.PrintMore
attribute [local go_sem] max2_int min2_int max_two min_two max_three min_three max_four min_four
set_option linter.unusedVariables false
set_option linter.unusedSimpArgs false
attribute [local go_sem] wrap64_l1 wrap64_l2 wrap64_l3 wrap64_l4 wrap64_l5
def point_Get.j0 : Nat → List Int → List Int → Int → Bool → Option (Int × Int × Int × Int × Int × Int)
 | 0, _, _, _, _ => none
 | k + 1, x0, x5, x6, x28 => if x28 = true then (some (0, 0, 0, 0, 0, 2)) else (if 0 < (x5.length : Int) then (if 1 < (x5.length : Int) then (if 2 < (x5.length : Int) then (if 0 ≤ x6 then (if x6 ≤ (x0.length : Int) then ((point_sumOf.f (x0.drop (x6 : Int).toNat)).bind fun t162 => ((point_Check.f (wrap64 (rd x5 0)) (wrap64 (rd x5 1)) (wrap64 (rd x5 2)) t162).bind fun t164 => (if t164 = 0 then (some (wrap64 (rd x5 0), wrap64 (rd x5 1), wrap64 (rd x5 2), t162, wrap64 (x6 + 4), 0)) else (some (0, 0, 0, 0, 0, 2))))) else (none)) else (none)) else (none)) else (none)) else (none))
def point_Get.f (k : Nat) (l0 : List Int) : Option (Int × Int × Int × Int × Int × Int) := (varint_All.f k l0 3).bind fun bt152 => (if bt152.2.2 = 0 then ((slices_Max_uint64_uint64.f k bt152.1).bind fun t157 => (if t157 > 2147483647 then (point_Get.j0 k l0 bt152.1 bt152.2.1 true) else (point_Get.j0 k l0 bt152.1 bt152.2.1 (decide ((wrap64 ((l0.length : Int) - bt152.2.1)) < 4))))) else (point_Get.j0 k l0 bt152.1 bt152.2.1 true))
theorem point_Get.mono_l : ∀ k, (∀ y0 y1 y2 y3, LeO (point_Get.j0 k y0 y1 y2 y3) (point_Get.j0 (k + 1) y0 y1 y2 y3))
 | 0 => fun _ _ _ _ r h => by simp [point_Get.j0] at h
 | k + 1 => by
  have ih0 := point_Get.mono_l k
  ·intro y0 y1 y2 y3
   unfold point_Get.j0
   repeat' first
   | (with_reducible exact ih0 _ _ _ _)
   | (with_reducible exact slices_Max_uint64_uint64.mono _ _)
   | (with_reducible exact varint_All.mono _ _ _)
   | (with_reducible exact LeO.refl _)
   | (with_reducible exact LeO.none _)
   | (with_reducible refine LeO.ite ?_ ?_)
   | (with_reducible refine LeO.bind ?_ (fun _ => ?_))
   | exact ih0 _ _ _ _
   | exact slices_Max_uint64_uint64.mono _ _
   | exact varint_All.mono _ _ _
   | exact LeO.none _
   | refine LeO.ite ?_ ?_
   | refine LeO.bind ?_ (fun _ => ?_)
theorem point_Get.mono : ∀ a0 k, LeO (point_Get.f k a0) (point_Get.f (k + 1) a0) := by
 intro a0 k
 have ih0 := point_Get.mono_l k
 unfold point_Get.f
 repeat' first
   | (with_reducible exact ih0 _ _ _ _)
   | (with_reducible exact slices_Max_uint64_uint64.mono _ _)
   | (with_reducible exact varint_All.mono _ _ _)
   | (with_reducible exact LeO.refl _)
   | (with_reducible exact LeO.none _)
   | (with_reducible refine LeO.ite ?_ ?_)
   | (with_reducible refine LeO.bind ?_ (fun _ => ?_))
   | exact ih0 _ _ _ _
   | exact slices_Max_uint64_uint64.mono _ _
   | exact varint_All.mono _ _ _
   | exact LeO.none _
   | refine LeO.ite ?_ ?_
   | refine LeO.bind ?_ (fun _ => ?_)
def point_Get.T4 : Bool × List (List Nat × List Nat) := (true, [([], []), ([0], [0]), ([1], [1]), ([2], [2]), ([], []), ([4], [4]), ([5], [5]), ([6], [6]), ([], []), ([8], [8]), ([9], [9]), ([10], [10]), ([], []), ([], []), ([12, 13], [12, 13]), ([14], [14]), ([3, 7, 11, 15], [3, 7, 11, 15]), ([], []), ([17, 16, 15, 0, 1, 2, 3, 4, 5, 6, 7, 8, 9, 10, 11, 12, 13, 14, 15, 16, 17], [16, 17])])
def point_Get.B4 : List Nat := [0, 1, 3, 7, 0, 16, 48, 112, 0, 256, 768, 1792, 0, 0, 12288, 28672, 65535, 0, 262143]
theorem point_Get.tab4 : rtab .any (opsOf Try.f41 4) = point_Get.T4 := by kernel_rfl
theorem point_Get.bits4 : waitsOk point_Get.T4.2 point_Get.B4 = true := by kernel_rfl
set_option maxHeartbeats 8000000 in
set_option maxRecDepth 100000 in
theorem point_Get.calls (k : Nat) (A0 : Option Addr) (c0 : Nat) (l0 : List Int) (r1 : Int) (r2 : Int) (r3 : Int) (r4 : Int) (r5 : Int) (r6 : Int) (w : World) (hr0 : Kd.C (Kd.int .u8) w A0 l0.length l0) (hc0 : l0.length ≤ c0) (h : point_Get.f k l0 = some (r1, r2, r3, r4, r5, r6)) :
  Calls Try.prog 41 #[.slice A0 l0.length c0] w fun e w' => e = .returned (.tuple #[.agg #[.int .i64 r1, .int .i64 r2, .int .i64 r3, .int .u32 r4], .int .i64 r5, .int .i64 r6]) ∧ Below w.heap.size w w' := by
 have hu44 := Try.underlying44
 have HR0 := Am hr0
 have HC0 := Am hc0
 clear hr0 hc0
 have HB := Am (Below.refl w.heap.size w)
 have H : ((varint_All.f k l0 3).bind fun bt152 => (if bt152.2.2 = 0 then ((slices_Max_uint64_uint64.f k bt152.1).bind fun t157 => (if t157 > 2147483647 then (point_Get.j0 k l0 bt152.1 bt152.2.1 true) else (point_Get.j0 k l0 bt152.1 bt152.2.1 (decide ((wrap64 ((l0.length : Int) - bt152.2.1)) < 4))))) else (point_Get.j0 k l0 bt152.1 bt152.2.1 true))) = some (r1, r2, r3, r4, r5, r6) := h
 clear h
 replace H := Option.bind_eq_some_iff.mp H
 obtain ⟨⟨t152, t153, t154⟩, A20, H⟩ := H
 replace H : (if t154 = 0 then ((slices_Max_uint64_uint64.f k t152).bind fun t157 => (if t157 > 2147483647 then (point_Get.j0 k l0 t152 t153 true) else (point_Get.j0 k l0 t152 t153 (decide ((wrap64 ((l0.length : Int) - t153)) < 4))))) else (point_Get.j0 k l0 t152 t153 true)) = some (r1, r2, r3, r4, r5, r6) := H
 have A2 := Am A20
 clear A20
 have HC3 := Am H
 clear H
 go_enter Try.func41, Try.ntmps41
 go_upto_region 2 with (first | ((with_reducible refine gate_dst (N := 2) rfl ?_); (try (refine gate_guard (by rfl) ?_; dsimp only)); refine box_event ?hg (N := 2) ?hd (cs := #[.int .i64 0, .int .i64 0, .int .i64 0, .int .u32 0]) (t := 44) ?hr ?_; (case hd => rfl); (case hg => rfl); (case hr => first | (go_simp; done) | (go_simp; rfl)); intro Ai hg w4 hbox hb; have Ab := Am (hbox); have A5 := Am ((by rw [hg]; exact (below_size (pB HB.out)) : w.heap.size ≤ Ai)); replace HB := Am (below_step (pB HB.out) hb); have Ah := A5; clear hb hbox hg) | ((with_reducible refine gate_callee (f := 17) rfl ?_); refine goesL_ (some 11) rfl rfl Try.func17 (by kernel_rfl) rfl #[.slice A0 l0.length c0, .int .i64 3] rfl pL ?_; (with_reducible refine (varint_All.calls k _ _ l0 3 t152 t153 t154 _ ?Ao ?Ap A2.out).mono ?_); (case Ao => exact pC (Kd.C_below HR0.out HB.out)); (case Ap => exact HC0.out); rintro e w5 ⟨v155, rfl, ho0, hb⟩; refine ⟨_, rfl, ?_⟩; have Aq := Am (Kd.R_lower ho0 (below_size (pE HB.out Ah.out))); replace Ab := kBa Ab hb; replace HB := Am (below_step (pE HB.out Ah.out) hb); (try clear hb); (try clear hb2); (try clear hk); (try clear hi); (try clear ho0)))
 (try simp only [Act.put, List.setIfInBounds_toArray, List.set_cons_zero, List.set_cons_succ])
 go_cut [28] (fun v28 wc => ∃ (kq : Nat) (As : Bool), v28 = .bool As ∧ Aside0 (point_Get.j0 kq l0 t152 t153 As = some (r1, r2, r3, r4, r5, r6)) ∧ Aside0 (kq ≤ k) ∧ Aside0 (Kd.R (Kd.int .u64) 56 wc w.heap.size (fun _ => True) v155 t152) ∧ Aside0 (wc.heap[Ai]? = some (.cells #[.int .i64 0, .int .i64 0, .int .i64 0, .int .u32 0] 44 (0, 0))) ∧ Aside0 (Below w.heap.size w wc))
 case first =>
  have H := HC3.out
  clear HC3
  by_cases c6 : t154 = 0
  rotate_left
  ·rw [if_neg c6] at H
   have c6b0 : (t154 == 0) = false := beq_eq_false_iff_ne.mpr c6
   have c6b1 : (t154 != 0) = true := bne_iff_ne.mpr c6
   (first | rw [c6b0] | (simp only [i64_w, i32_w]; rw [c6b0]) | skip)
   have H' := Am H
   clear H
   go_wp2
   go_meet
   case rel => exact ⟨_, (true), (by first | rfl | (simp; done) | (simp [*]; done)), H', ⟨by first | omega | exact Nat.le_refl _⟩, ⟨by (with_reducible repeat (first | apply Kd.R_alloc | apply Kd.R_drewN | apply Kd.R_drew)); exact Aq.out⟩, ⟨pK Ab.out⟩, ⟨pE HB.out Ah.out⟩⟩
  rw [if_pos c6] at H
  have c6b0 : (t154 == 0) = true := beq_iff_eq.mpr c6
  have c6b1 : (t154 != 0) = false := bne_eq_false_iff_eq.mpr c6
  clear c6
  (first | rw [c6b0] | (simp only [i64_w, i32_w]; rw [c6b0]) | skip)
  replace H := Option.bind_eq_some_iff.mp H
  obtain ⟨t157, A70, H⟩ := H
  replace H : (if t157 > 2147483647 then (point_Get.j0 k l0 t152 t153 true) else (point_Get.j0 k l0 t152 t153 (decide ((wrap64 ((l0.length : Int) - t153)) < 4)))) = some (r1, r2, r3, r4, r5, r6) := H
  have A7 := Am A70
  clear A70
  by_cases c8 : t157 > 2147483647
  ·rw [if_pos c8] at H
   have c8b0 : decide (2147483647 < t157) = true := decide_eq_true c8
   clear c8
   have H' := Am H
   clear H
   obtain ⟨Ao9, co9, A8⟩ := Kd.R_slice Aq.out
   subst A8
   go_wp2_with (first | (go_at_call 52; (with_reducible refine (slices_Max_uint64_uint64.calls k _ _ t152 t157 _ ?Ao ?Ap A7.out).mono ?_); (case Ao => exact pC (Kd.R_reads' Aq.out).2.2); (case Ap => exact (Kd.R_reads' Aq.out).2.1); rintro e w10 ⟨rfl, hb⟩; replace Aq := bRa Aq hb; replace Ab := kBa Ab hb; replace HB := Am (below_step (pE HB.out Ah.out) hb); (try clear hb); (try clear hb2); (try clear hk); (try clear hi)))
   go_meet
   case rel => exact ⟨_, (true), (by first | rfl | (simp; done) | (simp [*]; done)), H', ⟨by first | omega | exact Nat.le_refl _⟩, ⟨by (with_reducible repeat (first | apply Kd.R_alloc | apply Kd.R_drewN | apply Kd.R_drew)); exact Aq.out⟩, ⟨pK Ab.out⟩, ⟨pE HB.out Ah.out⟩⟩
  rw [if_neg c8] at H
  have c8b0 : decide (2147483647 < t157) = false := decide_eq_false c8
  clear c8
  have H' := Am H
  clear H
  obtain ⟨Ao11, co11, A6⟩ := Kd.R_slice Aq.out
  subst A6
  go_wp2_with (first | (go_at_call 52; (with_reducible refine (slices_Max_uint64_uint64.calls k _ _ t152 t157 _ ?Ao ?Ap A7.out).mono ?_); (case Ao => exact pC (Kd.R_reads' Aq.out).2.2); (case Ap => exact (Kd.R_reads' Aq.out).2.1); rintro e w12 ⟨rfl, hb⟩; replace Aq := bRa Aq hb; replace Ab := kBa Ab hb; replace HB := Am (below_step (pE HB.out Ah.out) hb); (try clear hb); (try clear hb2); (try clear hk); (try clear hi)))
  go_meet
  case rel => exact ⟨_, (decide ((wrap64 ((l0.length : Int) - t153)) < 4)), (by first | rfl | (simp; done) | (simp [*]; done)), H', ⟨by first | omega | exact Nat.le_refl _⟩, ⟨by (with_reducible repeat (first | apply Kd.R_alloc | apply Kd.R_drewN | apply Kd.R_drew)); exact Aq.out⟩, ⟨pK Ab.out⟩, ⟨pE HB.out Ah.out⟩⟩
 case rest =>
  clear HC3
  try clear c1
  try clear p2
  try clear c4
  try clear c6
  try clear c6b0
  try clear c6b1
  try clear p6
  try clear c8
  try clear c8b0
  obtain ⟨kq, As, rfl, HA, HJ2, Af, Ab, HB⟩ := hcut
  cases kq with
  | zero => exact absurd HA.out (by simp [point_Get.j0])
  | succ kj2 =>
   have H := HA.out
   clear HA
   simp only [point_Get.j0] at H
   by_cases c13 : As = true
   ·subst c13
    have H1 : (some (0, 0, 0, 0, 0, 2)) = some (r1, r2, r3, r4, r5, r6) := by rw [if_pos rfl] at H; exact H
    clear H
    have H := H1
    clear H1
    simp only [Option.some.injEq, Prod.mk.injEq] at H
    obtain ⟨rfl, rfl, rfl, rfl, rfl, rfl⟩ := H
    obtain ⟨_, _, _, _⟩ := bc4 Ab.out
    obtain ⟨_, _, _, _⟩ := bf4 Ab.out
    go_wp2
    refine bodyPost_ret (results_ctt rfl _ _ Ai 44 #[.int .i64 0, .int .i64 0, .int .i64 0, .int .u32 0] (0, 0) _ rfl (kX0 Ab.out) Try.underlying44 rfl (by kernel_rfl)) rfl ?_
    exact ⟨pX, pE HB.out Ah.out⟩
   replace c13 := Bool.eq_false_iff.mpr c13
   subst c13
   have H1 : (if 0 < (t152.length : Int) then (if 1 < (t152.length : Int) then (if 2 < (t152.length : Int) then (if 0 ≤ t153 then (if t153 ≤ (l0.length : Int) then ((point_sumOf.f (l0.drop (t153 : Int).toNat)).bind fun t162 => ((point_Check.f (wrap64 (rd t152 0)) (wrap64 (rd t152 1)) (wrap64 (rd t152 2)) t162).bind fun t164 => (if t164 = 0 then (some (wrap64 (rd t152 0), wrap64 (rd t152 1), wrap64 (rd t152 2), t162, wrap64 (t153 + 4), 0)) else (some (0, 0, 0, 0, 0, 2))))) else (none)) else (none)) else (none)) else (none)) else (none)) = some (r1, r2, r3, r4, r5, r6) := by rw [if_neg (show ¬ (false = true) by decide)] at H; exact H
   clear H
   have H := H1
   clear H1
   by_cases c15 : 0 < (t152.length : Int)
   rotate_left
   ·rw [if_neg c15] at H
    exact absurd H (by simp)
   rw [if_pos c15] at H
   have c15b0 : decide (0 < (t152.length : Int)) = true := decide_eq_true c15
   have c15b1 : decide (0 < t152.length) = true := decide_eq_true (by omega)
   clear c15
   by_cases c16 : 1 < (t152.length : Int)
   rotate_left
   ·rw [if_neg c16] at H
    exact absurd H (by simp)
   rw [if_pos c16] at H
   have c16b0 : decide (1 < (t152.length : Int)) = true := decide_eq_true c16
   have c16b1 : decide (1 < t152.length) = true := decide_eq_true (by omega)
   clear c16
   by_cases c17 : 2 < (t152.length : Int)
   rotate_left
   ·rw [if_neg c17] at H
    exact absurd H (by simp)
   rw [if_pos c17] at H
   have c17b0 : decide (2 < (t152.length : Int)) = true := decide_eq_true c17
   have c17b1 : decide (2 < t152.length) = true := decide_eq_true (by omega)
   clear c17
   by_cases c18 : 0 ≤ t153
   rotate_left
   ·rw [if_neg c18] at H
    exact absurd H (by simp)
   rw [if_pos c18] at H
   have c18b0 := eq_true c18
   have c18b1 : decide (0 ≤ t153) = true := decide_eq_true c18
   clear c18
   by_cases c19 : t153 ≤ (l0.length : Int)
   rotate_left
   ·rw [if_neg c19] at H
    exact absurd H (by simp)
   rw [if_pos c19] at H
   have c19b0 := eq_true c19
   have c19b1 : decide (t153 ≤ (l0.length : Int)) = true := decide_eq_true c19
   clear c19
   replace H := Option.bind_eq_some_iff.mp H
   obtain ⟨t162, A200, H⟩ := H
   replace H : ((point_Check.f (wrap64 (rd t152 0)) (wrap64 (rd t152 1)) (wrap64 (rd t152 2)) t162).bind fun t164 => (if t164 = 0 then (some (wrap64 (rd t152 0), wrap64 (rd t152 1), wrap64 (rd t152 2), t162, wrap64 (t153 + 4), 0)) else (some (0, 0, 0, 0, 0, 2)))) = some (r1, r2, r3, r4, r5, r6) := H
   have A20 := Am A200
   clear A200
   replace H := Option.bind_eq_some_iff.mp H
   obtain ⟨t164, A210, H⟩ := H
   replace H : (if t164 = 0 then (some (wrap64 (rd t152 0), wrap64 (rd t152 1), wrap64 (rd t152 2), t162, wrap64 (t153 + 4), 0)) else (some (0, 0, 0, 0, 0, 2))) = some (r1, r2, r3, r4, r5, r6) := H
   have A21 := Am A210
   clear A210
   by_cases c22 : t164 = 0
   rotate_left
   ·rw [if_neg c22] at H
    have c22b0 : (t164 == 0) = false := beq_eq_false_iff_ne.mpr c22
    have c22b1 : (t164 != 0) = true := bne_iff_ne.mpr c22
    simp only [Option.some.injEq, Prod.mk.injEq] at H
    obtain ⟨rfl, rfl, rfl, rfl, rfl, rfl⟩ := H
    try go_wp2
    replace Af := dRa Af
    replace Ab := kDa Ab
    replace HB := bDa HB
    obtain ⟨Ao38, A1, A3⟩ := Kd.R_slice Af.out
    (first | subst A3 | (injection A3 with f1_ f2_ f3_; have f4_ := f1_.symm; have f5_ := f3_.symm; clear f1_ f2_ f3_; subst f4_; subst f5_))
    have p158 : 0 ≤ (0 : Int) := (by omega)
    have q158 : 0 < (t152.length : Int) := of_decide_eq_true pS
    obtain ⟨Ag, e158, Aj⟩ := Kd.at_int (Kd.R_reads' Af.out).2.2 0 p158 q158
    cases e158
    have qi158 : (0 < t152.length) = True := eq_true (by omega)
    (try rw [tz] at Aj)
    (try rw [Addr.add_zero'] at Aj)
    replace p158 := eq_true p158
    replace q158 := eq_true q158
    have p159 : 0 ≤ (1 : Int) := (by omega)
    have q159 : 1 < (t152.length : Int) := of_decide_eq_true pS
    obtain ⟨At, e159, Ak⟩ := Kd.at_int (Kd.R_reads' Af.out).2.2 1 p159 q159
    obtain rfl : Ag = At := (by injection e159)
    (try simp only [show (1 : Int).toNat = 1 from rfl, Nat.reduceMul, Nat.reduceEqDiff, Go.Addr.add, ↓reduceIte] at Ak)
    have qi159 : (1 < t152.length) = True := eq_true (by omega)
    (try rw [show ((1 : Int)).toNat = 1 from rfl] at Ak)
    replace p159 := eq_true p159
    replace q159 := eq_true q159
    have p160 : 0 ≤ (2 : Int) := (by omega)
    have q160 : 2 < (t152.length : Int) := of_decide_eq_true pS
    obtain ⟨Au, e160, Al⟩ := Kd.at_int (Kd.R_reads' Af.out).2.2 2 p160 q160
    obtain rfl : Ag = Au := (by injection e160)
    (try simp only [show (2 : Int).toNat = 2 from rfl, Nat.reduceMul, Nat.reduceEqDiff, Go.Addr.add, ↓reduceIte] at Al)
    have qi160 : (2 < t152.length) = True := eq_true (by omega)
    (try rw [show ((2 : Int)).toNat = 2 from rfl] at Al)
    replace p160 := eq_true p160
    replace q160 := eq_true q160
    obtain ⟨i039, hi039, _, Aw, _⟩ := info_parts info5
    obtain ⟨A39, hcut39, hA39, A4⟩ := print_drop_of (P := Try.prog) (Value.int .u8) 0 22 5 .i64 Try.underlying22 hi039 Aw A0 c0 l0 t153 (of_decide_eq_true pS) (of_decide_eq_true pS) HC0.out
    have HR161 := Am (Kd.C_of_reads (h1 := fun _ => rfl) (hA39 _ (Kd.reads_of_C HR0.out)))
    have HC161 := Am A4
    clear hA39 A4 hi039 Aw
    refine start_ (n := 19) (S := fun w' => w'.cell? Ag = some (.int .u64 (rd t152 0)) ∧ cA w' Ag 1 (.int .u64 (rd t152 1)) ∧ cA w' Ag 2 (.int .u64 (rd t152 2))) (ds := []) #[false, false, false, false, false, false, false, false, false, false, false, false, false, false, false, false, false, false, false] (by kernel_rfl) rfl rfl ⟨Aj, Ak, Al⟩ (fun hHeld => ?_); refine with_tabW point_Get.tab4 point_Get.bits4 (fun HT_ HW_ => ?_)
    (first | generalize wc.drew = w37 at Af Ab HB HR161 Aj Ak Al hHeld ⊢ | generalize wc.drew = w37 at Ab HB HR161 Aj Ak Al hHeld ⊢)
    refine pui 0 30 19 1 HT_ ?_
    refine pui 1 31 19 3 HT_ ?_
    refine pui 4 34 19 19 HT_ ?_
    refine pui 5 35 19 51 HT_ ?_
    refine pui 8 38 19 307 HT_ ?_
    refine pui 9 39 19 819 HT_ ?_
    refine pui 12 42 19 4915 HT_ ?_
    refine pui 13 43 19 13107 HT_ ?_
    refine pui 14 44 19 29491 HT_ ?_
    refine tki 2 32 19 29495 HT_ HW_ hHeld ?_
    refine pui 3 33 19 29503 HT_ ?_
    refine tki 6 36 19 29567 HT_ HW_ hHeld ?_
    refine pui 7 37 19 29695 HT_ ?_
    refine tki 10 40 19 30719 HT_ HW_ hHeld ?_
    refine pui 11 41 19 32767 HT_ ?_
    refine join_ (σ := Nat) 1 #[true, true, true, true, true, true, true, true, true, true, true, true, true, true, true, true, true, true, false] (fun s_ => [(45, .int .u32 t162), (8, .pointer (some ⟨s_, 0, none⟩)), (46, .agg #[.int .i64 (wrap64 (rd t152 0)), .int .i64 (wrap64 (rd t152 1)), .int .i64 (wrap64 (rd t152 2)), .int .u32 t162])]) (fun s_ w' => (w'.cell? Ag = some (.int .u64 (rd t152 0)) ∧ cA w' Ag 1 (.int .u64 (rd t152 1)) ∧ cA w' Ag 2 (.int .u64 (rd t152 2))) ∧ (Kd.R (Kd.int .u64) 56 w' w.heap.size (fun _ => True) (.slice (some Ag) t152.length A1) t152) ∧ (w'.heap[Ai]? = some (.cells #[.int .i64 0, .int .i64 0, .int .i64 0, .int .u32 0] 44 (0, 0))) ∧ (w'.heap[s_]? = some (.cells #[.int .i64 0, .int .i64 0, .int .i64 0, .int .u32 0] 44 (0, 0))) ∧ (w.heap.size ≤ s_) ∧ (w.heap.size ≤ s_) ∧ (Ai ≠ s_) ∧ (s_ ≠ Ai) ∧ (Below w.heap.size w w')) ?_ ?_
    rotate_left
    ·intro hCont
     refine two_ (i := 15) (j := 17) (Ni := some 45) (Nj := some 8) (bw 19 65535) #[true, true, true, true, true, true, true, true, true, true, true, true, true, true, true, false, false, true, false] rfl rfl rfl rfl (two_of HT_.out (by kernel_rfl)) (by decide) (by decide) (fun K hK => ?_) (fun K hK => ?_)
     ·skip
      refine goes_ Try.func53 (by kernel_rfl) rfl #[.slice A39 (l0.drop (t153 : Int).toNat).length (c0 - t153.toNat)] (by rfl) rfl rfl (by (try simp only [List.map_toArray, List.map_cons, List.map_nil]); first | done | (rw [show (l0.drop (t153 : Int).toNat).length = (l0.length - t153.toNat) from List.length_drop] <;> rfl) | rfl | (simp only [List.length_drop, List.length_take]; rfl)) ?_
      with_reducible refine (point_sumOf.calls _ _ (l0.drop (t153 : Int).toNat) t162 _ ?Ao ?Ap A20.out).mono ?_
      (case Ao => exact pC (Kd.C_below HR161.out HB.out))
      (case Ap => exact HC161.out)
      rintro e w' ⟨rfl, ⟨nd, rfl⟩⟩
      refine ⟨_, rfl, ?_⟩
      refine hK.out _ _ ⟨hHeld.1, hHeld.2.1, hHeld.2.2⟩ (fun hHeld => ?_)
      clear hK K
      refine norm_ (a' := ?_) ?_ ?_
      rotate_left
      ·show Act.put _ (some 45) _ = _
       simp only [Act.put, List.setIfInBounds_toArray, List.set_cons_zero, List.set_cons_succ, i64_w, i32_w]
       rfl
      refine pui 16 46 19 131071 HT_ ?_
      refine onei 17 8 19 262143 HT_ (fun K hK => ?_)
      refine box_step ?hg (N := 8) ?hd (cs := #[.int .i64 0, .int .i64 0, .int .i64 0, .int .u32 0]) (t := 44) ?hr ?_; (case hd => rfl); (case hg => rfl); (case hr => first | (go_simp; done) | (go_simp; rfl))
      intro Ad hg w40 hbox hb
      have HS0_ := (hb.cell (World.block_lt_of_cell? _ _ (hHeld.1))).trans (hHeld.1)
      have HS1_ := (hb.cell (World.block_lt_of_cell? _ _ (hHeld.2.1))).trans (hHeld.2.1)
      have HS2_ := (hb.cell (World.block_lt_of_cell? _ _ (hHeld.2.2))).trans (hHeld.2.2)
      replace Af := bRa Af hb
      have Aa := Am (hbox)
      have Ar := Am ((by rw [hg]; exact (below_size (pE HB.out Ah.out)) : w.heap.size ≤ Ad))
      have An := Am ((by rw [hg]; exact (below_size (pE HB.out Ah.out)) : w.heap.size ≤ Ad))
      replace HB := Am (below_step (pE HB.out Ah.out) hb)
      have Ac := Am ((by rw [hg]; exact Nat.ne_of_lt (kL Ab.out) : Ai ≠ Ad))
      have Ae := Am ((by rw [hg]; exact Nat.ne_of_gt (kL Ab.out) : Ad ≠ Ai))
      replace Ab := kBa Ab hb
      clear hb hbox hg
      refine hK.out _ _ ⟨HS0_, HS1_, HS2_⟩ (fun hHeld => ?_)
      clear hK K
      refine norm_ (a' := ?_) ?_ ?_
      rotate_left
      ·show Act.put _ (some 8) _ = _
       simp only [Act.put, List.setIfInBounds_toArray, List.set_cons_zero, List.set_cons_succ, i64_w, i32_w]
       rfl
      exact norm_ (by simp only [putAll, Act.put, List.setIfInBounds_toArray, List.set_cons_zero, List.set_cons_succ]) (hCont (Ad) _ ⟨hHeld, (pR Af.out), (pK Ab.out), (pK Aa.out), Ar.out, An.out, Ac.out, Ae.out, (pE2 HB.out Ah.out An.out)⟩)
     skip
     refine box_step ?hg (N := 8) ?hd (cs := #[.int .i64 0, .int .i64 0, .int .i64 0, .int .u32 0]) (t := 44) ?hr ?_; (case hd => rfl); (case hg => rfl); (case hr => first | (go_simp; done) | (go_simp; rfl))
     intro Ad hg w40 hbox hb
     have HS0_ := (hb.cell (World.block_lt_of_cell? _ _ (hHeld.1))).trans (hHeld.1)
     have HS1_ := (hb.cell (World.block_lt_of_cell? _ _ (hHeld.2.1))).trans (hHeld.2.1)
     have HS2_ := (hb.cell (World.block_lt_of_cell? _ _ (hHeld.2.2))).trans (hHeld.2.2)
     replace Af := bRa Af hb
     have Aa := Am (hbox)
     have Ar := Am ((by rw [hg]; exact (below_size (pE HB.out Ah.out)) : w.heap.size ≤ Ad))
     have An := Am ((by rw [hg]; exact (below_size (pE HB.out Ah.out)) : w.heap.size ≤ Ad))
     replace HB := Am (below_step (pE HB.out Ah.out) hb)
     have Ac := Am ((by rw [hg]; exact Nat.ne_of_lt (kL Ab.out) : Ai ≠ Ad))
     have Ae := Am ((by rw [hg]; exact Nat.ne_of_gt (kL Ab.out) : Ad ≠ Ai))
     replace Ab := kBa Ab hb
     clear hb hbox hg
     refine hK.out _ _ ⟨HS0_, HS1_, HS2_⟩ (fun hHeld => ?_)
     clear hK K
     refine norm_ (a' := ?_) ?_ ?_
     rotate_left
     ·show Act.put _ (some 8) _ = _
      simp only [Act.put, List.setIfInBounds_toArray, List.set_cons_zero, List.set_cons_succ, i64_w, i32_w]
      rfl
     refine onei 15 45 19 196607 HT_ (fun K hK => ?_)
     refine goes_ Try.func53 (by kernel_rfl) rfl #[.slice A39 (l0.drop (t153 : Int).toNat).length (c0 - t153.toNat)] (by rfl) rfl rfl (by (try simp only [List.map_toArray, List.map_cons, List.map_nil]); first | done | (rw [show (l0.drop (t153 : Int).toNat).length = (l0.length - t153.toNat) from List.length_drop] <;> rfl) | rfl | (simp only [List.length_drop, List.length_take]; rfl)) ?_
     with_reducible refine (point_sumOf.calls _ _ (l0.drop (t153 : Int).toNat) t162 _ ?Ao ?Ap A20.out).mono ?_
     (case Ao => exact pC (Kd.C_below HR161.out HB.out))
     (case Ap => exact HC161.out)
     rintro e w' ⟨rfl, ⟨nd, rfl⟩⟩
     refine ⟨_, rfl, ?_⟩
     refine hK.out _ _ ⟨hHeld.1, hHeld.2.1, hHeld.2.2⟩ (fun hHeld => ?_)
     clear hK K
     refine norm_ (a' := ?_) ?_ ?_
     rotate_left
     ·show Act.put _ (some 45) _ = _
      simp only [Act.put, List.setIfInBounds_toArray, List.set_cons_zero, List.set_cons_succ, i64_w, i32_w]
      rfl
     refine pui 16 46 19 262143 HT_ ?_
     exact norm_ (by simp only [putAll, Act.put, List.setIfInBounds_toArray, List.set_cons_zero, List.set_cons_succ]) (hCont (Ad) _ ⟨hHeld, (pR Af.out), (pK Ab.out), (pK Aa.out), Ar.out, An.out, Ac.out, Ae.out, (pE2 HB.out Ah.out An.out)⟩)
    rintro Ad w41 ⟨hS_, h0_, h1_, h2_, h3_, h4_, h5_, h6_, h7_⟩
    replace Af : Aside0 (Kd.R (Kd.int .u64) 56 w41 w.heap.size (fun _ => True) (.slice (some Ag) t152.length A1) t152) := ⟨h0_⟩
    replace Ab : Aside0 (w41.heap[Ai]? = some (.cells #[.int .i64 0, .int .i64 0, .int .i64 0, .int .u32 0] 44 (0, 0))) := ⟨h1_⟩
    have Aa : Aside0 (w41.heap[Ad]? = some (.cells #[.int .i64 0, .int .i64 0, .int .i64 0, .int .u32 0] 44 (0, 0))) := ⟨h2_⟩
    have Ar : Aside0 (w.heap.size ≤ Ad) := ⟨h3_⟩
    have An : Aside0 (w.heap.size ≤ Ad) := ⟨h4_⟩
    have Ac : Aside0 (Ai ≠ Ad) := ⟨h5_⟩
    have Ae : Aside0 (Ad ≠ Ai) := ⟨h6_⟩
    replace HB : Aside0 (Below w.heap.size w w41) := ⟨h7_⟩
    clear h0_ h1_ h2_ h3_ h4_ h5_ h6_ h7_
    have hHeld : w41.cell? Ag = some (.int .u64 (rd t152 0)) ∧ w41.cell? ⟨Ag.block, Ag.off + 1, none⟩ = some (.int .u64 (rd t152 1)) ∧ w41.cell? ⟨Ag.block, Ag.off + 2, none⟩ = some (.int .u64 (rd t152 2)) := hS_
    refine norm_ (a' := ?_) ?_ ?_
    rotate_left
    ·simp only [putAll, Act.put, List.setIfInBounds_toArray, List.set_cons_zero, List.set_cons_succ]
     rfl
    refine one_ (i := 18) (N := none) (bw 19 524287) rfl rfl (one_of HT_.out (by kernel_rfl)) (by decide) (fun K hK => ?_)
    have hs42 : w41.cell? ⟨Ad, 0, none⟩ = some (.int .i64 0) := (blk_cell Aa.out 0).trans rfl
    have hfs42 := blk_frozen Aa.out 0
    have hns42_0 := Ac.out
    have hms42_0 := Ae.out
    have hs43 : w41.cell? ⟨Ad, 1, none⟩ = some (.int .i64 0) := (blk_cell Aa.out 1).trans rfl
    have hfs43 := blk_frozen Aa.out 1
    have hns43_0 := Ac.out
    have hms43_0 := Ae.out
    have hs44 : w41.cell? ⟨Ad, 2, none⟩ = some (.int .i64 0) := (blk_cell Aa.out 2).trans rfl
    have hfs44 := blk_frozen Aa.out 2
    have hns44_0 := Ac.out
    have hms44_0 := Ae.out
    have hs45 : w41.cell? ⟨Ad, 3, none⟩ = some (.int .u32 0) := (blk_cell Aa.out 3).trans rfl
    have hfs45 := blk_frozen Aa.out 3
    have hns45_0 := Ac.out
    have hms45_0 := Ae.out
    refine skip_ (w1 := ?_) (by rfl) rfl ?_ ?_
    rotate_left
    ·go_simp
     rfl
    refine hK.out _ _ ⟨(cX1 hHeld.1 (by first | exact Kd.own_blk (Kd.R_ne Af.out Aa.out (by decide)) | (rw [add_block]; exact Kd.own_blk (Kd.R_ne Af.out Aa.out (by decide))) | (show (Addr.add _ _).block ≠ _; rw [add_block]; exact Kd.own_blk (Kd.R_ne Af.out Aa.out (by decide))) | (dsimp only; exact Kd.own_blk (Kd.R_ne Af.out Aa.out (by decide))))), (cX1 hHeld.2.1 (by first | exact Kd.own_blk (Kd.R_ne Af.out Aa.out (by decide)) | (rw [add_block]; exact Kd.own_blk (Kd.R_ne Af.out Aa.out (by decide))) | (show (Addr.add _ _).block ≠ _; rw [add_block]; exact Kd.own_blk (Kd.R_ne Af.out Aa.out (by decide))) | (dsimp only; exact Kd.own_blk (Kd.R_ne Af.out Aa.out (by decide))))), (cX1 hHeld.2.2 (by first | exact Kd.own_blk (Kd.R_ne Af.out Aa.out (by decide)) | (rw [add_block]; exact Kd.own_blk (Kd.R_ne Af.out Aa.out (by decide))) | (show (Addr.add _ _).block ≠ _; rw [add_block]; exact Kd.own_blk (Kd.R_ne Af.out Aa.out (by decide))) | (dsimp only; exact Kd.own_blk (Kd.R_ne Af.out Aa.out (by decide)))))⟩ (fun hHeld => ?_)
    clear hK K
    refine done_ (done_of HT_.out (by kernel_rfl)) ?_
    have hnb46 := Ae.out
    have hnc46 := Ac.out
    obtain ⟨_, _, _, _⟩ := bc4 Aa.out
    obtain ⟨_, _, _, _⟩ := bf4 Aa.out
    try go_wp2_with (first | ((with_reducible refine gate_callee (f := 34) rfl ?_); refine goesL_ (some 48) rfl rfl Try.func34 (by kernel_rfl) rfl #[.agg #[.int .i64 (wrap64 (rd t152 0)), .int .i64 (wrap64 (rd t152 1)), .int .i64 (wrap64 (rd t152 2)), .int .u32 t162]] rfl pL ?_; (with_reducible refine (point_Check.calls (wrap64 (rd t152 0)) (wrap64 (rd t152 1)) (wrap64 (rd t152 2)) t162 t164 _ A21.out).mono ?_); rintro e w48 ⟨rfl, hb⟩; refine ⟨_, rfl, ?_⟩; replace Af := Am (Kd.R_below (by (with_reducible repeat (first | apply Kd.R_alloc | apply Kd.R_drewN | apply Kd.R_drew)); exact (Kd.R_mono (Rf4 (g := Ad) (Kd.R_types Af.out Aa.out (by decide)) (fun _ hk => hk.2)) (fun _ h_ => h_.1))) hb); replace Ab := Am (blk_below (g := Ai) (kX1 Ab.out Ac.out) hb); replace Aa := Am (blk_below (g := Ad) (kX0 Aa.out) hb); replace HB := Am (below_step (pE2 HB.out Ah.out An.out) hb); (try clear hb); (try clear hb2); (try clear hk); (try clear hi); obtain ⟨_, _, _, _⟩ := bc4 Ab.out; obtain ⟨_, _, _, _⟩ := bf4 Ab.out))
    refine bodyPost_ret (results_ctt rfl _ _ Ai 44 #[.int .i64 0, .int .i64 0, .int .i64 0, .int .u32 0] (0, 0) _ rfl (kX0 Ab.out) Try.underlying44 rfl (by kernel_rfl)) rfl ?_
    exact ⟨pX, pE2 HB.out Ah.out An.out⟩
   rw [if_pos c22] at H
   have c22b0 : (t164 == 0) = true := beq_iff_eq.mpr c22
   have c22b1 : (t164 != 0) = false := bne_eq_false_iff_eq.mpr c22
   clear c22
   simp only [Option.some.injEq, Prod.mk.injEq] at H
   obtain ⟨rfl, rfl, rfl, rfl, rfl, rfl⟩ := H
   try go_wp2
   replace Af := dRa Af
   replace Ab := kDa Ab
   replace HB := bDa HB
   obtain ⟨Ao24, Ax, Ay⟩ := Kd.R_slice Af.out
   (first | subst Ay | (injection Ay with f1_ f2_ f3_; have f4_ := f1_.symm; have f5_ := f3_.symm; clear f1_ f2_ f3_; subst f4_; subst f5_))
   have p158 : 0 ≤ (0 : Int) := (by omega)
   have q158 : 0 < (t152.length : Int) := of_decide_eq_true pS
   obtain ⟨Ag, e158, Aj⟩ := Kd.at_int (Kd.R_reads' Af.out).2.2 0 p158 q158
   cases e158
   have qi158 : (0 < t152.length) = True := eq_true (by omega)
   (try rw [tz] at Aj)
   (try rw [Addr.add_zero'] at Aj)
   replace p158 := eq_true p158
   replace q158 := eq_true q158
   have p159 : 0 ≤ (1 : Int) := (by omega)
   have q159 : 1 < (t152.length : Int) := of_decide_eq_true pS
   obtain ⟨At, e159, Ak⟩ := Kd.at_int (Kd.R_reads' Af.out).2.2 1 p159 q159
   obtain rfl : Ag = At := (by injection e159)
   (try simp only [show (1 : Int).toNat = 1 from rfl, Nat.reduceMul, Nat.reduceEqDiff, Go.Addr.add, ↓reduceIte] at Ak)
   have qi159 : (1 < t152.length) = True := eq_true (by omega)
   (try rw [show ((1 : Int)).toNat = 1 from rfl] at Ak)
   replace p159 := eq_true p159
   replace q159 := eq_true q159
   have p160 : 0 ≤ (2 : Int) := (by omega)
   have q160 : 2 < (t152.length : Int) := of_decide_eq_true pS
   obtain ⟨Au, e160, Al⟩ := Kd.at_int (Kd.R_reads' Af.out).2.2 2 p160 q160
   obtain rfl : Ag = Au := (by injection e160)
   (try simp only [show (2 : Int).toNat = 2 from rfl, Nat.reduceMul, Nat.reduceEqDiff, Go.Addr.add, ↓reduceIte] at Al)
   have qi160 : (2 < t152.length) = True := eq_true (by omega)
   (try rw [show ((2 : Int)).toNat = 2 from rfl] at Al)
   replace p160 := eq_true p160
   replace q160 := eq_true q160
   obtain ⟨i025, hi025, _, Av, _⟩ := info_parts info5
   obtain ⟨A25, hcut25, hA25, Az⟩ := print_drop_of (P := Try.prog) (Value.int .u8) 0 22 5 .i64 Try.underlying22 hi025 Av A0 c0 l0 t153 (of_decide_eq_true pS) (of_decide_eq_true pS) HC0.out
   have HR161 := Am (Kd.C_of_reads (h1 := fun _ => rfl) (hA25 _ (Kd.reads_of_C HR0.out)))
   have HC161 := Am Az
   clear hA25 Az hi025 Av
   refine start_ (n := 19) (S := fun w' => w'.cell? Ag = some (.int .u64 (rd t152 0)) ∧ cA w' Ag 1 (.int .u64 (rd t152 1)) ∧ cA w' Ag 2 (.int .u64 (rd t152 2))) (ds := []) #[false, false, false, false, false, false, false, false, false, false, false, false, false, false, false, false, false, false, false] (by kernel_rfl) rfl rfl ⟨Aj, Ak, Al⟩ (fun hHeld => ?_); refine with_tabW point_Get.tab4 point_Get.bits4 (fun HT_ HW_ => ?_)
   (first | generalize wc.drew = w23 at Af Ab HB HR161 Aj Ak Al hHeld ⊢ | generalize wc.drew = w23 at Ab HB HR161 Aj Ak Al hHeld ⊢)
   refine pui 0 30 19 1 HT_ ?_
   refine pui 1 31 19 3 HT_ ?_
   refine pui 4 34 19 19 HT_ ?_
   refine pui 5 35 19 51 HT_ ?_
   refine pui 8 38 19 307 HT_ ?_
   refine pui 9 39 19 819 HT_ ?_
   refine pui 12 42 19 4915 HT_ ?_
   refine pui 13 43 19 13107 HT_ ?_
   refine pui 14 44 19 29491 HT_ ?_
   refine tki 2 32 19 29495 HT_ HW_ hHeld ?_
   refine pui 3 33 19 29503 HT_ ?_
   refine tki 6 36 19 29567 HT_ HW_ hHeld ?_
   refine pui 7 37 19 29695 HT_ ?_
   refine tki 10 40 19 30719 HT_ HW_ hHeld ?_
   refine pui 11 41 19 32767 HT_ ?_
   refine join_ (σ := Nat) 1 #[true, true, true, true, true, true, true, true, true, true, true, true, true, true, true, true, true, true, false] (fun s_ => [(45, .int .u32 t162), (8, .pointer (some ⟨s_, 0, none⟩)), (46, .agg #[.int .i64 (wrap64 (rd t152 0)), .int .i64 (wrap64 (rd t152 1)), .int .i64 (wrap64 (rd t152 2)), .int .u32 t162])]) (fun s_ w' => (w'.cell? Ag = some (.int .u64 (rd t152 0)) ∧ cA w' Ag 1 (.int .u64 (rd t152 1)) ∧ cA w' Ag 2 (.int .u64 (rd t152 2))) ∧ (Kd.R (Kd.int .u64) 56 w' w.heap.size (fun _ => True) (.slice (some Ag) t152.length Ax) t152) ∧ (w'.heap[Ai]? = some (.cells #[.int .i64 0, .int .i64 0, .int .i64 0, .int .u32 0] 44 (0, 0))) ∧ (w'.heap[s_]? = some (.cells #[.int .i64 0, .int .i64 0, .int .i64 0, .int .u32 0] 44 (0, 0))) ∧ (w.heap.size ≤ s_) ∧ (w.heap.size ≤ s_) ∧ (Ai ≠ s_) ∧ (s_ ≠ Ai) ∧ (Below w.heap.size w w')) ?_ ?_
   rotate_left
   ·intro hCont
    refine two_ (i := 15) (j := 17) (Ni := some 45) (Nj := some 8) (bw 19 65535) #[true, true, true, true, true, true, true, true, true, true, true, true, true, true, true, false, false, true, false] rfl rfl rfl rfl (two_of HT_.out (by kernel_rfl)) (by decide) (by decide) (fun K hK => ?_) (fun K hK => ?_)
    ·skip
     refine goes_ Try.func53 (by kernel_rfl) rfl #[.slice A25 (l0.drop (t153 : Int).toNat).length (c0 - t153.toNat)] (by rfl) rfl rfl (by (try simp only [List.map_toArray, List.map_cons, List.map_nil]); first | done | (rw [show (l0.drop (t153 : Int).toNat).length = (l0.length - t153.toNat) from List.length_drop] <;> rfl) | rfl | (simp only [List.length_drop, List.length_take]; rfl)) ?_
     with_reducible refine (point_sumOf.calls _ _ (l0.drop (t153 : Int).toNat) t162 _ ?Ao ?Ap A20.out).mono ?_
     (case Ao => exact pC (Kd.C_below HR161.out HB.out))
     (case Ap => exact HC161.out)
     rintro e w' ⟨rfl, ⟨nd, rfl⟩⟩
     refine ⟨_, rfl, ?_⟩
     refine hK.out _ _ ⟨hHeld.1, hHeld.2.1, hHeld.2.2⟩ (fun hHeld => ?_)
     clear hK K
     refine norm_ (a' := ?_) ?_ ?_
     rotate_left
     ·show Act.put _ (some 45) _ = _
      simp only [Act.put, List.setIfInBounds_toArray, List.set_cons_zero, List.set_cons_succ, i64_w, i32_w]
      rfl
     refine pui 16 46 19 131071 HT_ ?_
     refine onei 17 8 19 262143 HT_ (fun K hK => ?_)
     refine box_step ?hg (N := 8) ?hd (cs := #[.int .i64 0, .int .i64 0, .int .i64 0, .int .u32 0]) (t := 44) ?hr ?_; (case hd => rfl); (case hg => rfl); (case hr => first | (go_simp; done) | (go_simp; rfl))
     intro Ad hg w26 hbox hb
     have HS0_ := (hb.cell (World.block_lt_of_cell? _ _ (hHeld.1))).trans (hHeld.1)
     have HS1_ := (hb.cell (World.block_lt_of_cell? _ _ (hHeld.2.1))).trans (hHeld.2.1)
     have HS2_ := (hb.cell (World.block_lt_of_cell? _ _ (hHeld.2.2))).trans (hHeld.2.2)
     replace Af := bRa Af hb
     have Aa := Am (hbox)
     have Ar := Am ((by rw [hg]; exact (below_size (pE HB.out Ah.out)) : w.heap.size ≤ Ad))
     have An := Am ((by rw [hg]; exact (below_size (pE HB.out Ah.out)) : w.heap.size ≤ Ad))
     replace HB := Am (below_step (pE HB.out Ah.out) hb)
     have Ac := Am ((by rw [hg]; exact Nat.ne_of_lt (kL Ab.out) : Ai ≠ Ad))
     have Ae := Am ((by rw [hg]; exact Nat.ne_of_gt (kL Ab.out) : Ad ≠ Ai))
     replace Ab := kBa Ab hb
     clear hb hbox hg
     refine hK.out _ _ ⟨HS0_, HS1_, HS2_⟩ (fun hHeld => ?_)
     clear hK K
     refine norm_ (a' := ?_) ?_ ?_
     rotate_left
     ·show Act.put _ (some 8) _ = _
      simp only [Act.put, List.setIfInBounds_toArray, List.set_cons_zero, List.set_cons_succ, i64_w, i32_w]
      rfl
     exact norm_ (by simp only [putAll, Act.put, List.setIfInBounds_toArray, List.set_cons_zero, List.set_cons_succ]) (hCont (Ad) _ ⟨hHeld, (pR Af.out), (pK Ab.out), (pK Aa.out), Ar.out, An.out, Ac.out, Ae.out, (pE2 HB.out Ah.out An.out)⟩)
    skip
    refine box_step ?hg (N := 8) ?hd (cs := #[.int .i64 0, .int .i64 0, .int .i64 0, .int .u32 0]) (t := 44) ?hr ?_; (case hd => rfl); (case hg => rfl); (case hr => first | (go_simp; done) | (go_simp; rfl))
    intro Ad hg w26 hbox hb
    have HS0_ := (hb.cell (World.block_lt_of_cell? _ _ (hHeld.1))).trans (hHeld.1)
    have HS1_ := (hb.cell (World.block_lt_of_cell? _ _ (hHeld.2.1))).trans (hHeld.2.1)
    have HS2_ := (hb.cell (World.block_lt_of_cell? _ _ (hHeld.2.2))).trans (hHeld.2.2)
    replace Af := bRa Af hb
    have Aa := Am (hbox)
    have Ar := Am ((by rw [hg]; exact (below_size (pE HB.out Ah.out)) : w.heap.size ≤ Ad))
    have An := Am ((by rw [hg]; exact (below_size (pE HB.out Ah.out)) : w.heap.size ≤ Ad))
    replace HB := Am (below_step (pE HB.out Ah.out) hb)
    have Ac := Am ((by rw [hg]; exact Nat.ne_of_lt (kL Ab.out) : Ai ≠ Ad))
    have Ae := Am ((by rw [hg]; exact Nat.ne_of_gt (kL Ab.out) : Ad ≠ Ai))
    replace Ab := kBa Ab hb
    clear hb hbox hg
    refine hK.out _ _ ⟨HS0_, HS1_, HS2_⟩ (fun hHeld => ?_)
    clear hK K
    refine norm_ (a' := ?_) ?_ ?_
    rotate_left
    ·show Act.put _ (some 8) _ = _
     simp only [Act.put, List.setIfInBounds_toArray, List.set_cons_zero, List.set_cons_succ, i64_w, i32_w]
     rfl
    refine onei 15 45 19 196607 HT_ (fun K hK => ?_)
    refine goes_ Try.func53 (by kernel_rfl) rfl #[.slice A25 (l0.drop (t153 : Int).toNat).length (c0 - t153.toNat)] (by rfl) rfl rfl (by (try simp only [List.map_toArray, List.map_cons, List.map_nil]); first | done | (rw [show (l0.drop (t153 : Int).toNat).length = (l0.length - t153.toNat) from List.length_drop] <;> rfl) | rfl | (simp only [List.length_drop, List.length_take]; rfl)) ?_
    with_reducible refine (point_sumOf.calls _ _ (l0.drop (t153 : Int).toNat) t162 _ ?Ao ?Ap A20.out).mono ?_
    (case Ao => exact pC (Kd.C_below HR161.out HB.out))
    (case Ap => exact HC161.out)
    rintro e w' ⟨rfl, ⟨nd, rfl⟩⟩
    refine ⟨_, rfl, ?_⟩
    refine hK.out _ _ ⟨hHeld.1, hHeld.2.1, hHeld.2.2⟩ (fun hHeld => ?_)
    clear hK K
    refine norm_ (a' := ?_) ?_ ?_
    rotate_left
    ·show Act.put _ (some 45) _ = _
     simp only [Act.put, List.setIfInBounds_toArray, List.set_cons_zero, List.set_cons_succ, i64_w, i32_w]
     rfl
    refine pui 16 46 19 262143 HT_ ?_
    exact norm_ (by simp only [putAll, Act.put, List.setIfInBounds_toArray, List.set_cons_zero, List.set_cons_succ]) (hCont (Ad) _ ⟨hHeld, (pR Af.out), (pK Ab.out), (pK Aa.out), Ar.out, An.out, Ac.out, Ae.out, (pE2 HB.out Ah.out An.out)⟩)
   rintro Ad w27 ⟨hS_, h0_, h1_, h2_, h3_, h4_, h5_, h6_, h7_⟩
   replace Af : Aside0 (Kd.R (Kd.int .u64) 56 w27 w.heap.size (fun _ => True) (.slice (some Ag) t152.length Ax) t152) := ⟨h0_⟩
   replace Ab : Aside0 (w27.heap[Ai]? = some (.cells #[.int .i64 0, .int .i64 0, .int .i64 0, .int .u32 0] 44 (0, 0))) := ⟨h1_⟩
   have Aa : Aside0 (w27.heap[Ad]? = some (.cells #[.int .i64 0, .int .i64 0, .int .i64 0, .int .u32 0] 44 (0, 0))) := ⟨h2_⟩
   have Ar : Aside0 (w.heap.size ≤ Ad) := ⟨h3_⟩
   have An : Aside0 (w.heap.size ≤ Ad) := ⟨h4_⟩
   have Ac : Aside0 (Ai ≠ Ad) := ⟨h5_⟩
   have Ae : Aside0 (Ad ≠ Ai) := ⟨h6_⟩
   replace HB : Aside0 (Below w.heap.size w w27) := ⟨h7_⟩
   clear h0_ h1_ h2_ h3_ h4_ h5_ h6_ h7_
   have hHeld : w27.cell? Ag = some (.int .u64 (rd t152 0)) ∧ w27.cell? ⟨Ag.block, Ag.off + 1, none⟩ = some (.int .u64 (rd t152 1)) ∧ w27.cell? ⟨Ag.block, Ag.off + 2, none⟩ = some (.int .u64 (rd t152 2)) := hS_
   refine norm_ (a' := ?_) ?_ ?_
   rotate_left
   ·simp only [putAll, Act.put, List.setIfInBounds_toArray, List.set_cons_zero, List.set_cons_succ]
    rfl
   refine one_ (i := 18) (N := none) (bw 19 524287) rfl rfl (one_of HT_.out (by kernel_rfl)) (by decide) (fun K hK => ?_)
   have hs28 : w27.cell? ⟨Ad, 0, none⟩ = some (.int .i64 0) := (blk_cell Aa.out 0).trans rfl
   have hfs28 := blk_frozen Aa.out 0
   have hns28_0 := Ac.out
   have hms28_0 := Ae.out
   have hs29 : w27.cell? ⟨Ad, 1, none⟩ = some (.int .i64 0) := (blk_cell Aa.out 1).trans rfl
   have hfs29 := blk_frozen Aa.out 1
   have hns29_0 := Ac.out
   have hms29_0 := Ae.out
   have hs30 : w27.cell? ⟨Ad, 2, none⟩ = some (.int .i64 0) := (blk_cell Aa.out 2).trans rfl
   have hfs30 := blk_frozen Aa.out 2
   have hns30_0 := Ac.out
   have hms30_0 := Ae.out
   have hs31 : w27.cell? ⟨Ad, 3, none⟩ = some (.int .u32 0) := (blk_cell Aa.out 3).trans rfl
   have hfs31 := blk_frozen Aa.out 3
   have hns31_0 := Ac.out
   have hms31_0 := Ae.out
   refine skip_ (w1 := ?_) (by rfl) rfl ?_ ?_
   rotate_left
   ·go_simp
    rfl
   refine hK.out _ _ ⟨(cX1 hHeld.1 (by first | exact Kd.own_blk (Kd.R_ne Af.out Aa.out (by decide)) | (rw [add_block]; exact Kd.own_blk (Kd.R_ne Af.out Aa.out (by decide))) | (show (Addr.add _ _).block ≠ _; rw [add_block]; exact Kd.own_blk (Kd.R_ne Af.out Aa.out (by decide))) | (dsimp only; exact Kd.own_blk (Kd.R_ne Af.out Aa.out (by decide))))), (cX1 hHeld.2.1 (by first | exact Kd.own_blk (Kd.R_ne Af.out Aa.out (by decide)) | (rw [add_block]; exact Kd.own_blk (Kd.R_ne Af.out Aa.out (by decide))) | (show (Addr.add _ _).block ≠ _; rw [add_block]; exact Kd.own_blk (Kd.R_ne Af.out Aa.out (by decide))) | (dsimp only; exact Kd.own_blk (Kd.R_ne Af.out Aa.out (by decide))))), (cX1 hHeld.2.2 (by first | exact Kd.own_blk (Kd.R_ne Af.out Aa.out (by decide)) | (rw [add_block]; exact Kd.own_blk (Kd.R_ne Af.out Aa.out (by decide))) | (show (Addr.add _ _).block ≠ _; rw [add_block]; exact Kd.own_blk (Kd.R_ne Af.out Aa.out (by decide))) | (dsimp only; exact Kd.own_blk (Kd.R_ne Af.out Aa.out (by decide)))))⟩ (fun hHeld => ?_)
   clear hK K
   refine done_ (done_of HT_.out (by kernel_rfl)) ?_
   have hnb32 := Ae.out
   have hnc32 := Ac.out
   obtain ⟨_, _, _, _⟩ := bc4 Aa.out
   obtain ⟨_, _, _, _⟩ := bf4 Aa.out
   try go_wp2_with (first | ((with_reducible refine gate_callee (f := 34) rfl ?_); refine goesL_ (some 48) rfl rfl Try.func34 (by kernel_rfl) rfl #[.agg #[.int .i64 (wrap64 (rd t152 0)), .int .i64 (wrap64 (rd t152 1)), .int .i64 (wrap64 (rd t152 2)), .int .u32 t162]] rfl pL ?_; (with_reducible refine (point_Check.calls (wrap64 (rd t152 0)) (wrap64 (rd t152 1)) (wrap64 (rd t152 2)) t162 t164 _ A21.out).mono ?_); rintro e w34 ⟨rfl, hb⟩; refine ⟨_, rfl, ?_⟩; replace Af := Am (Kd.R_below (by (with_reducible repeat (first | apply Kd.R_alloc | apply Kd.R_drewN | apply Kd.R_drew)); exact (Kd.R_mono (Rf4 (g := Ad) (Kd.R_types Af.out Aa.out (by decide)) (fun _ hk => hk.2)) (fun _ h_ => h_.1))) hb); replace Ab := Am (blk_below (g := Ai) (kX1 Ab.out Ac.out) hb); replace Aa := Am (blk_below (g := Ad) (kX0 Aa.out) hb); replace HB := Am (below_step (pE2 HB.out Ah.out An.out) hb); (try clear hb); (try clear hb2); (try clear hk); (try clear hi); obtain ⟨_, _, _, _⟩ := bc4 Aa.out; obtain ⟨_, _, _, _⟩ := bf4 Aa.out; obtain ⟨_, _, _, _⟩ := bc4 Ab.out; obtain ⟨_, _, _, _⟩ := bf4 Ab.out))
   refine bodyPost_ret (results_ctt rfl _ _ Ai 44 #[.int .i64 (wrap64 (rd t152 0)), .int .i64 (wrap64 (rd t152 1)), .int .i64 (wrap64 (rd t152 2)), .int .u32 t162] (0, 0) _ rfl (kX0 Ab.out) Try.underlying44 rfl (by kernel_rfl)) rfl ?_
   exact ⟨pX, pE2 HB.out Ah.out An.out⟩
def relay_hop.f (k : Nat) (l0 : List Int) : Option (Int × Int × Int × Int × Int × List Int × Bool) := (varint_Get.f k l0).bind fun bt166 => (if bt166.2.2 = 0 then (if bt166.1 > 2147483647 then (some (0, 0, 0, 0, 0, ([] : List Int), false)) else (if 0 ≤ bt166.2.1 then (if bt166.2.1 ≤ (l0.length : Int) then ((point_Get.f k (l0.drop (bt166.2.1 : Int).toNat)).bind fun bt174 => (if 0 ≤ (wrap64 (bt166.2.1 + bt174.2.2.2.2.1)) then (if (wrap64 (bt166.2.1 + bt174.2.2.2.2.1)) ≤ (l0.length : Int) then (some (wrap64 (bt166.1), bt174.1, bt174.2.1, bt174.2.2.1, bt174.2.2.2.1, (l0.drop ((wrap64 (bt166.2.1 + bt174.2.2.2.2.1)) : Int).toNat), (bt174.2.2.2.2.2 == 0))) else (none)) else (none))) else (none)) else (none))) else (some (0, 0, 0, 0, 0, ([] : List Int), false)))
theorem relay_hop.mono : ∀ a0 k, LeO (relay_hop.f k a0) (relay_hop.f (k + 1) a0) := by
 intro a0 k
 unfold relay_hop.f
 repeat' first
   | (with_reducible exact point_Get.mono _ _)
   | (with_reducible exact varint_Get.mono _ _)
   | (with_reducible exact LeO.refl _)
   | (with_reducible exact LeO.none _)
   | (with_reducible refine LeO.ite ?_ ?_)
   | (with_reducible refine LeO.bind ?_ (fun _ => ?_))
   | exact point_Get.mono _ _
   | exact varint_Get.mono _ _
   | exact LeO.none _
   | refine LeO.ite ?_ ?_
   | refine LeO.bind ?_ (fun _ => ?_)
def relay_hop.T5 : Bool × List (List Nat × List Nat) := (true, [([], []), ([0], [0]), ([], []), ([1, 2], [1, 2]), ([], []), ([], []), ([], []), ([5, 6], [5, 6]), ([4, 7], [4, 7]), ([], []), ([9], [9]), ([3, 0, 1, 2, 3], [3]), ([8, 11, 0, 1, 2, 3, 4, 5, 6, 7, 8, 11], [8]), ([10, 12, 0, 1, 2, 3, 4, 5, 6, 7, 8, 9, 10, 11, 12], [10])])
def relay_hop.B5 : List Nat := [0, 1, 0, 7, 0, 0, 0, 96, 240, 0, 512, 15, 2559, 8191]
theorem relay_hop.tab5 : rtab .any (opsOf Try.f18 5) = relay_hop.T5 := by kernel_rfl
theorem relay_hop.bits5 : waitsOk relay_hop.T5.2 relay_hop.B5 = true := by kernel_rfl
set_option maxHeartbeats 8000000 in
set_option maxRecDepth 100000 in
theorem relay_hop.calls (k : Nat) (P0_ : Nat → Prop) (A0 : Option Addr) (c0 : Nat) (l0 : List Int) (r1 : Int) (r2 : Int) (r3 : Int) (r4 : Int) (r5 : Int) (r6 : List Int) (r7 : Bool) (w : World) (hs0 : Kd.V (Kd.int .u8) 5 w w.heap.size (fun k_ => P0_ k_) (.slice A0 l0.length c0) l0) (h : relay_hop.f k l0 = some (r1, r2, r3, r4, r5, r6, r7)) :
  Calls Try.prog 18 #[.slice A0 l0.length c0] w fun e w' => ∃ v5_ : Value, e = .returned (.tuple #[.agg #[.int .i64 r1, .int .i64 r2, .int .i64 r3, .int .i64 r4, .int .u32 r5], v5_, .bool r7]) ∧ Kd.V (Kd.int .u8) 5 w' w.heap.size (fun k_ => (P0_ k_ ∨ w.heap.size ≤ k_)) v5_ r6 ∧ Below w.heap.size w w' := by
 have hu46 := Try.underlying46
 have hu44 := Try.underlying44
 have Ai := Am (show Kd.V (Kd.int .u8) 5 w w.heap.size (fun k_ => (P0_ k_ ∨ w.heap.size ≤ k_)) (.slice A0 l0.length c0) l0 from Kd.V_mono hs0 (fun k_ hk => .inl hk))
 have HB := Am (Below.refl w.heap.size w)
 have H : ((varint_Get.f k l0).bind fun bt166 => (if bt166.2.2 = 0 then (if bt166.1 > 2147483647 then (some (0, 0, 0, 0, 0, ([] : List Int), false)) else (if 0 ≤ bt166.2.1 then (if bt166.2.1 ≤ (l0.length : Int) then ((point_Get.f k (l0.drop (bt166.2.1 : Int).toNat)).bind fun bt174 => (if 0 ≤ (wrap64 (bt166.2.1 + bt174.2.2.2.2.1)) then (if (wrap64 (bt166.2.1 + bt174.2.2.2.2.1)) ≤ (l0.length : Int) then (some (wrap64 (bt166.1), bt174.1, bt174.2.1, bt174.2.2.1, bt174.2.2.2.1, (l0.drop ((wrap64 (bt166.2.1 + bt174.2.2.2.2.1)) : Int).toNat), (bt174.2.2.2.2.2 == 0))) else (none)) else (none))) else (none)) else (none))) else (some (0, 0, 0, 0, 0, ([] : List Int), false)))) = some (r1, r2, r3, r4, r5, r6, r7) := h
 clear h
 replace H := Option.bind_eq_some_iff.mp H
 obtain ⟨⟨t166, t167, t168⟩, A20, H⟩ := H
 replace H : (if t168 = 0 then (if t166 > 2147483647 then (some (0, 0, 0, 0, 0, ([] : List Int), false)) else (if 0 ≤ t167 then (if t167 ≤ (l0.length : Int) then ((point_Get.f k (l0.drop (t167 : Int).toNat)).bind fun bt174 => (if 0 ≤ (wrap64 (t167 + bt174.2.2.2.2.1)) then (if (wrap64 (t167 + bt174.2.2.2.2.1)) ≤ (l0.length : Int) then (some (wrap64 (t166), bt174.1, bt174.2.1, bt174.2.2.1, bt174.2.2.2.1, (l0.drop ((wrap64 (t167 + bt174.2.2.2.2.1)) : Int).toNat), (bt174.2.2.2.2.2 == 0))) else (none)) else (none))) else (none)) else (none))) else (some (0, 0, 0, 0, 0, ([] : List Int), false))) = some (r1, r2, r3, r4, r5, r6, r7) := H
 have A2 := Am A20
 clear A20
 by_cases c3 : t168 = 0
 rotate_left
 ·rw [if_neg c3] at H
  have c3b0 : (t168 == 0) = false := beq_eq_false_iff_ne.mpr c3
  have c3b1 : (t168 != 0) = true := bne_iff_ne.mpr c3
  simp only [Option.some.injEq, Prod.mk.injEq] at H
  obtain ⟨rfl, rfl, rfl, rfl, rfl, rfl, rfl⟩ := H
  go_enter Try.func18, Try.ntmps18
  go_wp2_with (first | ((with_reducible refine gate_dst (N := 2) rfl ?_); refine box_event ?hg (N := 2) ?hd (cs := #[.int .i64 0, .int .i64 0, .int .i64 0, .int .i64 0, .int .u32 0]) (t := 46) ?hr ?_; (case hd => rfl); (case hg => rfl); (case hr => first | (go_simp; done) | (go_simp; rfl)); intro Ac hg w27 hbox hb; replace Ai := Am (Kd.V_below (Kd.V_elderB (pV Ai.out) Ac (Nat.le_of_eq hg.symm)) hb); have Ab := Am (hbox); have Ao := Am ((by rw [hg]; exact (below_size (pB HB.out)) : w.heap.size ≤ Ac)); replace HB := Am (below_step (pB HB.out) hb); have Af := Ao; clear hb hbox hg) | ((with_reducible refine gate_callee (f := 36) rfl ?_); refine goesL_ (some 12) rfl rfl Try.func36 (by kernel_rfl) rfl #[.slice A0 l0.length c0] rfl pL ?_; (with_reducible refine (varint_Get.calls k _ _ l0 t166 t167 t168 _ ?Al ?An A2.out).mono ?_); (case Al => exact pC (Kd.V_reads' Ai.out).2.2); (case An => exact (Kd.V_reads' Ai.out).2.1); rintro e w' ⟨rfl, ⟨nd, rfl⟩⟩; refine ⟨_, rfl, ?_⟩; (try (rw [drewN_self w27]; generalize hq_ : World.drewN w27 _ = w27; replace Ai : Aside0 (Kd.V (Kd.int .u8) 5 w27 w.heap.size (fun k_ => (P0_ k_ ∨ w.heap.size ≤ k_) ∧ k_ ≠ Ac) (.slice A0 l0.length c0) l0) := ⟨by rw [← hq_]; exact (pV Ai.out)⟩; replace Ab : Aside0 (w27.heap[Ac]? = some (.cells #[.int .i64 0, .int .i64 0, .int .i64 0, .int .i64 0, .int .u32 0] 46 (0, 0))) := ⟨by rw [← hq_]; exact (pK Ab.out)⟩; replace HB : Aside0 (Below w.heap.size w w27) := ⟨by rw [← hq_]; exact (pE HB.out Af.out)⟩; clear hq_)); obtain ⟨_, _, _, _, _⟩ := bc5 Ab.out; obtain ⟨_, _, _, _, _⟩ := bf5 Ab.out))
  refine bodyPost_ret (results_ctt rfl _ _ Ac 46 #[.int .i64 0, .int .i64 0, .int .i64 0, .int .i64 0, .int .u32 0] (0, 0) _ rfl (kX0 Ab.out) Try.underlying46 rfl (by kernel_rfl)) rfl ?_
  exact ⟨_, pX, Kd.R_V (Kd.R_nil _ _ _ 0 _), pE HB.out Af.out⟩
 rw [if_pos c3] at H
 have c3b0 : (t168 == 0) = true := beq_iff_eq.mpr c3
 have c3b1 : (t168 != 0) = false := bne_eq_false_iff_eq.mpr c3
 clear c3
 by_cases c4 : t166 > 2147483647
 ·rw [if_pos c4] at H
  have c4b0 : decide (2147483647 < t166) = true := decide_eq_true c4
  clear c4
  simp only [Option.some.injEq, Prod.mk.injEq] at H
  obtain ⟨rfl, rfl, rfl, rfl, rfl, rfl, rfl⟩ := H
  go_enter Try.func18, Try.ntmps18
  go_wp2_with (first | ((with_reducible refine gate_dst (N := 2) rfl ?_); refine box_event ?hg (N := 2) ?hd (cs := #[.int .i64 0, .int .i64 0, .int .i64 0, .int .i64 0, .int .u32 0]) (t := 46) ?hr ?_; (case hd => rfl); (case hg => rfl); (case hr => first | (go_simp; done) | (go_simp; rfl)); intro Ac hg w5 hbox hb; replace Ai := Am (Kd.V_below (Kd.V_elderB (pV Ai.out) Ac (Nat.le_of_eq hg.symm)) hb); have Ab := Am (hbox); have Ao := Am ((by rw [hg]; exact (below_size (pB HB.out)) : w.heap.size ≤ Ac)); replace HB := Am (below_step (pB HB.out) hb); have Af := Ao; clear hb hbox hg) | ((with_reducible refine gate_callee (f := 36) rfl ?_); refine goesL_ (some 12) rfl rfl Try.func36 (by kernel_rfl) rfl #[.slice A0 l0.length c0] rfl pL ?_; (with_reducible refine (varint_Get.calls k _ _ l0 t166 t167 t168 _ ?Al ?An A2.out).mono ?_); (case Al => exact pC (Kd.V_reads' Ai.out).2.2); (case An => exact (Kd.V_reads' Ai.out).2.1); rintro e w' ⟨rfl, ⟨nd, rfl⟩⟩; refine ⟨_, rfl, ?_⟩; (try (rw [drewN_self w5]; generalize hq_ : World.drewN w5 _ = w5; replace Ai : Aside0 (Kd.V (Kd.int .u8) 5 w5 w.heap.size (fun k_ => (P0_ k_ ∨ w.heap.size ≤ k_) ∧ k_ ≠ Ac) (.slice A0 l0.length c0) l0) := ⟨by rw [← hq_]; exact (pV Ai.out)⟩; replace Ab : Aside0 (w5.heap[Ac]? = some (.cells #[.int .i64 0, .int .i64 0, .int .i64 0, .int .i64 0, .int .u32 0] 46 (0, 0))) := ⟨by rw [← hq_]; exact (pK Ab.out)⟩; replace HB : Aside0 (Below w.heap.size w w5) := ⟨by rw [← hq_]; exact (pE HB.out Af.out)⟩; clear hq_)); obtain ⟨_, _, _, _, _⟩ := bc5 Ab.out; obtain ⟨_, _, _, _, _⟩ := bf5 Ab.out))
  refine bodyPost_ret (results_ctt rfl _ _ Ac 46 #[.int .i64 0, .int .i64 0, .int .i64 0, .int .i64 0, .int .u32 0] (0, 0) _ rfl (kX0 Ab.out) Try.underlying46 rfl (by kernel_rfl)) rfl ?_
  exact ⟨_, pX, Kd.R_V (Kd.R_nil _ _ _ 0 _), pE HB.out Af.out⟩
 rw [if_neg c4] at H
 have c4b0 : decide (2147483647 < t166) = false := decide_eq_false c4
 clear c4
 by_cases c7 : 0 ≤ t167
 rotate_left
 ·rw [if_neg c7] at H
  exact absurd H (by simp)
 rw [if_pos c7] at H
 have c7b0 := eq_true c7
 have c7b1 : decide (0 ≤ t167) = true := decide_eq_true c7
 clear c7
 by_cases c8 : t167 ≤ (l0.length : Int)
 rotate_left
 ·rw [if_neg c8] at H
  exact absurd H (by simp)
 rw [if_pos c8] at H
 have c8b0 := eq_true c8
 have c8b1 : decide (t167 ≤ (l0.length : Int)) = true := decide_eq_true c8
 clear c8
 obtain ⟨y169, hy169⟩ : ∃ y_ : List Int, y_ = (l0.drop (t167 : Int).toNat) := ⟨_, rfl⟩
 replace H : ((point_Get.f k y169).bind fun bt174 => (if 0 ≤ (wrap64 (t167 + bt174.2.2.2.2.1)) then (if (wrap64 (t167 + bt174.2.2.2.2.1)) ≤ (l0.length : Int) then (some (wrap64 (t166), bt174.1, bt174.2.1, bt174.2.2.1, bt174.2.2.2.1, (l0.drop ((wrap64 (t167 + bt174.2.2.2.2.1)) : Int).toNat), (bt174.2.2.2.2.2 == 0))) else (none)) else (none))) = some (r1, r2, r3, r4, r5, r6, r7) := by first | (rw [hy169]; with_reducible exact H) | (have H2_ := (Option.bind_some _ _).symm.trans H; rw [hy169]; with_reducible exact H2_) | (have H2_ := (Option.bind_some _ _).symm.trans H; with_reducible exact H2_) | with_reducible exact H | (rw [hy169]; exact H) | exact H
 have Ny169 := Am hy169
 clear hy169
 replace H := Option.bind_eq_some_iff.mp H
 obtain ⟨⟨t174, t175, t176, t177, t178, t179⟩, A90, H⟩ := H
 replace H : (if 0 ≤ (wrap64 (t167 + t178)) then (if (wrap64 (t167 + t178)) ≤ (l0.length : Int) then (some (wrap64 (t166), t174, t175, t176, t177, (l0.drop ((wrap64 (t167 + t178)) : Int).toNat), (t179 == 0))) else (none)) else (none)) = some (r1, r2, r3, r4, r5, r6, r7) := H
 have A9 := Am A90
 clear A90
 obtain ⟨ji10, hji10⟩ : ∃ j_ : Int, (wrap64 (t167 + t178)) = j_ := ⟨_, rfl⟩
 replace H : (if 0 ≤ (ji10) then (if (ji10) ≤ (l0.length : Int) then (some (wrap64 (t166), t174, t175, t176, t177, (l0.drop ((ji10) : Int).toNat), (t179 == 0))) else (none)) else (none)) = some (r1, r2, r3, r4, r5, r6, r7) := by first | (rw [hji10] at H; exact H) | (simp only [hji10] at H ⊢; exact H)
 (try rw [hji10] at A2)
 (try rw [hji10] at A9)
 have hji10w : (IntKind.i64.wrap (t167 + t178)) = ji10 := (i64_w _).trans hji10
 by_cases c11 : 0 ≤ (ji10)
 rotate_left
 ·rw [if_neg c11] at H
  exact absurd H (by simp)
 rw [if_pos c11] at H
 have c11b0 := eq_true c11
 have c11b1 : decide (0 ≤ (ji10)) = true := decide_eq_true c11
 clear c11
 by_cases c12 : (ji10) ≤ (l0.length : Int)
 rotate_left
 ·rw [if_neg c12] at H
  exact absurd H (by simp)
 rw [if_pos c12] at H
 have c12b0 := eq_true c12
 have c12b1 : decide ((ji10) ≤ (l0.length : Int)) = true := decide_eq_true c12
 clear c12
 obtain ⟨y181, hy181⟩ : ∃ y_ : List Int, y_ = (l0.drop ((ji10) : Int).toNat) := ⟨_, rfl⟩
 replace H : (some (wrap64 (t166), t174, t175, t176, t177, y181, (t179 == 0))) = some (r1, r2, r3, r4, r5, r6, r7) := by first | (rw [hy181]; with_reducible exact H) | (have H2_ := (Option.bind_some _ _).symm.trans H; rw [hy181]; with_reducible exact H2_) | (have H2_ := (Option.bind_some _ _).symm.trans H; with_reducible exact H2_) | with_reducible exact H | (rw [hy181]; exact H) | exact H
 have Ny181 := Am hy181
 clear hy181
 simp only [Option.some.injEq, Prod.mk.injEq] at H
 obtain ⟨rfl, rfl, rfl, rfl, rfl, rfl, rfl⟩ := H
 go_enter Try.func18, Try.ntmps18
 try go_wp2_with (first | ((with_reducible refine gate_dst (N := 2) rfl ?_); refine box_event ?hg (N := 2) ?hd (cs := #[.int .i64 0, .int .i64 0, .int .i64 0, .int .i64 0, .int .u32 0]) (t := 46) ?hr ?_; (case hd => rfl); (case hg => rfl); (case hr => first | (go_simp; done) | (go_simp; rfl)); intro Ac hg w13 hbox hb; replace Ai := Am (Kd.V_below (Kd.V_elderB (pV Ai.out) Ac (Nat.le_of_eq hg.symm)) hb); have Ab := Am (hbox); have Ao := Am ((by rw [hg]; exact (below_size (pB HB.out)) : w.heap.size ≤ Ac)); replace HB := Am (below_step (pB HB.out) hb); have Af := Ao; clear hb hbox hg) | ((with_reducible refine gate_callee (f := 36) rfl ?_); refine goesL_ (some 12) rfl rfl Try.func36 (by kernel_rfl) rfl #[.slice A0 l0.length c0] rfl pL ?_; (with_reducible refine (varint_Get.calls k _ _ l0 t166 t167 t168 _ ?Al ?An A2.out).mono ?_); (case Al => exact pC (Kd.V_reads' Ai.out).2.2); (case An => exact (Kd.V_reads' Ai.out).2.1); rintro e w' ⟨rfl, ⟨nd, rfl⟩⟩; refine ⟨_, rfl, ?_⟩; (try (rw [drewN_self w13]; generalize hq_ : World.drewN w13 _ = w13; replace Ai : Aside0 (Kd.V (Kd.int .u8) 5 w13 w.heap.size (fun k_ => (P0_ k_ ∨ w.heap.size ≤ k_) ∧ k_ ≠ Ac) (.slice A0 l0.length c0) l0) := ⟨by rw [← hq_]; exact (pV Ai.out)⟩; replace Ab : Aside0 (w13.heap[Ac]? = some (.cells #[.int .i64 0, .int .i64 0, .int .i64 0, .int .i64 0, .int .u32 0] 46 (0, 0))) := ⟨by rw [← hq_]; exact (pK Ab.out)⟩; replace HB : Aside0 (Below w.heap.size w w13) := ⟨by rw [← hq_]; exact (pE HB.out Af.out)⟩; clear hq_)); have q14 : (t167 : Int) ≤ ((l0.length : Int) : Int) := of_decide_eq_true pS; obtain ⟨i014, hi014, _, Ar, _⟩ := info_parts info5; have Aj : l0.length ≤ c0 := (Kd.V_reads' Ai.out).2.1; have Ax : Kd.F (Kd.int .u8) _ _ A0 l0.length l0 := (Kd.V_at (base := w.heap.size) Ai.out).2.2; have q014 : (0 : Int) ≤ (t167 : Int) := of_decide_eq_true pS; have Av := cut_from (P := Try.prog) 22 5 .i64 Try.underlying22 hi014 1 Ar A0 l0.length c0 t167 q014 q14; have Ap := Kd.F_cut (m := (t167 : Int).toNat) (c := c0) Ax (by omega) Aj; obtain ⟨A14, hA14⟩ : ∃ AX_, AX_ = (if c0 = (t167 : Int).toNat then A0 else (A0 : Option Addr).map (·.add ((t167 : Int).toNat * 1))) := ⟨_, rfl⟩; obtain ⟨c14, hc14⟩ : ∃ cX_, cX_ = c0 - (t167 : Int).toNat := ⟨_, rfl⟩; have hy14 : y169.length = l0.length - (t167 : Int).toNat := (by rw [Ny169.out, List.length_drop] <;> omega); rw [show (l0).drop (t167 : Int).toNat = y169 from Ny169.out.symm] at Ap; replace Ap : Kd.F (Kd.int .u8) _ _ A14 y169.length y169 := (by rw [hA14]; exact Ap); rw [← hy14, ← hA14, ← hc14] at Av; have Ag := Am (show Kd.V (Kd.int .u8) 5 _ w.heap.size _ (.slice A14 y169.length c14) y169 from Kd.V_mk (by rw [hy14, hc14]; exact Nat.sub_le_sub_right Aj _) Ap); have HC173 := Am (show y169.length ≤ c14 from by rw [hy14, hc14]; exact Nat.sub_le_sub_right Aj _); clear Ap Ax Aj hi014 Ar hc14; have KY14 := Am hy14; have KA14 := Am hA14; clear hy14 hA14; replace q14 := eq_true q14) | ((with_reducible refine gate_callee (f := 41) rfl ?_); refine goesL_ (some 27) rfl rfl Try.func41 (by kernel_rfl) rfl #[.slice A14 y169.length c14] rfl pL ?_; (with_reducible refine (point_Get.calls k _ _ y169 t174 t175 t176 t177 t178 t179 _ ?Al ?An A9.out).mono ?_); (case Al => exact pC (Kd.V_reads' Ag.out).2.2); (case An => exact (Kd.V_reads' Ag.out).2.1); rintro e w15 ⟨rfl, hb⟩; refine ⟨_, rfl, ?_⟩; replace Ai := bVa Ai hb; replace Ag := bVa Ag hb; replace Ab := kBa Ab hb; replace HB := Am (below_step (pE HB.out Af.out) hb); (try clear hb); (try clear hb2); (try clear hk); (try clear hi)) | ((with_reducible refine gate_dst (N := 8) rfl ?_); refine box_event ?hg (N := 8) ?hd (cs := #[.int .i64 0, .int .i64 0, .int .i64 0, .int .u32 0]) (t := 44) ?hr ?_; (case hd => rfl); (case hg => rfl); (case hr => first | (go_simp; done) | (go_simp; rfl)); intro Aa hg w16 hbox hb; replace Ai := Am (Kd.V_below (Kd.V_elderB (pV Ai.out) Aa (Nat.le_of_eq hg.symm)) hb); replace Ag := Am (Kd.V_below (Kd.V_elderB (pV Ag.out) Aa (Nat.le_of_eq hg.symm)) hb); have Ah := Am (hbox); have Az := Am ((by rw [hg]; exact (below_size (pE HB.out Af.out)) : w.heap.size ≤ Aa)); replace HB := Am (below_step (pE HB.out Af.out) hb); have As := Az; have Ae := Am ((by rw [hg]; exact Nat.ne_of_lt (kL Ab.out) : Ac ≠ Aa)); have Ad := Am ((by rw [hg]; exact Nat.ne_of_gt (kL Ab.out) : Aa ≠ Ac)); replace Ab := kBa Ab hb; clear hb hbox hg; have hnb17 := Ad.out; have hnc17 := Ae.out; obtain ⟨_, _, _, _⟩ := bc4 Ah.out; obtain ⟨_, _, _, _⟩ := bf4 Ah.out))
 have n0_ : Aside0 (Kd.V (Kd.int .u8) 5 ((((w16.setCell ⟨Aa, 0, none⟩ (.int .i64 t174)).setCell ⟨Aa, 1, none⟩ (.int .i64 t175)).setCell ⟨Aa, 2, none⟩ (.int .i64 t176)).setCell ⟨Aa, 3, none⟩ (.int .u32 t177)) w.heap.size (fun k_ => (P0_ k_ ∨ w.heap.size ≤ k_) ∧ k_ ≠ Ac ∧ k_ ≠ Aa) (.slice A0 l0.length c0) l0) := ⟨by (with_reducible repeat (first | apply Kd.V_alloc | apply Kd.V_drewN | apply Kd.V_drew)); exact Kd.V_mono (Vf4 (g := Aa) (Kd.V_mono Ai.out (fun k_ hk => (⟨hk, hk.2⟩ : _ ∧ k_ ≠ Aa))) (fun _ hk => hk.2)) (fun _ hk => ⟨hk.1.1.1, ⟨hk.1.1.2, hk.1.2⟩⟩)⟩
 have n1_ : Aside0 (Kd.V (Kd.int .u8) 5 ((((w16.setCell ⟨Aa, 0, none⟩ (.int .i64 t174)).setCell ⟨Aa, 1, none⟩ (.int .i64 t175)).setCell ⟨Aa, 2, none⟩ (.int .i64 t176)).setCell ⟨Aa, 3, none⟩ (.int .u32 t177)) w.heap.size (fun k_ => (P0_ k_ ∨ w.heap.size ≤ k_) ∧ k_ ≠ Ac ∧ k_ ≠ Aa) (.slice A14 y169.length c14) y169) := ⟨by (with_reducible repeat (first | apply Kd.V_alloc | apply Kd.V_drewN | apply Kd.V_drew)); exact Kd.V_mono (Vf4 (g := Aa) (Kd.V_mono Ag.out (fun k_ hk => (⟨hk, hk.2⟩ : _ ∧ k_ ≠ Aa))) (fun _ hk => hk.2)) (fun _ hk => ⟨hk.1.1.1, ⟨hk.1.1.2, hk.1.2⟩⟩)⟩
 have n2_ : Aside0 (((((w16.setCell ⟨Aa, 0, none⟩ (.int .i64 t174)).setCell ⟨Aa, 1, none⟩ (.int .i64 t175)).setCell ⟨Aa, 2, none⟩ (.int .i64 t176)).setCell ⟨Aa, 3, none⟩ (.int .u32 t177)).heap[Ac]? = some (.cells #[.int .i64 0, .int .i64 0, .int .i64 0, .int .i64 0, .int .u32 0] 46 (0, 0))) := ⟨kX1 Ab.out Ae.out⟩
 have n3_ : Aside0 (((((w16.setCell ⟨Aa, 0, none⟩ (.int .i64 t174)).setCell ⟨Aa, 1, none⟩ (.int .i64 t175)).setCell ⟨Aa, 2, none⟩ (.int .i64 t176)).setCell ⟨Aa, 3, none⟩ (.int .u32 t177)).heap[Aa]? = some (.cells #[.int .i64 t174, .int .i64 t175, .int .i64 t176, .int .u32 t177] 44 (0, 0))) := ⟨kX0 Ah.out⟩
 have n4_ : Aside0 (Below w.heap.size w ((((w16.setCell ⟨Aa, 0, none⟩ (.int .i64 t174)).setCell ⟨Aa, 1, none⟩ (.int .i64 t175)).setCell ⟨Aa, 2, none⟩ (.int .i64 t176)).setCell ⟨Aa, 3, none⟩ (.int .u32 t177))) := ⟨pE2 HB.out Af.out As.out⟩
 (try clear Ai)
 (try clear Ag)
 (try clear Ab)
 (try clear Ah)
 (try clear HB)
 generalize ((((w16.setCell ⟨Aa, 0, none⟩ (.int .i64 t174)).setCell ⟨Aa, 1, none⟩ (.int .i64 t175)).setCell ⟨Aa, 2, none⟩ (.int .i64 t176)).setCell ⟨Aa, 3, none⟩ (.int .u32 t177)) = w19 at n0_ n1_ n2_ n3_ n4_ ⊢
 have Ai := n0_
 have Ag := n1_
 have Ab := n2_
 have Ah := n3_
 have HB := n4_
 clear n0_ n1_ n2_ n3_ n4_
 replace Ai := dVa Ai
 replace Ag := dVa Ag
 replace Ab := kDa Ab
 replace Ah := kDa Ah
 replace HB := bDa HB
 have q21 : ((ji10) : Int) ≤ ((l0.length : Int) : Int) := of_decide_eq_true pS
 obtain ⟨i021, hi021, _, At, _⟩ := info_parts info5
 have Ak : l0.length ≤ c0 := (Kd.V_reads' Ai.out).2.1
 have Ay : Kd.F (Kd.int .u8) _ _ A0 l0.length l0 := (Kd.V_at (base := w.heap.size) Ai.out).2.2
 have q021 : (0 : Int) ≤ ((ji10) : Int) := of_decide_eq_true pS
 have Aw := cut_from (P := Try.prog) 22 5 .i64 Try.underlying22 hi021 1 At A0 l0.length c0 (ji10) q021 q21
 have Aq := Kd.F_cut (m := ((ji10) : Int).toNat) (c := c0) Ay (by omega) Ak
 obtain ⟨A21, hA21⟩ : ∃ AX_, AX_ = (if c0 = ((ji10) : Int).toNat then A0 else (A0 : Option Addr).map (·.add (((ji10) : Int).toNat * 1))) := ⟨_, rfl⟩
 obtain ⟨c21, hc21⟩ : ∃ cX_, cX_ = c0 - ((ji10) : Int).toNat := ⟨_, rfl⟩
 have hy21 : y181.length = l0.length - ((ji10) : Int).toNat := (by rw [Ny181.out, List.length_drop] <;> omega)
 rw [show (l0).drop ((ji10) : Int).toNat = y181 from Ny181.out.symm] at Aq
 replace Aq : Kd.F (Kd.int .u8) _ _ A21 y181.length y181 := (by rw [hA21]; exact Aq)
 rw [← hy21, ← hA21, ← hc21] at Aw
 have Au := Am (show Kd.V (Kd.int .u8) 5 _ w.heap.size _ (.slice A21 y181.length c21) y181 from Kd.V_mk (by rw [hy21, hc21]; exact Nat.sub_le_sub_right Ak _) Aq)
 have HC185 := Am (show y181.length ≤ c21 from by rw [hy21, hc21]; exact Nat.sub_le_sub_right Ak _)
 clear Aq Ay Ak hi021 At hc21
 have KY21 := Am hy21
 have KA21 := Am hA21
 clear hy21 hA21
 replace q21 := eq_true q21
 refine start_ (n := 14) (S := fun w' => cG w' Aa 0 (.int .i64 t174) ∧ cG w' Aa 1 (.int .i64 t175) ∧ cG w' Aa 2 (.int .i64 t176) ∧ cG w' Aa 3 (.int .u32 t177)) (ds := []) #[false, false, false, false, false, false, false, false, false, false, false, false, false, false] (by kernel_rfl) rfl rfl ⟨(blk_cell Ah.out 0).trans rfl, (blk_cell Ah.out 1).trans rfl, (blk_cell Ah.out 2).trans rfl, (blk_cell Ah.out 3).trans rfl⟩ (fun hHeld => ?_); refine with_tabW relay_hop.tab5 relay_hop.bits5 (fun HT_ HW_ => ?_)
 generalize w19.drew = w20 at Ai Ag Ab Ah HB Au hHeld ⊢
 refine pui 0 31 14 1 HT_ ?_
 refine pui 1 32 14 3 HT_ ?_
 refine pui 4 35 14 19 HT_ ?_
 refine pui 5 36 14 51 HT_ ?_
 refine pui 6 37 14 115 HT_ ?_
 refine pui 7 38 14 243 HT_ ?_
 refine pui 8 39 14 499 HT_ ?_
 refine pui 9 40 14 1011 HT_ ?_
 refine pui 10 41 14 2035 HT_ ?_
 refine tki 2 33 14 2039 HT_ HW_ hHeld ?_
 refine pui 3 34 14 2047 HT_ ?_
 refine one_ (i := 11) (N := none) (bw 14 4095) rfl rfl (one_of HT_.out (by kernel_rfl)) (by decide) (fun K hK => ?_)
 have hs22 : w20.cell? ⟨Ac, 0, none⟩ = some (.int .i64 0) := (blk_cell Ab.out 0).trans rfl
 have hfs22 := blk_frozen Ab.out 0
 have hns22_1 := Ad.out
 have hms22_1 := Ae.out
 have hs23 : w20.cell? ⟨Ac, 1, none⟩ = some (.int .i64 0) := (blk_cell Ab.out 1).trans rfl
 have hfs23 := blk_frozen Ab.out 1
 have hns23_1 := Ad.out
 have hms23_1 := Ae.out
 have hs24 : w20.cell? ⟨Ac, 2, none⟩ = some (.int .i64 0) := (blk_cell Ab.out 2).trans rfl
 have hfs24 := blk_frozen Ab.out 2
 have hns24_1 := Ad.out
 have hms24_1 := Ae.out
 have hs25 : w20.cell? ⟨Ac, 3, none⟩ = some (.int .i64 0) := (blk_cell Ab.out 3).trans rfl
 have hfs25 := blk_frozen Ab.out 3
 have hns25_1 := Ad.out
 have hms25_1 := Ae.out
 have hs26 : w20.cell? ⟨Ac, 4, none⟩ = some (.int .u32 0) := (blk_cell Ab.out 4).trans rfl
 have hfs26 := blk_frozen Ab.out 4
 have hns26_1 := Ad.out
 have hms26_1 := Ae.out
 refine skip_ (w1 := ?_) (by rfl) rfl ?_ ?_
 rotate_left
 ·go_simp
  rfl
 refine hK.out _ _ ⟨(cX1 hHeld.1 Ad.out), (cX1 hHeld.2.1 Ad.out), (cX1 hHeld.2.2.1 Ad.out), (cX1 hHeld.2.2.2 Ad.out)⟩ (fun hHeld => ?_)
 clear hK K
 refine pui 12 3 14 8191 HT_ ?_
 refine pui 13 4 14 16383 HT_ ?_
 refine done_ (done_of HT_.out (by kernel_rfl)) ?_
 try go_wp2
 refine bodyPost_ret (results_ctt rfl _ _ Ac 46 #[.int .i64 (wrap64 (t166)), .int .i64 t174, .int .i64 t175, .int .i64 t176, .int .u32 t177] (0, 0) _ rfl (kX0 Ab.out) Try.underlying46 rfl (by kernel_rfl)) rfl ?_
 exact ⟨_, by first | rfl | (simp [errW_none, errW_some] <;> rfl) | (simp only [← hji10]; first | rfl | (simp [errW_none, errW_some] <;> rfl)) | (simp [*, errW_none, errW_some] <;> rfl), by (with_reducible repeat (first | apply Kd.V_alloc | apply Kd.V_drewN | apply Kd.V_drew)); exact Kd.V_mono (Vf5 (g := Ac) (Kd.V_mono Au.out (fun k_ hk => (⟨hk, hk.2.1⟩ : _ ∧ k_ ≠ Ac))) (fun _ hk => hk.2)) (fun _ hk => hk.1.1), pE2 HB.out Af.out As.out⟩
end Go.Proofs.Ytjebpaahpehfnaa.PRelayPuts
