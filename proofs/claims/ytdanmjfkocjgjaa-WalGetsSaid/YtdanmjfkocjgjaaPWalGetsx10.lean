/- What the law reaches, as plain Lean functions, and that the machine's calls answer just that. -/
import Derived.Test.YtdanmjfkocjgjaaPWalGetsx0
import Derived.Test.YtdanmjfkocjgjaaPWalGetsx4
import Derived.Test.YtdanmjfkocjgjaaPWalGetsx9
namespace Go.Proofs.Ytdanmjfkocjgjaa.PWalGets
open Go.RowKit Go.Proofs.YtdanmjfkocjgjaaW.PrintWords Go.Proofs.YtdanmjfkocjgjaaW.PrintLast Go.Proofs.YtdanmjfkocjgjaaW.PrintMore
attribute [local go_sem] max2_int min2_int max_two min_two max_three min_three max_four min_four
set_option linter.unusedVariables false
set_option linter.unusedSimpArgs false
attribute [local go_sem] wrap64_l1 wrap64_l2 wrap64_l3 wrap64_l4 wrap64_l5
def point_Get.j0 : Nat → List Int → List Int → Int → Bool → Option (Int × Int × Int × Int × Int × Int)
 | 0, _, _, _, _ => none
 | k + 1, x0, x5, x6, x28 => if x28 = true then (some (0, 0, 0, 0, 0, 2)) else (if 0 < (x5.length : Int) then (if 1 < (x5.length : Int) then (if 2 < (x5.length : Int) then (if 0 ≤ x6 then (if x6 ≤ (x0.length : Int) then ((point_sumOf.f (x0.drop (x6 : Int).toNat)).bind fun t325 => ((point_Check.f (wrap64 (rd x5 0)) (wrap64 (rd x5 1)) (wrap64 (rd x5 2)) t325).bind fun t327 => (if t327 = 0 then (some (wrap64 (rd x5 0), wrap64 (rd x5 1), wrap64 (rd x5 2), t325, wrap64 (x6 + 4), 0)) else (some (0, 0, 0, 0, 0, 2))))) else (none)) else (none)) else (none)) else (none)) else (none))
def point_Get.f (k : Nat) (l0 : List Int) : Option (Int × Int × Int × Int × Int × Int) := (varint_All.f k l0 3).bind fun bt315 => (if bt315.2.2 = 0 then ((slices_Max_uint64_uint64.f k bt315.1).bind fun t320 => (if t320 > 2147483647 then (point_Get.j0 k l0 bt315.1 bt315.2.1 true) else (point_Get.j0 k l0 bt315.1 bt315.2.1 (decide ((wrap64 ((l0.length : Int) - bt315.2.1)) < 4))))) else (point_Get.j0 k l0 bt315.1 bt315.2.1 true))
theorem point_Get.mono_l : ∀ k, (∀ y0 y1 y2 y3, LeO (point_Get.j0 k y0 y1 y2 y3) (point_Get.j0 (k + 1) y0 y1 y2 y3))
 | 0 => fun _ _ _ _ r h => by simp [point_Get.j0] at h
 | k + 1 => by
  have ih0 := point_Get.mono_l k
  ·intro y0 y1 y2 y3
   unfold point_Get.j0
   repeat' (with_reducible first | exact ih0 .. | exact slices_Max_uint64_uint64.mono .. | exact varint_All.mono .. | exact LeO.refl .. | exact LeO.none .. | refine LeO.ite ?_ ?_ | refine LeO.bind ?_ (fun _ => ?_))
theorem point_Get.mono : ∀ a0 k, LeO (point_Get.f k a0) (point_Get.f (k + 1) a0) := by
 intro a0 k
 have ih0 := point_Get.mono_l k
 unfold point_Get.f
 repeat' (with_reducible first | exact ih0 .. | exact slices_Max_uint64_uint64.mono .. | exact varint_All.mono .. | exact LeO.refl .. | exact LeO.none .. | refine LeO.ite ?_ ?_ | refine LeO.bind ?_ (fun _ => ?_))
def point_Get.T4 : Bool × List (List Nat × List Nat) := (true, [([], []), ([0], [0]), ([1], [1]), ([2], [2]), ([], []), ([4], [4]), ([5], [5]), ([6], [6]), ([], []), ([8], [8]), ([9], [9]), ([10], [10]), ([], []), ([], []), ([12, 13], [12, 13]), ([14], [14]), ([3, 7, 11, 15], [3, 7, 11, 15]), ([], []), ([17, 16, 15, 0, 1, 2, 3, 4, 5, 6, 7, 8, 9, 10, 11, 12, 13, 14, 15, 16, 17], [16, 17])])
def point_Get.B4 : List Nat := [0, 1, 3, 7, 0, 16, 48, 112, 0, 256, 768, 1792, 0, 0, 12288, 28672, 65535, 0, 262143]
theorem point_Get.tab4 : rtab .any (opsOf Try.f84 4) = point_Get.T4 := by kernel_rfl
theorem point_Get.bits4 : waitsOk point_Get.T4.2 point_Get.B4 = true := by kernel_rfl
set_option maxHeartbeats 8000000 in
set_option maxRecDepth 100000 in
theorem point_Get.calls (k : Nat) (A0 : Option Addr) (c0 : Nat) (l0 : List Int) (r1 : Int) (r2 : Int) (r3 : Int) (r4 : Int) (r5 : Int) (r6 : Int) (w : World) (hr0 : Kd.C (Kd.int .u8) w A0 l0.length l0) (hc0 : l0.length ≤ c0) (h : point_Get.f k l0 = some (r1, r2, r3, r4, r5, r6)) :
 Calls Try.prog 84 #[.slice A0 l0.length c0] w fun e w' => e = .returned (.tuple #[.agg #[.int .i64 r1, .int .i64 r2, .int .i64 r3, .int .u32 r4], .int .i64 r5, .int .i64 r6]) ∧ Below w.heap.size w w' := by
 have hu48 := Try.underlying48
 have HR0 := Am hr0
 have HC0 := Am hc0
 clear hr0 hc0
 have HB := Am (Below.refl w.heap.size w)
 unfold point_Get.f at h
 have H := h
 clear h
 replace H := Option.bind_eq_some_iff.mp H
 obtain ⟨⟨t315, t316, t317⟩, A20, H⟩ := H
 dsimp only at H
 have A2 := Am A20
 clear A20
 have HC3 := Am H
 clear H
 go_enter Try.func84, Try.ntmps84
 go_upto_region 2 with (first | ((with_reducible refine gate_dst (N := 2) rfl ?_); (try (refine gate_guard (by rfl) ?_; dsimp only)); refine zE 2 #[.int .i64 0, .int .i64 0, .int .i64 0, .int .u32 0] 48 ?_; intro Ai hg w4 hbox hb; have Ab := Am (hbox); have A5 := Am (zG hg (below_size (pB HB.out))); replace HB := Am (below_step (pB HB.out) hb); have Ah := A5; clear hb hbox hg) | ((with_reducible refine gate_callee (f := 43) rfl ?_); refine goesL_ (some 11) rfl rfl Try.func43 (by kernel_rfl) rfl #[.slice A0 l0.length c0, .int .i64 3] rfl pL ?_; (with_reducible refine (varint_All.calls k _ _ l0 3 t315 t316 t317 _ ?Ao ?Ap A2.out).mono ?_); (case Ao => exact pC (Kd.C_below HR0.out HB.out)); (case Ap => exact HC0.out); rintro e w5 ⟨v318, rfl, ho0, hb⟩; refine ⟨_, rfl, ?_⟩; have Aq := Am (Kd.R_lower ho0 (below_size (pE HB.out Ah.out))); replace Ab := kBa Ab hb; replace HB := Am (below_step (pE HB.out Ah.out) hb); (try clear hb); (try clear hb2); (try clear hk); (try clear hi); (try clear ho0)))
 (try simp only [Act.put, List.setIfInBounds_toArray, List.set_cons_zero, List.set_cons_succ])
 go_cut [28] (fun v28 wc => ∃ (kq : Nat) (As : Bool), v28 = .bool As ∧ Aside0 (point_Get.j0 kq l0 t315 t316 As = some (r1, r2, r3, r4, r5, r6)) ∧ Aside0 (kq ≤ k) ∧ Aside0 (Kd.R (Kd.int .u64) 61 wc w.heap.size (fun _ => True) v318 t315) ∧ Aside0 (wc.heap[Ai]? = some (.cells #[.int .i64 0, .int .i64 0, .int .i64 0, .int .u32 0] 48 (0, 0))) ∧ Aside0 (Below w.heap.size w wc))
 case first =>
  have H := HC3.out
  clear HC3
  by_cases c6 : t317 = 0
  rotate_left
  ·rw [if_neg c6] at H
   have c6b0 := beq_eq_false_iff_ne.mpr c6
   have c6b1 := bne_iff_ne.mpr c6
   (first | rw [c6b0] | (simp only [i64_w, i32_w]; rw [c6b0]) | skip)
   have H' := Am H
   clear H
   go_wp2
   go_meet
   case rel => exact ⟨_, (true), zr, H', ⟨zo⟩, ⟨by (with_reducible repeat (first | apply Kd.R_alloc | apply Kd.R_drewN | apply Kd.R_drew)); exact Aq.out⟩, ⟨pK Ab.out⟩, ⟨pE HB.out Ah.out⟩⟩
  rw [if_pos c6] at H
  have c6b0 := beq_iff_eq.mpr c6
  have c6b1 := bne_eq_false_iff_eq.mpr c6
  clear c6
  (first | rw [c6b0] | (simp only [i64_w, i32_w]; rw [c6b0]) | skip)
  replace H := Option.bind_eq_some_iff.mp H
  obtain ⟨t320, A70, H⟩ := H
  have A7 := Am A70
  clear A70
  by_cases c8 : t320 > 2147483647
  ·rw [if_pos c8] at H
   have c8b0 : decide (2147483647 < t320) = true := decide_eq_true c8
   clear c8
   have H' := Am H
   clear H
   obtain ⟨Ao9, co9, A8⟩ := Kd.R_slice Aq.out
   subst A8
   go_wp2_with (first | (go_at_call 87; (with_reducible refine (slices_Max_uint64_uint64.calls k _ _ t315 t320 _ ?Ao ?Ap A7.out).mono ?_); (case Ao => exact pC (Kd.R_reads' Aq.out).2.2); (case Ap => exact (Kd.R_reads' Aq.out).2.1); rintro e w10 ⟨rfl, hb⟩; replace Aq := bRa Aq hb; replace Ab := kBa Ab hb; replace HB := Am (below_step (pE HB.out Ah.out) hb); (try clear hb); (try clear hb2); (try clear hk); (try clear hi)))
   go_meet
   case rel => exact ⟨_, (true), zr, H', ⟨zo⟩, ⟨by (with_reducible repeat (first | apply Kd.R_alloc | apply Kd.R_drewN | apply Kd.R_drew)); exact Aq.out⟩, ⟨pK Ab.out⟩, ⟨pE HB.out Ah.out⟩⟩
  rw [if_neg c8] at H
  have c8b0 : decide (2147483647 < t320) = false := decide_eq_false c8
  clear c8
  have H' := Am H
  clear H
  obtain ⟨Ao11, co11, A6⟩ := Kd.R_slice Aq.out
  subst A6
  go_wp2_with (first | (go_at_call 87; (with_reducible refine (slices_Max_uint64_uint64.calls k _ _ t315 t320 _ ?Ao ?Ap A7.out).mono ?_); (case Ao => exact pC (Kd.R_reads' Aq.out).2.2); (case Ap => exact (Kd.R_reads' Aq.out).2.1); rintro e w12 ⟨rfl, hb⟩; replace Aq := bRa Aq hb; replace Ab := kBa Ab hb; replace HB := Am (below_step (pE HB.out Ah.out) hb); (try clear hb); (try clear hb2); (try clear hk); (try clear hi)))
  go_meet
  case rel => exact ⟨_, (decide ((wrap64 ((l0.length : Int) - t316)) < 4)), zr, H', ⟨zo⟩, ⟨by (with_reducible repeat (first | apply Kd.R_alloc | apply Kd.R_drewN | apply Kd.R_drew)); exact Aq.out⟩, ⟨pK Ab.out⟩, ⟨pE HB.out Ah.out⟩⟩
 case rest =>
  clear HC3
  try clear p2
  try clear c4
  try clear c6
  try clear c6b0
  try clear c6b1
  try clear p6
  try clear c8
  try clear c8b0
  obtain ⟨kq, As, rfl, HA, HJ2, Af, Ab, HB⟩ := hcut
  cases kq with
  | zero => exact absurd HA.out (by simp [point_Get.j0])
  | succ kj2 =>
   have H := HA.out
   clear HA
   simp only [point_Get.j0] at H
   by_cases c13 : As = true
   ·subst c13
    rw [if_pos rfl] at H
    simp only [Option.some.injEq, Prod.mk.injEq] at H
    obtain ⟨rfl, rfl, rfl, rfl, rfl, rfl⟩ := H
    obtain ⟨_, _, _, _⟩ := bc4 Ab.out
    obtain ⟨_, _, _, _⟩ := bf4 Ab.out
    go_wp2
    refine bodyPost_ret (results_ctt rfl _ _ Ai 48 #[.int .i64 0, .int .i64 0, .int .i64 0, .int .u32 0] (0, 0) _ rfl (kX0 Ab.out) Try.underlying48 rfl (by kernel_rfl)) rfl ?_
    exact ⟨pX, pE HB.out Ah.out⟩
   replace c13 := Bool.eq_false_iff.mpr c13
   subst c13
   rw [if_neg zF] at H
   obtain ⟨c15, H⟩ := zI H
   have c15b0 := decide_eq_true c15
   have c15b1 : decide (0 < t315.length) = true := decide_eq_true (by omega)
   clear c15
   obtain ⟨c16, H⟩ := zI H
   have c16b0 := decide_eq_true c16
   have c16b1 : decide (1 < t315.length) = true := decide_eq_true (by omega)
   clear c16
   obtain ⟨c17, H⟩ := zI H
   have c17b0 := decide_eq_true c17
   have c17b1 : decide (2 < t315.length) = true := decide_eq_true (by omega)
   clear c17
   obtain ⟨c18, H⟩ := zI H
   have c18b0 := eq_true c18
   have c18b1 := decide_eq_true c18
   clear c18
   obtain ⟨c19, H⟩ := zI H
   have c19b0 := eq_true c19
   have c19b1 := decide_eq_true c19
   clear c19
   replace H := Option.bind_eq_some_iff.mp H
   obtain ⟨t325, A200, H⟩ := H
   have A20 := Am A200
   clear A200
   replace H := Option.bind_eq_some_iff.mp H
   obtain ⟨t327, A210, H⟩ := H
   have A21 := Am A210
   clear A210
   by_cases c22 : t327 = 0
   rotate_left
   ·rw [if_neg c22] at H
    have c22b0 := beq_eq_false_iff_ne.mpr c22
    have c22b1 := bne_iff_ne.mpr c22
    simp only [Option.some.injEq, Prod.mk.injEq] at H
    obtain ⟨rfl, rfl, rfl, rfl, rfl, rfl⟩ := H
    try go_wp2
    replace Af := dRa Af
    replace Ab := kDa Ab
    replace HB := bDa HB
    obtain ⟨Ao38, A1, A3⟩ := Kd.R_slice Af.out
    (first | subst A3 | (injection A3 with f1_ f2_ f3_; have f4_ := f1_.symm; have f5_ := f3_.symm; clear f1_ f2_ f3_; subst f4_; subst f5_))
    have p321 : 0 ≤ (0 : Int) := (by omega)
    have q321 : 0 < (t315.length : Int) := of_decide_eq_true pS
    obtain ⟨Ag, e321, Aj⟩ := Kd.at_int (Kd.R_reads' Af.out).2.2 0 p321 q321
    cases e321
    have qi321 : (0 < t315.length) = True := eq_true (by omega)
    (try rw [tz] at Aj)
    (try rw [Addr.add_zero'] at Aj)
    replace p321 := eq_true p321
    replace q321 := eq_true q321
    have p322 : 0 ≤ (1 : Int) := (by omega)
    have q322 : 1 < (t315.length : Int) := of_decide_eq_true pS
    obtain ⟨At, e322, Ak⟩ := Kd.at_int (Kd.R_reads' Af.out).2.2 1 p322 q322
    obtain rfl : Ag = At := (by injection e322)
    (try simp only [show (1 : Int).toNat = 1 from rfl, Nat.reduceMul, Nat.reduceEqDiff, Go.Addr.add, ↓reduceIte] at Ak)
    have qi322 : (1 < t315.length) = True := eq_true (by omega)
    (try rw [show ((1 : Int)).toNat = 1 from rfl] at Ak)
    replace p322 := eq_true p322
    replace q322 := eq_true q322
    have p323 : 0 ≤ (2 : Int) := (by omega)
    have q323 : 2 < (t315.length : Int) := of_decide_eq_true pS
    obtain ⟨Au, e323, Al⟩ := Kd.at_int (Kd.R_reads' Af.out).2.2 2 p323 q323
    obtain rfl : Ag = Au := (by injection e323)
    (try simp only [show (2 : Int).toNat = 2 from rfl, Nat.reduceMul, Nat.reduceEqDiff, Go.Addr.add, ↓reduceIte] at Al)
    have qi323 : (2 < t315.length) = True := eq_true (by omega)
    (try rw [show ((2 : Int)).toNat = 2 from rfl] at Al)
    replace p323 := eq_true p323
    replace q323 := eq_true q323
    obtain ⟨i039, hi039, _, Aw, _⟩ := info_parts info5
    obtain ⟨A39, hcut39, hA39, A4⟩ := print_drop_of (P := Try.prog) (Value.int .u8) 0 22 5 .i64 Try.underlying22 hi039 Aw A0 c0 l0 t316 (of_decide_eq_true pS) (of_decide_eq_true pS) HC0.out
    have HR324 := Am (Kd.C_of_reads (h1 := fun _ => rfl) (hA39 _ (Kd.reads_of_C HR0.out)))
    have HC324 := Am A4
    clear hA39 A4 hi039 Aw
    refine start_ (n := 19) (S := fun w' => w'.cell? Ag = some (.int .u64 (rd t315 0)) ∧ cA w' Ag 1 (.int .u64 (rd t315 1)) ∧ cA w' Ag 2 (.int .u64 (rd t315 2))) (ds := []) #[false, false, false, false, false, false, false, false, false, false, false, false, false, false, false, false, false, false, false] (by kernel_rfl) rfl rfl ⟨Aj, Ak, Al⟩ (fun hHeld => ?_); refine with_tabW point_Get.tab4 point_Get.bits4 (fun HT_ HW_ => ?_)
    (first | generalize wc.drew = w37 at Af Ab HB HR324 Aj Ak Al hHeld ⊢ | generalize wc.drew = w37 at Ab HB HR324 Aj Ak Al hHeld ⊢)
    refine pui 0 30 19 1 HT_ ?_
    refine pui 1 31 19 3 HT_ ?_
    refine pui 4 34 19 19 HT_ ?_
    refine pui 5 35 19 51 HT_ ?_
    refine pui 8 38 19 307 HT_ ?_
    refine pui 9 39 19 819 HT_ ?_
    refine pui 12 42 19 4915 HT_ ?_
    refine pui 13 43 19 13107 HT_ ?_
    refine pui 14 44 19 29491 HT_ ?_
    refine tki 2 32 19 29495 HT_ HW_ hHeld ?_
    refine pui 3 33 19 29503 HT_ ?_
    refine tki 6 36 19 29567 HT_ HW_ hHeld ?_
    refine pui 7 37 19 29695 HT_ ?_
    refine tki 10 40 19 30719 HT_ HW_ hHeld ?_
    refine pui 11 41 19 32767 HT_ ?_
    refine join_ (σ := Nat) 1 #[true, true, true, true, true, true, true, true, true, true, true, true, true, true, true, true, true, true, false] (fun s_ => [(45, .int .u32 t325), (8, .pointer (some ⟨s_, 0, none⟩)), (46, .agg #[.int .i64 (wrap64 (rd t315 0)), .int .i64 (wrap64 (rd t315 1)), .int .i64 (wrap64 (rd t315 2)), .int .u32 t325])]) (fun s_ w' => (w'.cell? Ag = some (.int .u64 (rd t315 0)) ∧ cA w' Ag 1 (.int .u64 (rd t315 1)) ∧ cA w' Ag 2 (.int .u64 (rd t315 2))) ∧ (Kd.R (Kd.int .u64) 61 w' w.heap.size (fun _ => True) (.slice (some Ag) t315.length A1) t315) ∧ (w'.heap[Ai]? = some (.cells #[.int .i64 0, .int .i64 0, .int .i64 0, .int .u32 0] 48 (0, 0))) ∧ (w'.heap[s_]? = some (.cells #[.int .i64 0, .int .i64 0, .int .i64 0, .int .u32 0] 48 (0, 0))) ∧ (w.heap.size ≤ s_) ∧ (w.heap.size ≤ s_) ∧ (Ai ≠ s_) ∧ (s_ ≠ Ai) ∧ (Below w.heap.size w w')) ?_ ?_
    rotate_left
    ·intro hCont
     refine two_ (i := 15) (j := 17) (Ni := some 45) (Nj := some 8) (bw 19 65535) #[true, true, true, true, true, true, true, true, true, true, true, true, true, true, true, false, false, true, false] rfl rfl rfl rfl (two_of HT_.out (by kernel_rfl)) (by decide) (by decide) (fun K hK => ?_) (fun K hK => ?_)
     ·skip
      refine goes_ Try.func88 (by kernel_rfl) rfl #[.slice A39 (l0.drop (t316 : Int).toNat).length (c0 - t316.toNat)] (by rfl) rfl rfl (by (try simp only [List.map_toArray, List.map_cons, List.map_nil]); first | done | (rw [show (l0.drop (t316 : Int).toNat).length = (l0.length - t316.toNat) from List.length_drop] <;> rfl) | rfl | (simp only [List.length_drop, List.length_take]; rfl)) ?_
      with_reducible refine (point_sumOf.calls _ _ (l0.drop (t316 : Int).toNat) t325 _ ?Ao ?Ap A20.out).mono ?_
      (case Ao => exact pC (Kd.C_below HR324.out HB.out))
      (case Ap => exact HC324.out)
      rintro e w' ⟨rfl, ⟨nd, rfl⟩⟩
      refine ⟨_, rfl, ?_⟩
      refine hK.out _ _ ⟨hHeld.1, hHeld.2.1, hHeld.2.2⟩ (fun hHeld => ?_)
      clear hK K
      refine norm_ (a' := ?_) ?_ ?_
      rotate_left
      ·show Act.put _ (some 45) _ = _
       simp only [Act.put, List.setIfInBounds_toArray, List.set_cons_zero, List.set_cons_succ, i64_w, i32_w]
       rfl
      refine pui 16 46 19 131071 HT_ ?_
      refine onei 17 8 19 262143 HT_ (fun K hK => ?_)
      refine box_step ?hg (N := 8) ?hd (cs := #[.int .i64 0, .int .i64 0, .int .i64 0, .int .u32 0]) (t := 48) ?hr ?_; (case hd => rfl); (case hg => rfl); (case hr => first | (go_simp; done) | (go_simp; rfl))
      intro Ad hg w40 hbox hb
      have HS0_ := (hb.cell (World.block_lt_of_cell? _ _ (hHeld.1))).trans (hHeld.1)
      have HS1_ := (hb.cell (World.block_lt_of_cell? _ _ (hHeld.2.1))).trans (hHeld.2.1)
      have HS2_ := (hb.cell (World.block_lt_of_cell? _ _ (hHeld.2.2))).trans (hHeld.2.2)
      replace Af := bRa Af hb
      have Aa := Am (hbox)
      have Ar := Am (zG hg (below_size (pE HB.out Ah.out)))
      have An := Am (zG hg (below_size (pE HB.out Ah.out)))
      replace HB := Am (below_step (pE HB.out Ah.out) hb)
      have Ac := Am (zN hg (kL Ab.out))
      have Ae := Am (zM hg (kL Ab.out))
      replace Ab := kBa Ab hb
      clear hb hbox hg
      refine hK.out _ _ ⟨HS0_, HS1_, HS2_⟩ (fun hHeld => ?_)
      clear hK K
      refine norm_ (a' := ?_) ?_ ?_
      rotate_left
      ·show Act.put _ (some 8) _ = _
       simp only [Act.put, List.setIfInBounds_toArray, List.set_cons_zero, List.set_cons_succ, i64_w, i32_w]
       rfl
      exact norm_ (by simp only [putAll, Act.put, List.setIfInBounds_toArray, List.set_cons_zero, List.set_cons_succ]) (hCont (Ad) _ ⟨hHeld, (pR Af.out), (pK Ab.out), (pK Aa.out), Ar.out, An.out, Ac.out, Ae.out, (pE2 HB.out Ah.out An.out)⟩)
     skip
     refine box_step ?hg (N := 8) ?hd (cs := #[.int .i64 0, .int .i64 0, .int .i64 0, .int .u32 0]) (t := 48) ?hr ?_; (case hd => rfl); (case hg => rfl); (case hr => first | (go_simp; done) | (go_simp; rfl))
     intro Ad hg w40 hbox hb
     have HS0_ := (hb.cell (World.block_lt_of_cell? _ _ (hHeld.1))).trans (hHeld.1)
     have HS1_ := (hb.cell (World.block_lt_of_cell? _ _ (hHeld.2.1))).trans (hHeld.2.1)
     have HS2_ := (hb.cell (World.block_lt_of_cell? _ _ (hHeld.2.2))).trans (hHeld.2.2)
     replace Af := bRa Af hb
     have Aa := Am (hbox)
     have Ar := Am (zG hg (below_size (pE HB.out Ah.out)))
     have An := Am (zG hg (below_size (pE HB.out Ah.out)))
     replace HB := Am (below_step (pE HB.out Ah.out) hb)
     have Ac := Am (zN hg (kL Ab.out))
     have Ae := Am (zM hg (kL Ab.out))
     replace Ab := kBa Ab hb
     clear hb hbox hg
     refine hK.out _ _ ⟨HS0_, HS1_, HS2_⟩ (fun hHeld => ?_)
     clear hK K
     refine norm_ (a' := ?_) ?_ ?_
     rotate_left
     ·show Act.put _ (some 8) _ = _
      simp only [Act.put, List.setIfInBounds_toArray, List.set_cons_zero, List.set_cons_succ, i64_w, i32_w]
      rfl
     refine onei 15 45 19 196607 HT_ (fun K hK => ?_)
     refine goes_ Try.func88 (by kernel_rfl) rfl #[.slice A39 (l0.drop (t316 : Int).toNat).length (c0 - t316.toNat)] (by rfl) rfl rfl (by (try simp only [List.map_toArray, List.map_cons, List.map_nil]); first | done | (rw [show (l0.drop (t316 : Int).toNat).length = (l0.length - t316.toNat) from List.length_drop] <;> rfl) | rfl | (simp only [List.length_drop, List.length_take]; rfl)) ?_
     with_reducible refine (point_sumOf.calls _ _ (l0.drop (t316 : Int).toNat) t325 _ ?Ao ?Ap A20.out).mono ?_
     (case Ao => exact pC (Kd.C_below HR324.out HB.out))
     (case Ap => exact HC324.out)
     rintro e w' ⟨rfl, ⟨nd, rfl⟩⟩
     refine ⟨_, rfl, ?_⟩
     refine hK.out _ _ ⟨hHeld.1, hHeld.2.1, hHeld.2.2⟩ (fun hHeld => ?_)
     clear hK K
     refine norm_ (a' := ?_) ?_ ?_
     rotate_left
     ·show Act.put _ (some 45) _ = _
      simp only [Act.put, List.setIfInBounds_toArray, List.set_cons_zero, List.set_cons_succ, i64_w, i32_w]
      rfl
     refine pui 16 46 19 262143 HT_ ?_
     exact norm_ (by simp only [putAll, Act.put, List.setIfInBounds_toArray, List.set_cons_zero, List.set_cons_succ]) (hCont (Ad) _ ⟨hHeld, (pR Af.out), (pK Ab.out), (pK Aa.out), Ar.out, An.out, Ac.out, Ae.out, (pE2 HB.out Ah.out An.out)⟩)
    rintro Ad w41 ⟨hS_, h0_, h1_, h2_, h3_, h4_, h5_, h6_, h7_⟩
    replace Af : Aside0 (Kd.R (Kd.int .u64) 61 w41 w.heap.size (fun _ => True) (.slice (some Ag) t315.length A1) t315) := ⟨h0_⟩
    replace Ab : Aside0 (w41.heap[Ai]? = some (.cells #[.int .i64 0, .int .i64 0, .int .i64 0, .int .u32 0] 48 (0, 0))) := ⟨h1_⟩
    have Aa : Aside0 (w41.heap[Ad]? = some (.cells #[.int .i64 0, .int .i64 0, .int .i64 0, .int .u32 0] 48 (0, 0))) := ⟨h2_⟩
    have Ar : Aside0 (w.heap.size ≤ Ad) := ⟨h3_⟩
    have An : Aside0 (w.heap.size ≤ Ad) := ⟨h4_⟩
    have Ac : Aside0 (Ai ≠ Ad) := ⟨h5_⟩
    have Ae : Aside0 (Ad ≠ Ai) := ⟨h6_⟩
    replace HB : Aside0 (Below w.heap.size w w41) := ⟨h7_⟩
    clear h0_ h1_ h2_ h3_ h4_ h5_ h6_ h7_
    have hHeld : w41.cell? Ag = some (.int .u64 (rd t315 0)) ∧ w41.cell? ⟨Ag.block, Ag.off + 1, none⟩ = some (.int .u64 (rd t315 1)) ∧ w41.cell? ⟨Ag.block, Ag.off + 2, none⟩ = some (.int .u64 (rd t315 2)) := hS_
    refine norm_ (a' := ?_) ?_ ?_
    rotate_left
    ·simp only [putAll, Act.put, List.setIfInBounds_toArray, List.set_cons_zero, List.set_cons_succ]
     rfl
    refine one_ (i := 18) (N := none) (bw 19 524287) rfl rfl (one_of HT_.out (by kernel_rfl)) (by decide) (fun K hK => ?_)
    have hs42 : w41.cell? ⟨Ad, 0, none⟩ = some (.int .i64 0) := (blk_cell Aa.out 0).trans rfl
    have hfs42 := blk_frozen Aa.out 0
    have hns42_0 := Ac.out
    have hms42_0 := Ae.out
    have hs43 : w41.cell? ⟨Ad, 1, none⟩ = some (.int .i64 0) := (blk_cell Aa.out 1).trans rfl
    have hfs43 := blk_frozen Aa.out 1
    have hns43_0 := Ac.out
    have hms43_0 := Ae.out
    have hs44 : w41.cell? ⟨Ad, 2, none⟩ = some (.int .i64 0) := (blk_cell Aa.out 2).trans rfl
    have hfs44 := blk_frozen Aa.out 2
    have hns44_0 := Ac.out
    have hms44_0 := Ae.out
    have hs45 : w41.cell? ⟨Ad, 3, none⟩ = some (.int .u32 0) := (blk_cell Aa.out 3).trans rfl
    have hfs45 := blk_frozen Aa.out 3
    have hns45_0 := Ac.out
    have hms45_0 := Ae.out
    refine skip_ (w1 := ?_) (by rfl) rfl ?_ ?_
    rotate_left
    ·go_simp
     rfl
    refine hK.out _ _ ⟨(cX1 hHeld.1 (by first | exact Kd.own_blk (Kd.R_ne Af.out Aa.out (by decide)) | (rw [add_block]; exact Kd.own_blk (Kd.R_ne Af.out Aa.out (by decide))) | (show (Addr.add _ _).block ≠ _; rw [add_block]; exact Kd.own_blk (Kd.R_ne Af.out Aa.out (by decide))) | (dsimp only; exact Kd.own_blk (Kd.R_ne Af.out Aa.out (by decide))))), (cX1 hHeld.2.1 (by first | exact Kd.own_blk (Kd.R_ne Af.out Aa.out (by decide)) | (rw [add_block]; exact Kd.own_blk (Kd.R_ne Af.out Aa.out (by decide))) | (show (Addr.add _ _).block ≠ _; rw [add_block]; exact Kd.own_blk (Kd.R_ne Af.out Aa.out (by decide))) | (dsimp only; exact Kd.own_blk (Kd.R_ne Af.out Aa.out (by decide))))), (cX1 hHeld.2.2 (by first | exact Kd.own_blk (Kd.R_ne Af.out Aa.out (by decide)) | (rw [add_block]; exact Kd.own_blk (Kd.R_ne Af.out Aa.out (by decide))) | (show (Addr.add _ _).block ≠ _; rw [add_block]; exact Kd.own_blk (Kd.R_ne Af.out Aa.out (by decide))) | (dsimp only; exact Kd.own_blk (Kd.R_ne Af.out Aa.out (by decide)))))⟩ (fun hHeld => ?_)
    clear hK K
    refine done_ (done_of HT_.out (by kernel_rfl)) ?_
    have hnb46 := Ae.out
    have hnc46 := Ac.out
    obtain ⟨_, _, _, _⟩ := bc4 Aa.out
    obtain ⟨_, _, _, _⟩ := bf4 Aa.out
    try go_wp2_with (first | ((with_reducible refine gate_callee (f := 80) rfl ?_); refine goesL_ (some 48) rfl rfl Try.func80 (by kernel_rfl) rfl #[.agg #[.int .i64 (wrap64 (rd t315 0)), .int .i64 (wrap64 (rd t315 1)), .int .i64 (wrap64 (rd t315 2)), .int .u32 t325]] rfl pL ?_; (with_reducible refine (point_Check.calls (wrap64 (rd t315 0)) (wrap64 (rd t315 1)) (wrap64 (rd t315 2)) t325 t327 _ A21.out).mono ?_); rintro e w48 ⟨rfl, hb⟩; refine ⟨_, rfl, ?_⟩; replace Af := Am (Kd.R_below (by (with_reducible repeat (first | apply Kd.R_alloc | apply Kd.R_drewN | apply Kd.R_drew)); exact (Kd.R_mono (Rf4 (g := Ad) (Kd.R_types Af.out Aa.out (by decide)) (fun _ hk => hk.2)) (fun _ h_ => h_.1))) hb); replace Ab := Am (blk_below (g := Ai) (kX1 Ab.out Ac.out) hb); replace Aa := Am (blk_below (g := Ad) (kX0 Aa.out) hb); replace HB := Am (below_step (pE2 HB.out Ah.out An.out) hb); (try clear hb); (try clear hb2); (try clear hk); (try clear hi); obtain ⟨_, _, _, _⟩ := bc4 Ab.out; obtain ⟨_, _, _, _⟩ := bf4 Ab.out))
    refine bodyPost_ret (results_ctt rfl _ _ Ai 48 #[.int .i64 0, .int .i64 0, .int .i64 0, .int .u32 0] (0, 0) _ rfl (kX0 Ab.out) Try.underlying48 rfl (by kernel_rfl)) rfl ?_
    exact ⟨pX, pE2 HB.out Ah.out An.out⟩
   rw [if_pos c22] at H
   have c22b0 := beq_iff_eq.mpr c22
   have c22b1 := bne_eq_false_iff_eq.mpr c22
   clear c22
   simp only [Option.some.injEq, Prod.mk.injEq] at H
   obtain ⟨rfl, rfl, rfl, rfl, rfl, rfl⟩ := H
   try go_wp2
   replace Af := dRa Af
   replace Ab := kDa Ab
   replace HB := bDa HB
   obtain ⟨Ao24, Ax, Ay⟩ := Kd.R_slice Af.out
   (first | subst Ay | (injection Ay with f1_ f2_ f3_; have f4_ := f1_.symm; have f5_ := f3_.symm; clear f1_ f2_ f3_; subst f4_; subst f5_))
   have p321 : 0 ≤ (0 : Int) := (by omega)
   have q321 : 0 < (t315.length : Int) := of_decide_eq_true pS
   obtain ⟨Ag, e321, Aj⟩ := Kd.at_int (Kd.R_reads' Af.out).2.2 0 p321 q321
   cases e321
   have qi321 : (0 < t315.length) = True := eq_true (by omega)
   (try rw [tz] at Aj)
   (try rw [Addr.add_zero'] at Aj)
   replace p321 := eq_true p321
   replace q321 := eq_true q321
   have p322 : 0 ≤ (1 : Int) := (by omega)
   have q322 : 1 < (t315.length : Int) := of_decide_eq_true pS
   obtain ⟨At, e322, Ak⟩ := Kd.at_int (Kd.R_reads' Af.out).2.2 1 p322 q322
   obtain rfl : Ag = At := (by injection e322)
   (try simp only [show (1 : Int).toNat = 1 from rfl, Nat.reduceMul, Nat.reduceEqDiff, Go.Addr.add, ↓reduceIte] at Ak)
   have qi322 : (1 < t315.length) = True := eq_true (by omega)
   (try rw [show ((1 : Int)).toNat = 1 from rfl] at Ak)
   replace p322 := eq_true p322
   replace q322 := eq_true q322
   have p323 : 0 ≤ (2 : Int) := (by omega)
   have q323 : 2 < (t315.length : Int) := of_decide_eq_true pS
   obtain ⟨Au, e323, Al⟩ := Kd.at_int (Kd.R_reads' Af.out).2.2 2 p323 q323
   obtain rfl : Ag = Au := (by injection e323)
   (try simp only [show (2 : Int).toNat = 2 from rfl, Nat.reduceMul, Nat.reduceEqDiff, Go.Addr.add, ↓reduceIte] at Al)
   have qi323 : (2 < t315.length) = True := eq_true (by omega)
   (try rw [show ((2 : Int)).toNat = 2 from rfl] at Al)
   replace p323 := eq_true p323
   replace q323 := eq_true q323
   obtain ⟨i025, hi025, _, Av, _⟩ := info_parts info5
   obtain ⟨A25, hcut25, hA25, Az⟩ := print_drop_of (P := Try.prog) (Value.int .u8) 0 22 5 .i64 Try.underlying22 hi025 Av A0 c0 l0 t316 (of_decide_eq_true pS) (of_decide_eq_true pS) HC0.out
   have HR324 := Am (Kd.C_of_reads (h1 := fun _ => rfl) (hA25 _ (Kd.reads_of_C HR0.out)))
   have HC324 := Am Az
   clear hA25 Az hi025 Av
   refine start_ (n := 19) (S := fun w' => w'.cell? Ag = some (.int .u64 (rd t315 0)) ∧ cA w' Ag 1 (.int .u64 (rd t315 1)) ∧ cA w' Ag 2 (.int .u64 (rd t315 2))) (ds := []) #[false, false, false, false, false, false, false, false, false, false, false, false, false, false, false, false, false, false, false] (by kernel_rfl) rfl rfl ⟨Aj, Ak, Al⟩ (fun hHeld => ?_); refine with_tabW point_Get.tab4 point_Get.bits4 (fun HT_ HW_ => ?_)
   (first | generalize wc.drew = w23 at Af Ab HB HR324 Aj Ak Al hHeld ⊢ | generalize wc.drew = w23 at Ab HB HR324 Aj Ak Al hHeld ⊢)
   refine pui 0 30 19 1 HT_ ?_
   refine pui 1 31 19 3 HT_ ?_
   refine pui 4 34 19 19 HT_ ?_
   refine pui 5 35 19 51 HT_ ?_
   refine pui 8 38 19 307 HT_ ?_
   refine pui 9 39 19 819 HT_ ?_
   refine pui 12 42 19 4915 HT_ ?_
   refine pui 13 43 19 13107 HT_ ?_
   refine pui 14 44 19 29491 HT_ ?_
   refine tki 2 32 19 29495 HT_ HW_ hHeld ?_
   refine pui 3 33 19 29503 HT_ ?_
   refine tki 6 36 19 29567 HT_ HW_ hHeld ?_
   refine pui 7 37 19 29695 HT_ ?_
   refine tki 10 40 19 30719 HT_ HW_ hHeld ?_
   refine pui 11 41 19 32767 HT_ ?_
   refine join_ (σ := Nat) 1 #[true, true, true, true, true, true, true, true, true, true, true, true, true, true, true, true, true, true, false] (fun s_ => [(45, .int .u32 t325), (8, .pointer (some ⟨s_, 0, none⟩)), (46, .agg #[.int .i64 (wrap64 (rd t315 0)), .int .i64 (wrap64 (rd t315 1)), .int .i64 (wrap64 (rd t315 2)), .int .u32 t325])]) (fun s_ w' => (w'.cell? Ag = some (.int .u64 (rd t315 0)) ∧ cA w' Ag 1 (.int .u64 (rd t315 1)) ∧ cA w' Ag 2 (.int .u64 (rd t315 2))) ∧ (Kd.R (Kd.int .u64) 61 w' w.heap.size (fun _ => True) (.slice (some Ag) t315.length Ax) t315) ∧ (w'.heap[Ai]? = some (.cells #[.int .i64 0, .int .i64 0, .int .i64 0, .int .u32 0] 48 (0, 0))) ∧ (w'.heap[s_]? = some (.cells #[.int .i64 0, .int .i64 0, .int .i64 0, .int .u32 0] 48 (0, 0))) ∧ (w.heap.size ≤ s_) ∧ (w.heap.size ≤ s_) ∧ (Ai ≠ s_) ∧ (s_ ≠ Ai) ∧ (Below w.heap.size w w')) ?_ ?_
   rotate_left
   ·intro hCont
    refine two_ (i := 15) (j := 17) (Ni := some 45) (Nj := some 8) (bw 19 65535) #[true, true, true, true, true, true, true, true, true, true, true, true, true, true, true, false, false, true, false] rfl rfl rfl rfl (two_of HT_.out (by kernel_rfl)) (by decide) (by decide) (fun K hK => ?_) (fun K hK => ?_)
    ·skip
     refine goes_ Try.func88 (by kernel_rfl) rfl #[.slice A25 (l0.drop (t316 : Int).toNat).length (c0 - t316.toNat)] (by rfl) rfl rfl (by (try simp only [List.map_toArray, List.map_cons, List.map_nil]); first | done | (rw [show (l0.drop (t316 : Int).toNat).length = (l0.length - t316.toNat) from List.length_drop] <;> rfl) | rfl | (simp only [List.length_drop, List.length_take]; rfl)) ?_
     with_reducible refine (point_sumOf.calls _ _ (l0.drop (t316 : Int).toNat) t325 _ ?Ao ?Ap A20.out).mono ?_
     (case Ao => exact pC (Kd.C_below HR324.out HB.out))
     (case Ap => exact HC324.out)
     rintro e w' ⟨rfl, ⟨nd, rfl⟩⟩
     refine ⟨_, rfl, ?_⟩
     refine hK.out _ _ ⟨hHeld.1, hHeld.2.1, hHeld.2.2⟩ (fun hHeld => ?_)
     clear hK K
     refine norm_ (a' := ?_) ?_ ?_
     rotate_left
     ·show Act.put _ (some 45) _ = _
      simp only [Act.put, List.setIfInBounds_toArray, List.set_cons_zero, List.set_cons_succ, i64_w, i32_w]
      rfl
     refine pui 16 46 19 131071 HT_ ?_
     refine onei 17 8 19 262143 HT_ (fun K hK => ?_)
     refine box_step ?hg (N := 8) ?hd (cs := #[.int .i64 0, .int .i64 0, .int .i64 0, .int .u32 0]) (t := 48) ?hr ?_; (case hd => rfl); (case hg => rfl); (case hr => first | (go_simp; done) | (go_simp; rfl))
     intro Ad hg w26 hbox hb
     have HS0_ := (hb.cell (World.block_lt_of_cell? _ _ (hHeld.1))).trans (hHeld.1)
     have HS1_ := (hb.cell (World.block_lt_of_cell? _ _ (hHeld.2.1))).trans (hHeld.2.1)
     have HS2_ := (hb.cell (World.block_lt_of_cell? _ _ (hHeld.2.2))).trans (hHeld.2.2)
     replace Af := bRa Af hb
     have Aa := Am (hbox)
     have Ar := Am (zG hg (below_size (pE HB.out Ah.out)))
     have An := Am (zG hg (below_size (pE HB.out Ah.out)))
     replace HB := Am (below_step (pE HB.out Ah.out) hb)
     have Ac := Am (zN hg (kL Ab.out))
     have Ae := Am (zM hg (kL Ab.out))
     replace Ab := kBa Ab hb
     clear hb hbox hg
     refine hK.out _ _ ⟨HS0_, HS1_, HS2_⟩ (fun hHeld => ?_)
     clear hK K
     refine norm_ (a' := ?_) ?_ ?_
     rotate_left
     ·show Act.put _ (some 8) _ = _
      simp only [Act.put, List.setIfInBounds_toArray, List.set_cons_zero, List.set_cons_succ, i64_w, i32_w]
      rfl
     exact norm_ (by simp only [putAll, Act.put, List.setIfInBounds_toArray, List.set_cons_zero, List.set_cons_succ]) (hCont (Ad) _ ⟨hHeld, (pR Af.out), (pK Ab.out), (pK Aa.out), Ar.out, An.out, Ac.out, Ae.out, (pE2 HB.out Ah.out An.out)⟩)
    skip
    refine box_step ?hg (N := 8) ?hd (cs := #[.int .i64 0, .int .i64 0, .int .i64 0, .int .u32 0]) (t := 48) ?hr ?_; (case hd => rfl); (case hg => rfl); (case hr => first | (go_simp; done) | (go_simp; rfl))
    intro Ad hg w26 hbox hb
    have HS0_ := (hb.cell (World.block_lt_of_cell? _ _ (hHeld.1))).trans (hHeld.1)
    have HS1_ := (hb.cell (World.block_lt_of_cell? _ _ (hHeld.2.1))).trans (hHeld.2.1)
    have HS2_ := (hb.cell (World.block_lt_of_cell? _ _ (hHeld.2.2))).trans (hHeld.2.2)
    replace Af := bRa Af hb
    have Aa := Am (hbox)
    have Ar := Am (zG hg (below_size (pE HB.out Ah.out)))
    have An := Am (zG hg (below_size (pE HB.out Ah.out)))
    replace HB := Am (below_step (pE HB.out Ah.out) hb)
    have Ac := Am (zN hg (kL Ab.out))
    have Ae := Am (zM hg (kL Ab.out))
    replace Ab := kBa Ab hb
    clear hb hbox hg
    refine hK.out _ _ ⟨HS0_, HS1_, HS2_⟩ (fun hHeld => ?_)
    clear hK K
    refine norm_ (a' := ?_) ?_ ?_
    rotate_left
    ·show Act.put _ (some 8) _ = _
     simp only [Act.put, List.setIfInBounds_toArray, List.set_cons_zero, List.set_cons_succ, i64_w, i32_w]
     rfl
    refine onei 15 45 19 196607 HT_ (fun K hK => ?_)
    refine goes_ Try.func88 (by kernel_rfl) rfl #[.slice A25 (l0.drop (t316 : Int).toNat).length (c0 - t316.toNat)] (by rfl) rfl rfl (by (try simp only [List.map_toArray, List.map_cons, List.map_nil]); first | done | (rw [show (l0.drop (t316 : Int).toNat).length = (l0.length - t316.toNat) from List.length_drop] <;> rfl) | rfl | (simp only [List.length_drop, List.length_take]; rfl)) ?_
    with_reducible refine (point_sumOf.calls _ _ (l0.drop (t316 : Int).toNat) t325 _ ?Ao ?Ap A20.out).mono ?_
    (case Ao => exact pC (Kd.C_below HR324.out HB.out))
    (case Ap => exact HC324.out)
    rintro e w' ⟨rfl, ⟨nd, rfl⟩⟩
    refine ⟨_, rfl, ?_⟩
    refine hK.out _ _ ⟨hHeld.1, hHeld.2.1, hHeld.2.2⟩ (fun hHeld => ?_)
    clear hK K
    refine norm_ (a' := ?_) ?_ ?_
    rotate_left
    ·show Act.put _ (some 45) _ = _
     simp only [Act.put, List.setIfInBounds_toArray, List.set_cons_zero, List.set_cons_succ, i64_w, i32_w]
     rfl
    refine pui 16 46 19 262143 HT_ ?_
    exact norm_ (by simp only [putAll, Act.put, List.setIfInBounds_toArray, List.set_cons_zero, List.set_cons_succ]) (hCont (Ad) _ ⟨hHeld, (pR Af.out), (pK Ab.out), (pK Aa.out), Ar.out, An.out, Ac.out, Ae.out, (pE2 HB.out Ah.out An.out)⟩)
   rintro Ad w27 ⟨hS_, h0_, h1_, h2_, h3_, h4_, h5_, h6_, h7_⟩
   replace Af : Aside0 (Kd.R (Kd.int .u64) 61 w27 w.heap.size (fun _ => True) (.slice (some Ag) t315.length Ax) t315) := ⟨h0_⟩
   replace Ab : Aside0 (w27.heap[Ai]? = some (.cells #[.int .i64 0, .int .i64 0, .int .i64 0, .int .u32 0] 48 (0, 0))) := ⟨h1_⟩
   have Aa : Aside0 (w27.heap[Ad]? = some (.cells #[.int .i64 0, .int .i64 0, .int .i64 0, .int .u32 0] 48 (0, 0))) := ⟨h2_⟩
   have Ar : Aside0 (w.heap.size ≤ Ad) := ⟨h3_⟩
   have An : Aside0 (w.heap.size ≤ Ad) := ⟨h4_⟩
   have Ac : Aside0 (Ai ≠ Ad) := ⟨h5_⟩
   have Ae : Aside0 (Ad ≠ Ai) := ⟨h6_⟩
   replace HB : Aside0 (Below w.heap.size w w27) := ⟨h7_⟩
   clear h0_ h1_ h2_ h3_ h4_ h5_ h6_ h7_
   have hHeld : w27.cell? Ag = some (.int .u64 (rd t315 0)) ∧ w27.cell? ⟨Ag.block, Ag.off + 1, none⟩ = some (.int .u64 (rd t315 1)) ∧ w27.cell? ⟨Ag.block, Ag.off + 2, none⟩ = some (.int .u64 (rd t315 2)) := hS_
   refine norm_ (a' := ?_) ?_ ?_
   rotate_left
   ·simp only [putAll, Act.put, List.setIfInBounds_toArray, List.set_cons_zero, List.set_cons_succ]
    rfl
   refine one_ (i := 18) (N := none) (bw 19 524287) rfl rfl (one_of HT_.out (by kernel_rfl)) (by decide) (fun K hK => ?_)
   have hs28 : w27.cell? ⟨Ad, 0, none⟩ = some (.int .i64 0) := (blk_cell Aa.out 0).trans rfl
   have hfs28 := blk_frozen Aa.out 0
   have hns28_0 := Ac.out
   have hms28_0 := Ae.out
   have hs29 : w27.cell? ⟨Ad, 1, none⟩ = some (.int .i64 0) := (blk_cell Aa.out 1).trans rfl
   have hfs29 := blk_frozen Aa.out 1
   have hns29_0 := Ac.out
   have hms29_0 := Ae.out
   have hs30 : w27.cell? ⟨Ad, 2, none⟩ = some (.int .i64 0) := (blk_cell Aa.out 2).trans rfl
   have hfs30 := blk_frozen Aa.out 2
   have hns30_0 := Ac.out
   have hms30_0 := Ae.out
   have hs31 : w27.cell? ⟨Ad, 3, none⟩ = some (.int .u32 0) := (blk_cell Aa.out 3).trans rfl
   have hfs31 := blk_frozen Aa.out 3
   have hns31_0 := Ac.out
   have hms31_0 := Ae.out
   refine skip_ (w1 := ?_) (by rfl) rfl ?_ ?_
   rotate_left
   ·go_simp
    rfl
   refine hK.out _ _ ⟨(cX1 hHeld.1 (by first | exact Kd.own_blk (Kd.R_ne Af.out Aa.out (by decide)) | (rw [add_block]; exact Kd.own_blk (Kd.R_ne Af.out Aa.out (by decide))) | (show (Addr.add _ _).block ≠ _; rw [add_block]; exact Kd.own_blk (Kd.R_ne Af.out Aa.out (by decide))) | (dsimp only; exact Kd.own_blk (Kd.R_ne Af.out Aa.out (by decide))))), (cX1 hHeld.2.1 (by first | exact Kd.own_blk (Kd.R_ne Af.out Aa.out (by decide)) | (rw [add_block]; exact Kd.own_blk (Kd.R_ne Af.out Aa.out (by decide))) | (show (Addr.add _ _).block ≠ _; rw [add_block]; exact Kd.own_blk (Kd.R_ne Af.out Aa.out (by decide))) | (dsimp only; exact Kd.own_blk (Kd.R_ne Af.out Aa.out (by decide))))), (cX1 hHeld.2.2 (by first | exact Kd.own_blk (Kd.R_ne Af.out Aa.out (by decide)) | (rw [add_block]; exact Kd.own_blk (Kd.R_ne Af.out Aa.out (by decide))) | (show (Addr.add _ _).block ≠ _; rw [add_block]; exact Kd.own_blk (Kd.R_ne Af.out Aa.out (by decide))) | (dsimp only; exact Kd.own_blk (Kd.R_ne Af.out Aa.out (by decide)))))⟩ (fun hHeld => ?_)
   clear hK K
   refine done_ (done_of HT_.out (by kernel_rfl)) ?_
   have hnb32 := Ae.out
   have hnc32 := Ac.out
   obtain ⟨_, _, _, _⟩ := bc4 Aa.out
   obtain ⟨_, _, _, _⟩ := bf4 Aa.out
   try go_wp2_with (first | ((with_reducible refine gate_callee (f := 80) rfl ?_); refine goesL_ (some 48) rfl rfl Try.func80 (by kernel_rfl) rfl #[.agg #[.int .i64 (wrap64 (rd t315 0)), .int .i64 (wrap64 (rd t315 1)), .int .i64 (wrap64 (rd t315 2)), .int .u32 t325]] rfl pL ?_; (with_reducible refine (point_Check.calls (wrap64 (rd t315 0)) (wrap64 (rd t315 1)) (wrap64 (rd t315 2)) t325 t327 _ A21.out).mono ?_); rintro e w34 ⟨rfl, hb⟩; refine ⟨_, rfl, ?_⟩; replace Af := Am (Kd.R_below (by (with_reducible repeat (first | apply Kd.R_alloc | apply Kd.R_drewN | apply Kd.R_drew)); exact (Kd.R_mono (Rf4 (g := Ad) (Kd.R_types Af.out Aa.out (by decide)) (fun _ hk => hk.2)) (fun _ h_ => h_.1))) hb); replace Ab := Am (blk_below (g := Ai) (kX1 Ab.out Ac.out) hb); replace Aa := Am (blk_below (g := Ad) (kX0 Aa.out) hb); replace HB := Am (below_step (pE2 HB.out Ah.out An.out) hb); (try clear hb); (try clear hb2); (try clear hk); (try clear hi); obtain ⟨_, _, _, _⟩ := bc4 Aa.out; obtain ⟨_, _, _, _⟩ := bf4 Aa.out; obtain ⟨_, _, _, _⟩ := bc4 Ab.out; obtain ⟨_, _, _, _⟩ := bf4 Ab.out))
   refine bodyPost_ret (results_ctt rfl _ _ Ai 48 #[.int .i64 (wrap64 (rd t315 0)), .int .i64 (wrap64 (rd t315 1)), .int .i64 (wrap64 (rd t315 2)), .int .u32 t325] (0, 0) _ rfl (kX0 Ab.out) Try.underlying48 rfl (by kernel_rfl)) rfl ?_
   exact ⟨pX, pE2 HB.out Ah.out An.out⟩
def bytes_Clone.f (l0 : List Int) : Option (List Int) := if l0.length < 140737488355328 then some l0 else none
set_option maxHeartbeats 4000000 in
set_option maxRecDepth 100000 in
theorem bytes_Clone.calls (A0 : Option Addr) (c0 : Nat) (l0 : List Int) (r : List Int) (w : World) (hr0 : Kd.C (Kd.int .u8) w A0 l0.length l0) (hc0 : l0.length ≤ c0) (h : bytes_Clone.f l0 = some r) :
 Calls Try.prog 85 #[.slice A0 l0.length c0] w fun e w' => ∃ v0_ : Value, e = .returned (v0_) ∧ Kd.R (Kd.int .u8) 5 w' w.heap.size (fun _ => True) v0_ r ∧ Below w.heap.size w w' := by
 unfold bytes_Clone.f at h
 by_cases hl : l0.length < 140737488355328
 ·rw [if_pos hl] at h
  obtain rfl := Option.some.inj h
  have HR0 := Aside0.mk hr0
  have HC0 := Aside0.mk hc0
  have LM := Aside0.mk hl
  clear hr0 hc0 hl h
  have HB := Aside0.mk (Below.refl w.heap.size w)
  have heq := fun (W : World) (a : Option Addr) (n c : Nat) => Lib.run_eql_slice_nil (P := Try.prog) W 22 5 a n c 0 0 Try.underlying22
  cases A0 with
  | none =>
   have e0 : l0 = [] := by
    cases l0 with
    | nil => rfl
    | cons x y =>
     obtain ⟨ad, had, _⟩ := HR0.out.2.2 (by simp)
     cases had
   subst e0
   go_enter Try.func85, Try.ntmps85
   go_wp2
   go_ret
   exact ⟨_, rfl, Kd.R_nil _ _ _ _ _, HB.out⟩
  | some ad =>
   go_enter Try.func85, Try.ntmps85
   go_wp2_with (first | ((with_reducible refine gate_dst (N := 5) rfl ?_); refine Kd.R_lit (Kd.int .u8) _ 5 ?hg (N := 5) ?hd (xs := ([] : List Int)) (inner := []) (ok := fun _ => True) (okp := fun _ => True) ?hr ?hp (fun _ hk => hk) trivial (Below.refl _ _) (Nat.le_refl _) (by simp) ?_; (case hd => rfl); (case hg => rfl); (case hr => first | (go_simp; done) | (go_simp; rfl)); (case hp => exact (Reps.none _ _)); intro v182 w12 ho13 hb hg_ hnew_; clear hg_ hnew_; have n0_ := Aside0.mk (Kd.R_lower ho13 (below_size (by repeat (first | (with_reducible first | exact HB.out | apply below_alloc | apply pw_below_drewN | apply below_drew1) | exact HB.out)))); have n1_ := Aside0.mk (below_step (by repeat (first | (with_reducible first | exact HB.out | apply below_alloc | apply pw_below_drewN | apply below_drew1) | exact HB.out)) hb); clear HB; have HO183 := n0_; have HB := n1_; clear n0_ n1_; clear hb ho13) | ((with_reducible refine gate_builtin (b := .append) (xs := #[.tmp 5, .tmp 6]) rfl ?_); at_builtin; refine Kd.R_append_rows (Kd.int .u8) (w0 := w) w.heap.size rfl (.tmp 5) (.tmp 6) 22 5 (.int .u8 0) 1 rfl Try.underlying22 info5 rfl (by decide) (by omega) v182 [] l0 _ _ _ (fun _ => True) (fun _ => False) rfl rfl ?aO ?aR (fun _ _ h => h) (fun _ h => h.elim) ?aF ?aB ?aS ?aL ?_; (case aR => repeat (first | exact (Kd.C_below HR0.out HB.out) | (with_reducible refine Kd.C_alloc ?_ _) | (with_reducible refine Kd.C_drewN ?_ _) | (with_reducible refine Kd.C_drew ?_))); (case aB => exact (by repeat (first | (with_reducible first | exact HB.out | apply below_alloc | apply pw_below_drewN | apply below_drew1) | exact HB.out))); (case aF => exact (fun _ _ => trivial)); (case aO => exact (zR HO183.out)); (case aS => exact (below_size (by repeat (first | (with_reducible first | exact HB.out | apply below_alloc | apply pw_below_drewN | apply below_drew1) | exact HB.out)))); (case aL => have := LM.out; simp only [List.length_nil]; omega); intro v185 w14 ho hb hg hat; have n0_ := Aside0.mk (hb); have n1_ := Aside0.mk (ho); clear HB; clear HO183; have HB := n0_; have HO186 := n1_; clear n0_ n1_; clear ho hb hg hat))
   go_ret
   exact ⟨_, rfl, HO186.out, HB.out⟩
 ·rw [if_neg hl] at h
  cases h
end Go.Proofs.Ytdanmjfkocjgjaa.PWalGets
