/- What the law reaches, as plain Lean functions, and that the machine's calls answer just that. -/
import Derived.Test.YtapamplgajkjlaaPExportGetsx0
import Derived.Test.YtapamplgajkjlaaPExportGetsx7
import Derived.Test.YtapamplgajkjlaaPExportGetsx10
import Derived.Test.YtapamplgajkjlaaPExportGetsx11
namespace Go.Proofs.Ytapamplgajkjlaa.PExportGets
open Go.RowKit Go.Proofs.YtapamplgajkjlaaW.PrintWords Go.Proofs.YtapamplgajkjlaaW.PrintLast Go.Proofs.YtapamplgajkjlaaW.PrintMore
attribute [local go_sem] max2_int min2_int max_two min_two max_three min_three max_four min_four
set_option linter.unusedVariables false
set_option linter.unusedSimpArgs false
attribute [local go_sem] wrap64_l1 wrap64_l2 wrap64_l3 wrap64_l4 wrap64_l5 str_leq str_gtr str_geq
mutual
def garnerref27_Get.j0 : Nat → List Int → List (S83) → List Int → Bool → Option (Int × Int × (List (S135)) × Bool)
 | 0, _, _, _, _ => none
 | k + 1, x0, x4, x7, x47 => if x47 = true then (some (0, 0, ([] : List (S135)), false)) else (if 0 < (x7.length : Int) then (if 1 < (x7.length : Int) then (garnerref27_Get.l0 k x0 x4 1 (wrap64 (rd x7 0)) (wrap64 (rd x7 1)) ([] : List (S135))) else (none)) else (none))
def garnerref27_Get.l0 : Nat → List Int → List (S83) → Int → Int → Int → List (S135) → Option (Int × Int × (List (S135)) × Bool)
 | 0, _, _, _, _, _, _ => none
 | k + 1, x0, x4, x11, x509000, x509001, x509002 => if x11 < (wrap64 ((x4.length : Int) - 1)) then (if 0 ≤ x11 then (if x11 < (x4.length : Int) then ((garnerref02_Get.f k ((rd_T83 x4 x11).f1)).bind fun bt510 => (if bt510.2 = 0 then (some (0, 0, ([] : List (S135)), false)) else (if bt510.1 > 64 then (some (0, 0, ([] : List (S135)), false)) else (if (wrap64 (bt510.2 + (wrap64 (bt510.1)))) > (((rd_T83 x4 x11).f1).length : Int) then (some (0, 0, ([] : List (S135)), false)) else (if 0 ≤ bt510.2 then (if bt510.2 ≤ (wrap64 (bt510.2 + (wrap64 (bt510.1)))) then (if (wrap64 (bt510.2 + (wrap64 (bt510.1)))) ≤ (((rd_T83 x4 x11).f1).length : Int) then (if 0 ≤ (wrap64 (bt510.2 + (wrap64 (bt510.1)))) then (if x509002.length < 3518437208883 then (garnerref27_Get.l0 k x0 x4 (wrap64 (x11 + 1)) x509000 x509001 (x509002 ++ [(⟨strOfNums ((((rd_T83 x4 x11).f1).take ((wrap64 (bt510.2 + (wrap64 (bt510.1)))) : Int).toNat).drop (bt510.2 : Int).toNat), (((rd_T83 x4 x11).f1).drop ((wrap64 (bt510.2 + (wrap64 (bt510.1)))) : Int).toNat)⟩ : S135)])) else (none)) else (none)) else (none)) else (none)) else (none)))))) else (none)) else (none)) else ((garnerref27_May.f k x509000 x509001 x509002).bind fun t525 => (if t525 = true then ((garnerref27_Put.f k x509000 x509001 x509002).bind fun t526 => ((garnerref02_Bytes.f k t526 x0).bind fun t529 => (if t529 = true then (some (x509000, x509001, x509002, true)) else (some (0, 0, ([] : List (S135)), false))))) else (some (0, 0, ([] : List (S135)), false))))
end
def garnerref27_Get.f (k : Nat) (l0 : List Int) : Option (Int × Int × (List (S135)) × Bool) := (garnerref03_Scan.f k l0).bind fun bt491 => (if (bt491.1.length : Int) < 2 then (some (0, 0, ([] : List (S135)), false)) else (if 0 < (bt491.1.length : Int) then ((garnerref02_All.f k ((rd_T83 bt491.1 0).f1) 3).bind fun bt499 => (if bt499.2.2 = 0 then (if 0 < (bt499.1.length : Int) then (if (rd bt499.1 0) > 2147483647 then (garnerref27_Get.j0 k l0 bt491.1 bt499.1 true) else (if 1 < (bt499.1.length : Int) then (garnerref27_Get.j0 k l0 bt491.1 bt499.1 (decide ((rd bt499.1 1) > 2147483647))) else (none))) else (none)) else (garnerref27_Get.j0 k l0 bt491.1 bt499.1 true))) else (none)))
theorem garnerref27_Get.mono_l : ∀ k, (∀ y0 y1 y2 y3, LeO (garnerref27_Get.j0 k y0 y1 y2 y3) (garnerref27_Get.j0 (k + 1) y0 y1 y2 y3)) ∧ (∀ y0 y1 y2 y3 y4 y5, LeO (garnerref27_Get.l0 k y0 y1 y2 y3 y4 y5) (garnerref27_Get.l0 (k + 1) y0 y1 y2 y3 y4 y5))
 | 0 => ⟨fun _ _ _ _ r h => by simp [garnerref27_Get.j0] at h, fun _ _ _ _ _ _ r h => by simp [garnerref27_Get.l0] at h⟩
 | k + 1 => by
  obtain ⟨ih0, ih1⟩ := garnerref27_Get.mono_l k
  refine ⟨?_, ?_⟩
  ·intro y0 y1 y2 y3
   unfold garnerref27_Get.j0
   repeat' first
   | (with_reducible exact ih0 _ _ _ _)
   | (with_reducible exact ih1 _ _ _ _ _ _)
   | (with_reducible exact garnerref02_All.mono _ _ _)
   | (with_reducible exact garnerref02_Bytes.mono _ _ _)
   | (with_reducible exact garnerref02_Get.mono _ _)
   | (with_reducible exact garnerref03_Scan.mono _ _)
   | (with_reducible exact garnerref27_May.mono _ _ _ _)
   | (with_reducible exact garnerref27_Put.mono _ _ _ _)
   | (with_reducible exact LeO.refl _)
   | (with_reducible exact LeO.none _)
   | (with_reducible refine LeO.ite ?_ ?_)
   | (with_reducible refine LeO.bind ?_ (fun _ => ?_))
   | exact ih0 _ _ _ _
   | exact ih1 _ _ _ _ _ _
   | exact garnerref02_All.mono _ _ _
   | exact garnerref02_Bytes.mono _ _ _
   | exact garnerref02_Get.mono _ _
   | exact garnerref03_Scan.mono _ _
   | exact garnerref27_May.mono _ _ _ _
   | exact garnerref27_Put.mono _ _ _ _
   | exact LeO.none _
   | refine LeO.ite ?_ ?_
   | refine LeO.bind ?_ (fun _ => ?_)
  ·intro y0 y1 y2 y3 y4 y5
   unfold garnerref27_Get.l0
   repeat' first
   | (with_reducible exact ih0 _ _ _ _)
   | (with_reducible exact ih1 _ _ _ _ _ _)
   | (with_reducible exact garnerref02_All.mono _ _ _)
   | (with_reducible exact garnerref02_Bytes.mono _ _ _)
   | (with_reducible exact garnerref02_Get.mono _ _)
   | (with_reducible exact garnerref03_Scan.mono _ _)
   | (with_reducible exact garnerref27_May.mono _ _ _ _)
   | (with_reducible exact garnerref27_Put.mono _ _ _ _)
   | (with_reducible exact LeO.refl _)
   | (with_reducible exact LeO.none _)
   | (with_reducible refine LeO.ite ?_ ?_)
   | (with_reducible refine LeO.bind ?_ (fun _ => ?_))
   | exact ih0 _ _ _ _
   | exact ih1 _ _ _ _ _ _
   | exact garnerref02_All.mono _ _ _
   | exact garnerref02_Bytes.mono _ _ _
   | exact garnerref02_Get.mono _ _
   | exact garnerref03_Scan.mono _ _
   | exact garnerref27_May.mono _ _ _ _
   | exact garnerref27_Put.mono _ _ _ _
   | exact LeO.none _
   | refine LeO.ite ?_ ?_
   | refine LeO.bind ?_ (fun _ => ?_)
theorem garnerref27_Get.mono : ∀ a0 k, LeO (garnerref27_Get.f k a0) (garnerref27_Get.f (k + 1) a0) := by
 intro a0 k
 obtain ⟨ih0, ih1⟩ := garnerref27_Get.mono_l k
 unfold garnerref27_Get.f
 repeat' first
   | (with_reducible exact ih0 _ _ _ _)
   | (with_reducible exact ih1 _ _ _ _ _ _)
   | (with_reducible exact garnerref02_All.mono _ _ _)
   | (with_reducible exact garnerref02_Bytes.mono _ _ _)
   | (with_reducible exact garnerref02_Get.mono _ _)
   | (with_reducible exact garnerref03_Scan.mono _ _)
   | (with_reducible exact garnerref27_May.mono _ _ _ _)
   | (with_reducible exact garnerref27_Put.mono _ _ _ _)
   | (with_reducible exact LeO.refl _)
   | (with_reducible exact LeO.none _)
   | (with_reducible refine LeO.ite ?_ ?_)
   | (with_reducible refine LeO.bind ?_ (fun _ => ?_))
   | exact ih0 _ _ _ _
   | exact ih1 _ _ _ _ _ _
   | exact garnerref02_All.mono _ _ _
   | exact garnerref02_Bytes.mono _ _ _
   | exact garnerref02_Get.mono _ _
   | exact garnerref03_Scan.mono _ _
   | exact garnerref27_May.mono _ _ _ _
   | exact garnerref27_Put.mono _ _ _ _
   | exact LeO.none _
   | refine LeO.ite ?_ ?_
   | refine LeO.bind ?_ (fun _ => ?_)
def garnerref27_Get.T7 : Bool × List (List Nat × List Nat) := (true, [([], []), ([0], [0]), ([1], [1]), ([2], [2]), ([], []), ([4], [4]), ([5], [5]), ([6], [6]), ([3, 7], [3, 7]), ([], []), ([9, 8, 0, 1, 2, 3, 4, 5, 6, 7, 8, 9], [8, 9])])
def garnerref27_Get.B7 : List Nat := [0, 1, 3, 7, 0, 16, 48, 112, 255, 0, 1023]
theorem garnerref27_Get.tab7 : rtab .any (opsOf Try.f17 7) = garnerref27_Get.T7 := by kernel_rfl
theorem garnerref27_Get.bits7 : waitsOk garnerref27_Get.T7.2 garnerref27_Get.B7 = true := by kernel_rfl
def garnerref27_Get.T15 : Bool × List (List Nat × List Nat) := (true, [([], []), ([0], [0]), ([], []), ([], []), ([], []), ([], []), ([5], [5]), ([4, 6], [4, 6]), ([2, 3, 7], [2, 3, 7]), ([8], [8]), ([], []), ([], []), ([], []), ([12], [12]), ([11, 13], [11, 13]), ([10, 14], [10, 14]), ([9, 15], [9, 15]), ([16], [16]), ([1, 17], [1, 17]), ([0, 1, 2, 3, 4, 5, 6, 7, 8, 9, 10, 11, 12, 13, 14, 15, 16, 17, 18], []), ([19, 18, 18, 0, 1, 2, 3, 4, 5, 6, 7, 8, 9, 10, 11, 12, 13, 14, 15, 16, 17, 18], [18, 19])])
def garnerref27_Get.B15 : List Nat := [0, 1, 0, 0, 0, 0, 32, 112, 252, 508, 0, 0, 0, 4096, 14336, 31744, 65532, 131068, 262143, 524287, 1048575]
theorem garnerref27_Get.tab15 : rtab .any (opsOf Try.f17 15) = garnerref27_Get.T15 := by kernel_rfl
theorem garnerref27_Get.bits15 : waitsOk garnerref27_Get.T15.2 garnerref27_Get.B15 = true := by kernel_rfl
set_option maxHeartbeats 8000000 in
set_option maxRecDepth 100000 in
theorem garnerref27_Get.calls (k : Nat) (A0 : Option Addr) (c0 : Nat) (l0 : List Int) (r1 : Int) (r2 : Int) (r3 : List (S135)) (r4 : Bool) (w : World) (hr0 : Kd.C (Kd.int .u8) w A0 l0.length l0) (hc0 : l0.length ≤ c0) (h : garnerref27_Get.f k l0 = some (r1, r2, r3, r4)) :
  Calls Try.prog 17 #[.slice A0 l0.length c0] w fun e w' => ∃ v2_ : Value, e = .returned (.tuple #[.agg #[.int .i64 r1, .int .i64 r2, v2_], .bool r4]) ∧ Kd.N k135 135 w' w.heap.size (fun k_ => (w.heap.size ≤ k_)) v2_ r3 ∧ Below w.heap.size w w' := by
 have hu29 := Try.underlying29
 have hu135 := Try.underlying135
 have HR0 := Aside0.mk hr0
 have HC0 := Aside0.mk hc0
 clear hr0 hc0
 have HB := Aside0.mk (Below.refl w.heap.size w)
 have H : ((garnerref03_Scan.f k l0).bind fun bt491 => (if (bt491.1.length : Int) < 2 then (some (0, 0, ([] : List (S135)), false)) else (if 0 < (bt491.1.length : Int) then ((garnerref02_All.f k ((rd_T83 bt491.1 0).f1) 3).bind fun bt499 => (if bt499.2.2 = 0 then (if 0 < (bt499.1.length : Int) then (if (rd bt499.1 0) > 2147483647 then (garnerref27_Get.j0 k l0 bt491.1 bt499.1 true) else (if 1 < (bt499.1.length : Int) then (garnerref27_Get.j0 k l0 bt491.1 bt499.1 (decide ((rd bt499.1 1) > 2147483647))) else (none))) else (none)) else (garnerref27_Get.j0 k l0 bt491.1 bt499.1 true))) else (none)))) = some (r1, r2, r3, r4) := h
 clear h
 replace H := Option.bind_eq_some_iff.mp H
 obtain ⟨⟨t491, t492, t493⟩, A20, H⟩ := H
 replace H : (if (t491.length : Int) < 2 then (some (0, 0, ([] : List (S135)), false)) else (if 0 < (t491.length : Int) then ((garnerref02_All.f k ((rd_T83 t491 0).f1) 3).bind fun bt499 => (if bt499.2.2 = 0 then (if 0 < (bt499.1.length : Int) then (if (rd bt499.1 0) > 2147483647 then (garnerref27_Get.j0 k l0 t491 bt499.1 true) else (if 1 < (bt499.1.length : Int) then (garnerref27_Get.j0 k l0 t491 bt499.1 (decide ((rd bt499.1 1) > 2147483647))) else (none))) else (none)) else (garnerref27_Get.j0 k l0 t491 bt499.1 true))) else (none))) = some (r1, r2, r3, r4) := H
 have A2 := Aside0.mk A20
 clear A20
 by_cases c3 : (t491.length : Int) < 2
 ·rw [if_pos c3] at H
  have c3b0 : decide ((t491.length : Int) < 2) = true := decide_eq_true c3
  have c3b1 : decide (t491.length < 2) = true := decide_eq_true (by omega)
  clear c3
  simp only [Option.some.injEq, Prod.mk.injEq] at H
  obtain ⟨rfl, rfl, rfl, rfl⟩ := H
  go_enter Try.func17, Try.ntmps17
  go_wp2_with (first | ((with_reducible refine gate_dst (N := 2) rfl ?_); (try (refine gate_guard (by rfl) ?_; dsimp only)); refine box_event ?hg (N := 2) ?hd (cs := #[.int .i64 0, .int .i64 0, .slice none 0 0]) (t := 29) ?hr ?_; (case hd => rfl); (case hg => rfl); (case hr => first | (go_simp; done) | (go_simp; rfl)); intro gb490 hg w4 hbox hb; have n0_ := Aside0.mk (below_step (pB HB.out) hb); have n1_ := Aside0.mk (hbox); have n2_ := Aside0.mk ((by rw [hg]; exact (below_size (pB HB.out)) : w.heap.size ≤ gb490)); have n3_ := Aside0.mk ((by rw [hg]; exact (below_size (pB HB.out)) : w.heap.size ≤ gb490)); clear HB; have HB := n0_; have BK490 := n1_; have GW490 := n2_; have GE490 := n3_; clear n0_ n1_ n2_ n3_ hb hbox hg) | ((with_reducible refine gate_callee (f := 66) rfl ?_); refine goesL_ (some 17) rfl rfl Try.func66 (by kernel_rfl) rfl #[.slice A0 l0.length c0] rfl pL ?_; (with_reducible refine (garnerref03_Scan.calls k _ _ l0 t491 t492 t493 _ ?side1 ?side2 A2.out).mono ?_); (case side1 => exact pC (Kd.C_below HR0.out HB.out)); (case side2 => exact HC0.out); rintro e w5 ⟨v494, v496, rfl, ho0, ho1, hb⟩; refine ⟨_, rfl, ?_⟩; have n0_ := Aside0.mk (Kd.N_lower (Kd.N_mono (ok' := fun k_ => (w.heap.size ≤ k_) ∧ some k_ ≠ (v496 : Value).ownBlock ∧ k_ ≠ gb490) (Kd.S_N (Kd.S_bound (Kd.S_apart' ho0 (Kd.R_typed ho1) (by decide)))) (fun k_ hk_ => ⟨(Nat.le_trans (below_size (pE HB.out GE490.out)) hk_.2.1), hk_.1.2, (Kd.freshB (g := gb490) (o := .cells #[.int .i64 0, .int .i64 0, .slice none 0 0] 29 (0, 0)) (pK BK490.out) k_ hk_.2.1)⟩)) (below_size (pE HB.out GE490.out))); have n1_ := Aside0.mk (Kd.R_lower (Kd.R_newM (M := fun k_ => (w.heap.size ≤ k_)) ho1 (below_size (pE HB.out GE490.out)) (fun k_ h_ => h_)) (below_size (pE HB.out GE490.out))); have n2_ := Aside0.mk (blk_below (g := gb490) (o := .cells #[.int .i64 0, .int .i64 0, .slice none 0 0] 29 (0, 0)) (pK BK490.out) hb); have n3_ := Aside0.mk (below_step (pE HB.out GE490.out) hb); clear BK490 HB; have HO495 := n0_; have HO497 := n1_; have BK490 := n2_; have HB := n3_; clear n0_ n1_ n2_ n3_; (try clear hb); (try clear hb2); (try clear hk); (try clear hi); (try clear ho0); (try clear ho1); obtain ⟨Ao6, co6, eo6⟩ := Kd.N_slice HO495.out; subst eo6; have hcz7_0 : w5.cell? ⟨gb490, 0, none⟩ = some (.int .i64 0) := (blk_cell BK490.out 0).trans rfl; have hcz7_1 : w5.cell? ⟨gb490, 1, none⟩ = some (.int .i64 0) := (blk_cell BK490.out 1).trans rfl; have hcz7_2 : w5.cell? ⟨gb490, 2, none⟩ = some (.slice none 0 0) := (blk_cell BK490.out 2).trans rfl; have hfz7_0 := blk_frozen BK490.out 0; have hfz7_1 := blk_frozen BK490.out 1; have hfz7_2 := blk_frozen BK490.out 2))
  refine bodyPost_ret (results_ct rfl _ _ gb490 29 #[.int .i64 0, .int .i64 0, .slice none 0 0] (0, 0) _ rfl (by (with_reducible repeat (first | refine blk_drewN ?_ _ | refine blk_drew ?_ | refine blk_alloc ?_ _)); refine blk_put (cs := #[.int .i64 0, .int .i64 0, .slice none 0 0]) ?_ 2 _ rfl; (with_reducible repeat (first | refine blk_drewN ?_ _ | refine blk_drew ?_ | refine blk_alloc ?_ _)); refine blk_put (cs := #[.int .i64 0, .int .i64 0, .slice none 0 0]) ?_ 1 _ rfl; (with_reducible repeat (first | refine blk_drewN ?_ _ | refine blk_drew ?_ | refine blk_alloc ?_ _)); refine blk_put (cs := #[.int .i64 0, .int .i64 0, .slice none 0 0]) ?_ 0 _ rfl; (with_reducible repeat (first | refine blk_drewN ?_ _ | refine blk_drew ?_ | refine blk_alloc ?_ _)); exact BK490.out) Try.underlying29 rfl (by kernel_rfl)) rfl ?_
  exact ⟨_, by first | rfl | (simp [errW_none, errW_some] <;> rfl) | (simp [*, errW_none, errW_some] <;> rfl), by first | exact Kd.S_nil _ _ _ _ _ | exact Kd.N_nil _ _ _ _ _ | exact Kd.V_nil _ _ _ _ _ | exact Kd.Q_nil _ _ _ _ _ | exact Kd.R_nil _ _ _ _ _, by repeat (first | (with_reducible first | exact HB.out | apply below_alloc | apply pw_below_drewN | apply below_drew1 | refine below_set ?_ GE490.out) | exact HB.out)⟩
 ·rw [if_neg c3] at H
  have c3b0 : decide ((t491.length : Int) < 2) = false := decide_eq_false c3
  have c3b1 : decide (t491.length < 2) = false := decide_eq_false (by omega)
  clear c3
  by_cases c8 : 0 < (t491.length : Int)
  ·rw [if_pos c8] at H
   have c8b0 : decide (0 < (t491.length : Int)) = true := decide_eq_true c8
   have c8b1 : decide (0 < t491.length) = true := decide_eq_true (by omega)
   clear c8
   replace H := Option.bind_eq_some_iff.mp H
   obtain ⟨⟨t499, t500, t501⟩, A90, H⟩ := H
   replace H : (if t501 = 0 then (if 0 < (t499.length : Int) then (if (rd t499 0) > 2147483647 then (garnerref27_Get.j0 k l0 t491 t499 true) else (if 1 < (t499.length : Int) then (garnerref27_Get.j0 k l0 t491 t499 (decide ((rd t499 1) > 2147483647))) else (none))) else (none)) else (garnerref27_Get.j0 k l0 t491 t499 true)) = some (r1, r2, r3, r4) := H
   have A9 := Aside0.mk A90
   clear A90
   have HC10 := Aside0.mk H
   clear H
   go_enter Try.func17, Try.ntmps17
   go_upto_region 5 with (first | ((with_reducible refine gate_dst (N := 2) rfl ?_); (try (refine gate_guard (by rfl) ?_; dsimp only)); refine box_event ?hg (N := 2) ?hd (cs := #[.int .i64 0, .int .i64 0, .slice none 0 0]) (t := 29) ?hr ?_; (case hd => rfl); (case hg => rfl); (case hr => first | (go_simp; done) | (go_simp; rfl)); intro gb490 hg w11 hbox hb; have n0_ := Aside0.mk (below_step (pB HB.out) hb); have n1_ := Aside0.mk (hbox); have n2_ := Aside0.mk ((by rw [hg]; exact (below_size (pB HB.out)) : w.heap.size ≤ gb490)); have n3_ := Aside0.mk ((by rw [hg]; exact (below_size (pB HB.out)) : w.heap.size ≤ gb490)); clear HB; have HB := n0_; have BK490 := n1_; have GW490 := n2_; have GE490 := n3_; clear n0_ n1_ n2_ n3_ hb hbox hg) | ((with_reducible refine gate_callee (f := 66) rfl ?_); refine goesL_ (some 17) rfl rfl Try.func66 (by kernel_rfl) rfl #[.slice A0 l0.length c0] rfl pL ?_; (with_reducible refine (garnerref03_Scan.calls k _ _ l0 t491 t492 t493 _ ?side1 ?side2 A2.out).mono ?_); (case side1 => exact pC (Kd.C_below HR0.out HB.out)); (case side2 => exact HC0.out); rintro e w12 ⟨v494, v496, rfl, ho0, ho1, hb⟩; refine ⟨_, rfl, ?_⟩; have n0_ := Aside0.mk (Kd.N_lower (Kd.N_mono (ok' := fun k_ => (w.heap.size ≤ k_) ∧ some k_ ≠ (v496 : Value).ownBlock ∧ k_ ≠ gb490) (Kd.S_N (Kd.S_bound (Kd.S_apart' ho0 (Kd.R_typed ho1) (by decide)))) (fun k_ hk_ => ⟨(Nat.le_trans (below_size (pE HB.out GE490.out)) hk_.2.1), hk_.1.2, (Kd.freshB (g := gb490) (o := .cells #[.int .i64 0, .int .i64 0, .slice none 0 0] 29 (0, 0)) (pK BK490.out) k_ hk_.2.1)⟩)) (below_size (pE HB.out GE490.out))); have n1_ := Aside0.mk (Kd.R_lower (Kd.R_newM (M := fun k_ => (w.heap.size ≤ k_)) ho1 (below_size (pE HB.out GE490.out)) (fun k_ h_ => h_)) (below_size (pE HB.out GE490.out))); have n2_ := Aside0.mk (blk_below (g := gb490) (o := .cells #[.int .i64 0, .int .i64 0, .slice none 0 0] 29 (0, 0)) (pK BK490.out) hb); have n3_ := Aside0.mk (below_step (pE HB.out GE490.out) hb); clear BK490 HB; have HO495 := n0_; have HO497 := n1_; have BK490 := n2_; have HB := n3_; clear n0_ n1_ n2_ n3_; (try clear hb); (try clear hb2); (try clear hk); (try clear hi); (try clear ho0); (try clear ho1); obtain ⟨Ao13, co13, eo13⟩ := Kd.N_slice HO495.out; subst eo13; have p498 : 0 ≤ (0 : Int) := (by omega); have q498 : 0 < (t491.length : Int) := of_decide_eq_true pS; obtain ⟨ad498, A498_1, c498_1, e498, hx498_0, hx498_1, hl498_1, hi498_1⟩ := at_T83 (Kd.N_reads' HO495.out).2.2 0 p498 q498; cases e498; obtain ⟨ce498, hce498, hMe498, hcc498⟩ := Kd.N_get HO495.out z83 0 p498 (by first | exact q498 | exact of_decide_eq_true pS | (have e_ := (Kd.N_reads' HO495.out).1; omega)); obtain ⟨ua498_1, uc498_1, rfl, ul498_1, ge498_1⟩ := k83_openF hMe498; have hv498_1 := hcc498 1 _ rfl; rw [add_field _ _ 1 (by omega)] at hv498_1; replace hv498_1 := Option.some.inj (hv498_1.symm.trans hx498_1); injection hv498_1 with hva_ hvn_ hvc_; rw [hva_] at ge498_1; rw [hvc_] at ul498_1; have HL498_1 := Aside0.mk (show Kd.V (Kd.int .u8) 5 _ w.heap.size _ _ ((rd_T83 t491 0).f1) from Kd.V_mk ul498_1 ge498_1); clear hva_ hvn_ hvc_ ge498_1 ul498_1 hcc498 hce498; have qi498 : (0 < t491.length) = True := eq_true (by omega); (try rw [show ((0 : Int)).toNat = 0 from rfl] at hx498_0); (try rw [show 0 * 2 = 0 from rfl] at hx498_0); (try rw [Addr.add_zero'] at hx498_0); (try rw [show ((0 : Int)).toNat = 0 from rfl] at hx498_1); (try rw [show 0 * 2 = 0 from rfl] at hx498_1); (try rw [Addr.add_zero'] at hx498_1); have HR498_1 := Aside0.mk hi498_1; have HC498_1 := Aside0.mk hl498_1; clear hi498_1 hl498_1; replace p498 := eq_true p498; replace q498 := eq_true q498) | ((with_reducible refine gate_callee (f := 71) rfl ?_); refine goesL_ (some 30) rfl rfl Try.func71 (by kernel_rfl) rfl #[.slice A498_1 ((rd_T83 t491 0).f1).length c498_1, .int .i64 3] rfl pL ?_; (with_reducible refine (garnerref02_All.calls k _ _ ((rd_T83 t491 0).f1) 3 t499 t500 t501 _ ?side1 ?side2 A9.out).mono ?_); (case side1 => repeat (first | exact (by repeat (first | (with_reducible exact HR498_1.out) | (with_reducible refine Kd.C_alloc ?_ _) | (with_reducible refine Kd.C_drewN ?_ _) | (with_reducible refine Kd.C_drew ?_) | exact HR498_1.out)) | (with_reducible refine Kd.C_alloc ?_ _) | (with_reducible refine Kd.C_drewN ?_ _) | (with_reducible refine Kd.C_drew ?_))); (case side2 => exact HC498_1.out); rintro e w14 ⟨v502, rfl, ho0, hb⟩; refine ⟨_, rfl, ?_⟩; have n0_ := Aside0.mk (Kd.N_elder' (pN HO495.out) (Kd.R_base ho0) hb); have n1_ := Aside0.mk (Kd.R_below (pR HO497.out) hb); have n2_ := Aside0.mk (Kd.V_elder' (pV HL498_1.out) (Kd.R_base ho0) hb); have n3_ := Aside0.mk (Kd.R_lower (Kd.R_newM (M := fun k_ => (w.heap.size ≤ k_)) ho0 (below_size (pE HB.out GE490.out)) (fun k_ h_ => h_)) (below_size (pE HB.out GE490.out))); have n4_ := Aside0.mk (blk_below (g := gb490) (o := .cells #[.int .i64 0, .int .i64 0, .slice none 0 0] 29 (0, 0)) (pK BK490.out) hb); have n5_ := Aside0.mk (Kd.C_below (by repeat (first | (with_reducible exact HR498_1.out) | (with_reducible refine Kd.C_alloc ?_ _) | (with_reducible refine Kd.C_drewN ?_ _) | (with_reducible refine Kd.C_drew ?_) | exact HR498_1.out)) hb); have n6_ := Aside0.mk (below_step (pE HB.out GE490.out) hb); clear HO495 HO497 HL498_1 BK490 HR498_1 HB; have HO495 := n0_; have HO497 := n1_; have HL498_1 := n2_; have HO503 := n3_; have BK490 := n4_; have HR498_1 := n5_; have HB := n6_; clear n0_ n1_ n2_ n3_ n4_ n5_ n6_; (try clear hb); (try clear hb2); (try clear hk); (try clear hi); (try clear ho0)))
   (try simp only [Act.put, List.setIfInBounds_toArray, List.set_cons_zero, List.set_cons_succ])
   go_cut [47] (fun v47 wc => ∃ (kq : Nat) (x47_9 : Bool), v47 = .bool x47_9 ∧ Aside0 (garnerref27_Get.j0 kq l0 t491 t499 x47_9 = some (r1, r2, r3, r4)) ∧ Aside0 (kq ≤ k) ∧ Aside0 (Kd.N k83 83 wc w.heap.size (fun k_ => (w.heap.size ≤ k_) ∧ some k_ ≠ (v502 : Value).ownBlock ∧ k_ ≠ gb490) (.slice (some ad498) t491.length co13) t491) ∧ Aside0 (Kd.R (Kd.int .u64) 133 wc w.heap.size (fun k_ => (w.heap.size ≤ k_)) v502 t499) ∧ Aside0 (wc.heap[gb490]? = some (.cells #[.int .i64 0, .int .i64 0, (.slice none 0 0)] 29 (0, 0))) ∧ Aside0 (Kd.C (Kd.int .u8) wc A498_1 ((rd_T83 t491 0).f1).length ((rd_T83 t491 0).f1)) ∧ Aside0 (Below w.heap.size w wc))
   case first =>
    have H := HC10.out
    clear HC10
    by_cases c15 : t501 = 0
    ·rw [if_pos c15] at H
     have c15b0 : (t501 == 0) = true := beq_iff_eq.mpr c15
     have c15b1 : (t501 != 0) = false := bne_eq_false_iff_eq.mpr c15
     clear c15
     (first | rw [c15b0] | (simp only [i64_w, i32_w]; rw [c15b0]) | skip)
     by_cases c16 : 0 < (t499.length : Int)
     ·rw [if_pos c16] at H
      have c16b0 : decide (0 < (t499.length : Int)) = true := decide_eq_true c16
      have c16b1 : decide (0 < t499.length) = true := decide_eq_true (by omega)
      clear c16
      by_cases c17 : (rd t499 0) > 2147483647
      ·rw [if_pos c17] at H
       have c17b0 : decide (2147483647 < (rd t499 0)) = true := decide_eq_true c17
       clear c17
       have H' := Aside0.mk H
       clear H
       obtain ⟨Ao18, co18, eo18⟩ := Kd.R_slice HO503.out
       subst eo18
       have p504 : 0 ≤ (0 : Int) := (by omega)
       have q504 : 0 < (t499.length : Int) := of_decide_eq_true pS
       obtain ⟨ad504, e504, hx504_0⟩ := Kd.at_int (Kd.R_reads' HO503.out).2.2 0 p504 q504
       cases e504
       have qi504 : (0 < t499.length) = True := eq_true (by omega)
       (try rw [show ((0 : Int)).toNat = 0 from rfl] at hx504_0)
       (try rw [Addr.add_zero'] at hx504_0)
       replace p504 := eq_true p504
       replace q504 := eq_true q504
       go_wp2
       go_meet
       case rel => exact ⟨_, (true), (by first | rfl | (simp; done) | (simp [*]; done)), H', ⟨by first | omega | exact Nat.le_refl _⟩, ⟨by (with_reducible repeat (first | apply Kd.N_alloc | apply Kd.N_drewN | apply Kd.N_drew)); exact Kd.N_mono HO495.out (fun _ hk => ⟨hk.1.1, ⟨hk.2, hk.1.2.2⟩⟩)⟩, ⟨by (with_reducible repeat (first | apply Kd.R_alloc | apply Kd.R_drewN | apply Kd.R_drew)); exact Kd.R_mono HO503.out (fun _ hk => hk.1)⟩, ⟨by (with_reducible repeat (first | refine blk_drewN ?_ _ | refine blk_drew ?_ | refine blk_alloc ?_ _)); exact BK490.out⟩, ⟨by repeat (first | (with_reducible exact HR498_1.out) | (with_reducible refine Kd.C_alloc ?_ _) | (with_reducible refine Kd.C_drewN ?_ _) | (with_reducible refine Kd.C_drew ?_) | exact HR498_1.out)⟩, ⟨by repeat (first | (with_reducible first | exact HB.out | apply below_alloc | apply pw_below_drewN | apply below_drew1 | refine below_set ?_ GE490.out) | exact HB.out)⟩⟩
      ·rw [if_neg c17] at H
       have c17b0 : decide (2147483647 < (rd t499 0)) = false := decide_eq_false c17
       clear c17
       by_cases c19 : 1 < (t499.length : Int)
       ·rw [if_pos c19] at H
        have c19b0 : decide (1 < (t499.length : Int)) = true := decide_eq_true c19
        have c19b1 : decide (1 < t499.length) = true := decide_eq_true (by omega)
        clear c19
        have H' := Aside0.mk H
        clear H
        obtain ⟨Ao20, co20, eo20⟩ := Kd.R_slice HO503.out
        subst eo20
        have p504 : 0 ≤ (0 : Int) := (by omega)
        have q504 : 0 < (t499.length : Int) := of_decide_eq_true pS
        obtain ⟨ad504, e504, hx504_0⟩ := Kd.at_int (Kd.R_reads' HO503.out).2.2 0 p504 q504
        cases e504
        have qi504 : (0 < t499.length) = True := eq_true (by omega)
        (try rw [show ((0 : Int)).toNat = 0 from rfl] at hx504_0)
        (try rw [Addr.add_zero'] at hx504_0)
        replace p504 := eq_true p504
        replace q504 := eq_true q504
        have p505 : 0 ≤ (1 : Int) := (by omega)
        have q505 : 1 < (t499.length : Int) := of_decide_eq_true pS
        obtain ⟨ad505, e505, hx505_0⟩ := Kd.at_int (Kd.R_reads' HO503.out).2.2 1 p505 q505
        obtain rfl : ad504 = ad505 := (by injection e505)
        (try simp only [show (1 : Int).toNat = 1 from rfl, Nat.reduceMul, Nat.reduceEqDiff, Go.Addr.add, ↓reduceIte] at hx505_0)
        have qi505 : (1 < t499.length) = True := eq_true (by omega)
        (try rw [show ((1 : Int)).toNat = 1 from rfl] at hx505_0)
        replace p505 := eq_true p505
        replace q505 := eq_true q505
        go_wp2
        go_meet
        case rel => exact ⟨_, (decide ((rd t499 1) > 2147483647)), (by first | rfl | (simp; done) | (simp [*]; done)), H', ⟨by first | omega | exact Nat.le_refl _⟩, ⟨by (with_reducible repeat (first | apply Kd.N_alloc | apply Kd.N_drewN | apply Kd.N_drew)); exact Kd.N_mono HO495.out (fun _ hk => ⟨hk.1.1, ⟨hk.2, hk.1.2.2⟩⟩)⟩, ⟨by (with_reducible repeat (first | apply Kd.R_alloc | apply Kd.R_drewN | apply Kd.R_drew)); exact Kd.R_mono HO503.out (fun _ hk => hk.1)⟩, ⟨by (with_reducible repeat (first | refine blk_drewN ?_ _ | refine blk_drew ?_ | refine blk_alloc ?_ _)); exact BK490.out⟩, ⟨by repeat (first | (with_reducible exact HR498_1.out) | (with_reducible refine Kd.C_alloc ?_ _) | (with_reducible refine Kd.C_drewN ?_ _) | (with_reducible refine Kd.C_drew ?_) | exact HR498_1.out)⟩, ⟨by repeat (first | (with_reducible first | exact HB.out | apply below_alloc | apply pw_below_drewN | apply below_drew1 | refine below_set ?_ GE490.out) | exact HB.out)⟩⟩
       ·rw [if_neg c19] at H
        exact absurd H (by simp)
     ·rw [if_neg c16] at H
      exact absurd H (by simp)
    ·rw [if_neg c15] at H
     have c15b0 : (t501 == 0) = false := beq_eq_false_iff_ne.mpr c15
     have c15b1 : (t501 != 0) = true := bne_iff_ne.mpr c15
     (first | rw [c15b0] | (simp only [i64_w, i32_w]; rw [c15b0]) | skip)
     have H' := Aside0.mk H
     clear H
     go_wp2
     go_meet
     case rel => exact ⟨_, (true), (by first | rfl | (simp; done) | (simp [*]; done)), H', ⟨by first | omega | exact Nat.le_refl _⟩, ⟨by (with_reducible repeat (first | apply Kd.N_alloc | apply Kd.N_drewN | apply Kd.N_drew)); exact Kd.N_mono HO495.out (fun _ hk => ⟨hk.1.1, ⟨hk.2, hk.1.2.2⟩⟩)⟩, ⟨by (with_reducible repeat (first | apply Kd.R_alloc | apply Kd.R_drewN | apply Kd.R_drew)); exact Kd.R_mono HO503.out (fun _ hk => hk.1)⟩, ⟨by (with_reducible repeat (first | refine blk_drewN ?_ _ | refine blk_drew ?_ | refine blk_alloc ?_ _)); exact BK490.out⟩, ⟨by repeat (first | (with_reducible exact HR498_1.out) | (with_reducible refine Kd.C_alloc ?_ _) | (with_reducible refine Kd.C_drewN ?_ _) | (with_reducible refine Kd.C_drew ?_) | exact HR498_1.out)⟩, ⟨by repeat (first | (with_reducible first | exact HB.out | apply below_alloc | apply pw_below_drewN | apply below_drew1 | refine below_set ?_ GE490.out) | exact HB.out)⟩⟩
   case rest =>
    clear HC10
    try clear c1
    try clear p2
    try clear c3
    try clear c3b0
    try clear c3b1
    try clear c4
    try clear p4
    try clear q4
    try clear hx4
    try clear qi4
    try clear p5
    try clear q5
    try clear hx5
    try clear qi5
    try clear c6
    try clear c7
    try clear c8
    try clear c8b0
    try clear c8b1
    try clear c15
    try clear c15b0
    try clear c15b1
    try clear c16
    try clear c16b0
    try clear c16b1
    try clear c17
    try clear c17b0
    try clear c19
    try clear c19b0
    try clear c19b1
    try clear hcz7_0
    try clear hcz7_1
    try clear hcz7_2
    try clear hfz7_0
    try clear hfz7_1
    try clear hfz7_2
    try clear hx498_0
    try clear hx498_1
    try clear hx504_0
    try clear hx505_0
    try clear p498
    try clear p504
    try clear p505
    try clear q498
    try clear q504
    try clear q505
    obtain ⟨kq, x47_9, rfl, HA, HJ9, HO_4, HO_7, BK490, HR498_1, HB⟩ := hcut
    cases kq with
    | zero => exact absurd HA.out (by simp [garnerref27_Get.j0])
    | succ kj9 =>
     have H := HA.out
     clear HA
     simp only [garnerref27_Get.j0] at H
     by_cases c21 : x47_9 = true
     ·subst c21
      have H1 : (some (0, 0, ([] : List (S135)), false)) = some (r1, r2, r3, r4) := by rw [if_pos rfl] at H; exact H
      clear H
      have H := H1
      clear H1
      simp only [Option.some.injEq, Prod.mk.injEq] at H
      obtain ⟨rfl, rfl, rfl, rfl⟩ := H
      have hcz22_0 : wc.cell? ⟨gb490, 0, none⟩ = some (.int .i64 0) := (blk_cell BK490.out 0).trans rfl
      have hcz22_1 : wc.cell? ⟨gb490, 1, none⟩ = some (.int .i64 0) := (blk_cell BK490.out 1).trans rfl
      have hcz22_2 : wc.cell? ⟨gb490, 2, none⟩ = some (.slice none 0 0) := (blk_cell BK490.out 2).trans rfl
      have hfz22_0 := blk_frozen BK490.out 0
      have hfz22_1 := blk_frozen BK490.out 1
      have hfz22_2 := blk_frozen BK490.out 2
      go_wp2
      refine bodyPost_ret (results_ct rfl _ _ gb490 29 #[.int .i64 0, .int .i64 0, .slice none 0 0] (0, 0) _ rfl (by (with_reducible repeat (first | refine blk_drewN ?_ _ | refine blk_drew ?_ | refine blk_alloc ?_ _)); refine blk_put (cs := #[.int .i64 0, .int .i64 0, .slice none 0 0]) ?_ 2 _ rfl; (with_reducible repeat (first | refine blk_drewN ?_ _ | refine blk_drew ?_ | refine blk_alloc ?_ _)); refine blk_put (cs := #[.int .i64 0, .int .i64 0, .slice none 0 0]) ?_ 1 _ rfl; (with_reducible repeat (first | refine blk_drewN ?_ _ | refine blk_drew ?_ | refine blk_alloc ?_ _)); refine blk_put (cs := #[.int .i64 0, .int .i64 0, .slice none 0 0]) ?_ 0 _ rfl; (with_reducible repeat (first | refine blk_drewN ?_ _ | refine blk_drew ?_ | refine blk_alloc ?_ _)); exact BK490.out) Try.underlying29 rfl (by kernel_rfl)) rfl ?_
      exact ⟨_, by first | rfl | (simp [errW_none, errW_some] <;> rfl) | (simp [*, errW_none, errW_some] <;> rfl), by first | exact Kd.S_nil _ _ _ _ _ | exact Kd.N_nil _ _ _ _ _ | exact Kd.V_nil _ _ _ _ _ | exact Kd.Q_nil _ _ _ _ _ | exact Kd.R_nil _ _ _ _ _, by repeat (first | (with_reducible first | exact HB.out | apply below_alloc | apply pw_below_drewN | apply below_drew1 | refine below_set ?_ GE490.out) | exact HB.out)⟩
     ·replace c21 := Bool.eq_false_iff.mpr c21
      subst c21
      have H1 : (if 0 < (t499.length : Int) then (if 1 < (t499.length : Int) then (garnerref27_Get.l0 kj9 l0 t491 1 (wrap64 (rd t499 0)) (wrap64 (rd t499 1)) ([] : List (S135))) else (none)) else (none)) = some (r1, r2, r3, r4) := by rw [if_neg (show ¬ (false = true) by decide)] at H; exact H
      clear H
      have H := H1
      clear H1
      by_cases c23 : 0 < (t499.length : Int)
      ·rw [if_pos c23] at H
       have c23b0 : decide (0 < (t499.length : Int)) = true := decide_eq_true c23
       have c23b1 : decide (0 < t499.length) = true := decide_eq_true (by omega)
       clear c23
       by_cases c24 : 1 < (t499.length : Int)
       ·rw [if_pos c24] at H
        have c24b0 : decide (1 < (t499.length : Int)) = true := decide_eq_true c24
        have c24b1 : decide (1 < t499.length) = true := decide_eq_true (by omega)
        clear c24
        have H' := Aside0.mk H
        clear H
        try go_wp2
        have n0_ := Aside0.mk (Kd.N_drew HO_4.out)
        have n1_ := Aside0.mk (Kd.R_drew HO_7.out)
        have n2_ := Aside0.mk (blk_drew BK490.out)
        have n3_ := Aside0.mk (Kd.C_drew HR498_1.out)
        have n4_ := Aside0.mk (below_drew1 HB.out)
        clear HO_4
        clear HO_7
        clear BK490
        clear HR498_1
        clear HB
        have HO_4 := n0_
        have HO_7 := n1_
        have BK490 := n2_
        have HR498_1 := n3_
        have HB := n4_
        clear n0_ n1_ n2_ n3_ n4_
        obtain ⟨Ao26, co26, eo26⟩ := Kd.R_slice HO_7.out
        (first | subst eo26 | (injection eo26 with f1_ f2_ f3_; have f4_ := f1_.symm; have f5_ := f3_.symm; clear f1_ f2_ f3_; subst f4_; subst f5_))
        have p506 : 0 ≤ (0 : Int) := (by omega)
        have q506 : 0 < (t499.length : Int) := of_decide_eq_true pS
        obtain ⟨ad506, e506, hx506_0⟩ := Kd.at_int (Kd.R_reads' HO_7.out).2.2 0 p506 q506
        cases e506
        have qi506 : (0 < t499.length) = True := eq_true (by omega)
        (try rw [show ((0 : Int)).toNat = 0 from rfl] at hx506_0)
        (try rw [Addr.add_zero'] at hx506_0)
        replace p506 := eq_true p506
        replace q506 := eq_true q506
        have p507 : 0 ≤ (1 : Int) := (by omega)
        have q507 : 1 < (t499.length : Int) := of_decide_eq_true pS
        obtain ⟨ad507, e507, hx507_0⟩ := Kd.at_int (Kd.R_reads' HO_7.out).2.2 1 p507 q507
        obtain rfl : ad506 = ad507 := (by injection e507)
        (try simp only [show (1 : Int).toNat = 1 from rfl, Nat.reduceMul, Nat.reduceEqDiff, Go.Addr.add, ↓reduceIte] at hx507_0)
        have qi507 : (1 < t499.length) = True := eq_true (by omega)
        (try rw [show ((1 : Int)).toNat = 1 from rfl] at hx507_0)
        replace p507 := eq_true p507
        replace q507 := eq_true q507
        refine start_ (n := 11) (S := fun w' => w'.cell? ad506 = some (.int .u64 (rd t499 0)) ∧ w'.cell? ⟨ad506.block, ad506.off + 1, none⟩ = some (.int .u64 (rd t499 1))) (ds := []) #[false, false, false, false, false, false, false, false, false, false, false] (by kernel_rfl) rfl rfl ⟨hx506_0, hx507_0⟩ (fun hHeld => ?_); refine with_tabW garnerref27_Get.tab7 garnerref27_Get.bits7 (fun HT_ HW_ => ?_)
        generalize wc.drew = w25 at HO_4 HO_7 BK490 HR498_1 HB hx506_0 hx507_0 hHeld ⊢
        refine pure_ (i := 0) (N := some 49) (v := ?_) (a' := ?_) #[true, false, false, false, false, false, false, false, false, false, false] rfl rfl (any_of HT_.out (by kernel_rfl)) (fun _ _ _ h => h) (Or.inl ⟨by rfl, ?_⟩) ?_ ?_
        rotate_left
        ·intro w'
         go_simp
         with_reducible rfl
        rotate_left
        ·simp only [Act.put, List.setIfInBounds_toArray, List.set_cons_zero, List.set_cons_succ, i64_w, i32_w]
         rfl
        refine pure_ (i := 1) (N := some 50) (v := ?_) (a' := ?_) #[true, true, false, false, false, false, false, false, false, false, false] rfl rfl (any_of HT_.out (by kernel_rfl)) (fun _ _ _ h => h) (Or.inl ⟨by rfl, ?_⟩) ?_ ?_
        rotate_left
        ·intro w'
         go_simp
         with_reducible rfl
        rotate_left
        ·simp only [Act.put, List.setIfInBounds_toArray, List.set_cons_zero, List.set_cons_succ, i64_w, i32_w]
         rfl
        refine pure_ (i := 4) (N := some 53) (v := ?_) (a' := ?_) #[true, true, false, false, true, false, false, false, false, false, false] rfl rfl (any_of HT_.out (by kernel_rfl)) (fun _ _ _ h => h) (Or.inl ⟨by rfl, ?_⟩) ?_ ?_
        rotate_left
        ·intro w'
         go_simp
         with_reducible rfl
        rotate_left
        ·simp only [Act.put, List.setIfInBounds_toArray, List.set_cons_zero, List.set_cons_succ, i64_w, i32_w]
         rfl
        refine pure_ (i := 5) (N := some 54) (v := ?_) (a' := ?_) #[true, true, false, false, true, true, false, false, false, false, false] rfl rfl (any_of HT_.out (by kernel_rfl)) (fun _ _ _ h => h) (Or.inl ⟨by rfl, ?_⟩) ?_ ?_
        rotate_left
        ·intro w'
         go_simp
         with_reducible rfl
        rotate_left
        ·simp only [Act.put, List.setIfInBounds_toArray, List.set_cons_zero, List.set_cons_succ, i64_w, i32_w]
         rfl
        refine take_ (i := 2) (N := some 51) (v := ?_) (a' := ?_) #[true, true, true, false, true, true, false, false, false, false, false] rfl rfl (take_ofW HT_.out HW_.out (by kernel_rfl)) (fun _ _ _ h => h) (Or.inl ⟨by rfl, ?_⟩) hHeld ?_ ?_
        rotate_left
        ·rintro w' ⟨s0, s1⟩
         go_simp
         with_reducible rfl
        rotate_left
        ·simp only [Act.put, List.setIfInBounds_toArray, List.set_cons_zero, List.set_cons_succ, i64_w, i32_w]
         rfl
        refine pure_ (i := 3) (N := some 52) (v := ?_) (a' := ?_) #[true, true, true, true, true, true, false, false, false, false, false] rfl rfl (any_of HT_.out (by kernel_rfl)) (fun _ _ _ h => h) (Or.inl ⟨by rfl, ?_⟩) ?_ ?_
        rotate_left
        ·intro w'
         go_simp
         with_reducible rfl
        rotate_left
        ·simp only [Act.put, List.setIfInBounds_toArray, List.set_cons_zero, List.set_cons_succ, i64_w, i32_w]
         rfl
        refine take_ (i := 6) (N := some 55) (v := ?_) (a' := ?_) #[true, true, true, true, true, true, true, false, false, false, false] rfl rfl (take_ofW HT_.out HW_.out (by kernel_rfl)) (fun _ _ _ h => h) (Or.inl ⟨by rfl, ?_⟩) hHeld ?_ ?_
        rotate_left
        ·rintro w' ⟨s0, s1⟩
         go_simp
         with_reducible rfl
        rotate_left
        ·simp only [Act.put, List.setIfInBounds_toArray, List.set_cons_zero, List.set_cons_succ, i64_w, i32_w]
         rfl
        refine pure_ (i := 7) (N := some 56) (v := ?_) (a' := ?_) #[true, true, true, true, true, true, true, true, false, false, false] rfl rfl (any_of HT_.out (by kernel_rfl)) (fun _ _ _ h => h) (Or.inl ⟨by rfl, ?_⟩) ?_ ?_
        rotate_left
        ·intro w'
         go_simp
         with_reducible rfl
        rotate_left
        ·simp only [Act.put, List.setIfInBounds_toArray, List.set_cons_zero, List.set_cons_succ, i64_w, i32_w]
         rfl
        refine pure_ (i := 8) (N := some 57) (v := ?_) (a' := ?_) #[true, true, true, true, true, true, true, true, true, false, false] rfl rfl (any_of HT_.out (by kernel_rfl)) (fun _ _ _ h => h) (Or.inl ⟨by rfl, ?_⟩) ?_ ?_
        rotate_left
        ·intro w'
         go_simp
         with_reducible rfl
        rotate_left
        ·simp only [Act.put, List.setIfInBounds_toArray, List.set_cons_zero, List.set_cons_succ, i64_w, i32_w]
         rfl
        refine one_ (i := 9) (N := some 10) #[true, true, true, true, true, true, true, true, true, true, false] rfl rfl (one_of HT_.out (by kernel_rfl)) (by decide) (fun K hK => ?_)
        refine box_step ?hg (N := 10) ?hd (cs := #[.int .i64 0, .int .i64 0, .slice none 0 0]) (t := 29) ?hr ?_; (case hd => rfl); (case hg => rfl); (case hr => first | (go_simp; done) | (go_simp; rfl))
        intro gb508 hg w27 hbox hb
        have HS0_ := (hb.cell (World.block_lt_of_cell? _ _ (hHeld.1))).trans (hHeld.1)
        have HS1_ := (hb.cell (World.block_lt_of_cell? _ _ (hHeld.2))).trans (hHeld.2)
        have n0_ := Aside0.mk (Kd.N_below (Kd.N_elderB (pN HO_4.out) gb508 (Nat.le_of_eq hg.symm)) hb)
        have n1_ := Aside0.mk (Kd.R_below (pR HO_7.out) hb)
        have n2_ := Aside0.mk (blk_below (g := gb490) (o := .cells #[.int .i64 0, .int .i64 0, .slice none 0 0] 29 (0, 0)) (pK BK490.out) hb)
        have n3_ := Aside0.mk (Kd.C_below (by repeat (first | (with_reducible exact HR498_1.out) | (with_reducible refine Kd.C_alloc ?_ _) | (with_reducible refine Kd.C_drewN ?_ _) | (with_reducible refine Kd.C_drew ?_) | exact HR498_1.out)) hb)
        have n4_ := Aside0.mk (below_step (pE HB.out GE490.out) hb)
        have n5_ := Aside0.mk (hbox)
        have n6_ := Aside0.mk ((by rw [hg]; exact (below_size (pE HB.out GE490.out)) : w.heap.size ≤ gb508))
        have n7_ := Aside0.mk ((by rw [hg]; exact (below_size (pE HB.out GE490.out)) : w.heap.size ≤ gb508))
        have n8_ := Aside0.mk ((by rw [hg]; exact Nat.ne_of_lt (blk_lt (g := gb490) (o := .cells #[.int .i64 0, .int .i64 0, .slice none 0 0] 29 (0, 0)) (pK BK490.out)) : gb490 ≠ gb508))
        have n9_ := Aside0.mk ((by rw [hg]; exact Nat.ne_of_gt (blk_lt (g := gb490) (o := .cells #[.int .i64 0, .int .i64 0, .slice none 0 0] 29 (0, 0)) (pK BK490.out)) : gb508 ≠ gb490))
        clear HO_4
        clear HO_7
        clear BK490
        clear HR498_1
        clear HB
        have HO_4 := n0_
        have HO_7 := n1_
        have BK490 := n2_
        have HR498_1 := n3_
        have HB := n4_
        have BK508 := n5_
        have GW508 := n6_
        have GE508 := n7_
        have NB490_508 := n8_
        have NB508_490 := n9_
        clear n0_ n1_ n2_ n3_ n4_ n5_ n6_ n7_ n8_ n9_
        clear hb hbox hg
        refine hK.out _ _ ⟨HS0_, HS1_⟩ (fun hHeld => ?_)
        clear hK K
        refine norm_ (a' := ?_) ?_ ?_
        rotate_left
        ·show Act.put _ (some 10) _ = _
         simp only [Act.put, List.setIfInBounds_toArray, List.set_cons_zero, List.set_cons_succ, i64_w, i32_w]
         rfl
        refine one_ (i := 10) (N := none) #[true, true, true, true, true, true, true, true, true, true, true] rfl rfl (one_of HT_.out (by kernel_rfl)) (by decide) (fun K hK => ?_)
        have hs28 : w27.cell? ⟨gb508, 0, none⟩ = some (.int .i64 0) := (blk_cell BK508.out 0).trans rfl
        have hfs28 := blk_frozen BK508.out 0
        have hns28_0 := NB490_508.out
        have hms28_0 := NB508_490.out
        have hs29 : w27.cell? ⟨gb508, 1, none⟩ = some (.int .i64 0) := (blk_cell BK508.out 1).trans rfl
        have hfs29 := blk_frozen BK508.out 1
        have hns29_0 := NB490_508.out
        have hms29_0 := NB508_490.out
        have hs30 : w27.cell? ⟨gb508, 2, none⟩ = some (.slice none 0 0) := (blk_cell BK508.out 2).trans rfl
        have hfs30 := blk_frozen BK508.out 2
        have hns30_0 := NB490_508.out
        have hms30_0 := NB508_490.out
        refine skip_ (w1 := ?_) (by rfl) rfl ?_ ?_
        rotate_left
        ·go_simp
         rfl
        refine hK.out _ _ ⟨((cell_far (p := ⟨gb508, _, none⟩) (by first | exact Kd.own_blk (Kd.R_ne HO_7.out BK508.out (by decide)) | (rw [add_block]; exact Kd.own_blk (Kd.R_ne HO_7.out BK508.out (by decide))) | (show (Addr.add _ _).block ≠ _; rw [add_block]; exact Kd.own_blk (Kd.R_ne HO_7.out BK508.out (by decide))) | (dsimp only; exact Kd.own_blk (Kd.R_ne HO_7.out BK508.out (by decide)))) _).trans (((cell_far (p := ⟨gb508, _, none⟩) (by first | exact Kd.own_blk (Kd.R_ne HO_7.out BK508.out (by decide)) | (rw [add_block]; exact Kd.own_blk (Kd.R_ne HO_7.out BK508.out (by decide))) | (show (Addr.add _ _).block ≠ _; rw [add_block]; exact Kd.own_blk (Kd.R_ne HO_7.out BK508.out (by decide))) | (dsimp only; exact Kd.own_blk (Kd.R_ne HO_7.out BK508.out (by decide)))) _).trans (((cell_far (p := ⟨gb508, _, none⟩) (by first | exact Kd.own_blk (Kd.R_ne HO_7.out BK508.out (by decide)) | (rw [add_block]; exact Kd.own_blk (Kd.R_ne HO_7.out BK508.out (by decide))) | (show (Addr.add _ _).block ≠ _; rw [add_block]; exact Kd.own_blk (Kd.R_ne HO_7.out BK508.out (by decide))) | (dsimp only; exact Kd.own_blk (Kd.R_ne HO_7.out BK508.out (by decide)))) _).trans (hHeld.1)))))), ((cell_far (p := ⟨gb508, _, none⟩) (by first | exact Kd.own_blk (Kd.R_ne HO_7.out BK508.out (by decide)) | (rw [add_block]; exact Kd.own_blk (Kd.R_ne HO_7.out BK508.out (by decide))) | (show (Addr.add _ _).block ≠ _; rw [add_block]; exact Kd.own_blk (Kd.R_ne HO_7.out BK508.out (by decide))) | (dsimp only; exact Kd.own_blk (Kd.R_ne HO_7.out BK508.out (by decide)))) _).trans (((cell_far (p := ⟨gb508, _, none⟩) (by first | exact Kd.own_blk (Kd.R_ne HO_7.out BK508.out (by decide)) | (rw [add_block]; exact Kd.own_blk (Kd.R_ne HO_7.out BK508.out (by decide))) | (show (Addr.add _ _).block ≠ _; rw [add_block]; exact Kd.own_blk (Kd.R_ne HO_7.out BK508.out (by decide))) | (dsimp only; exact Kd.own_blk (Kd.R_ne HO_7.out BK508.out (by decide)))) _).trans (((cell_far (p := ⟨gb508, _, none⟩) (by first | exact Kd.own_blk (Kd.R_ne HO_7.out BK508.out (by decide)) | (rw [add_block]; exact Kd.own_blk (Kd.R_ne HO_7.out BK508.out (by decide))) | (show (Addr.add _ _).block ≠ _; rw [add_block]; exact Kd.own_blk (Kd.R_ne HO_7.out BK508.out (by decide))) | (dsimp only; exact Kd.own_blk (Kd.R_ne HO_7.out BK508.out (by decide)))) _).trans (hHeld.2))))))⟩ (fun hHeld => ?_)
        clear hK K
        refine done_ (done_of HT_.out (by kernel_rfl)) ?_
        try go_wp2
        go_loopg [11] kj9 (fun kq v11 w' => ∃ (x11_2 : Int) (x491000_2 : Int) (x491001_2 : Int) (x509002_2 : List (S135)) (u509002 : Value), v11 = .int .i64 x11_2 ∧ Aside0 (garnerref27_Get.l0 kq l0 t491 x11_2 (wrap64 (rd t499 0)) (wrap64 (rd t499 1)) x509002_2 = some (r1, r2, r3, r4)) ∧ Aside0 (kq ≤ kj9) ∧ Aside0 (Kd.N k83 83 w' w.heap.size (fun k_ => (w.heap.size ≤ k_) ∧ some k_ ≠ (u509002 : Value).ownBlock ∧ k_ ≠ gb490 ∧ k_ ≠ gb508) (.slice (some ad498) t491.length co13) t491) ∧ Aside0 (Kd.N k135 135 w' w.heap.size (fun k_ => (w.heap.size ≤ k_) ∧ some k_ ≠ ((.slice (some ad498) t491.length co13) : Value).ownBlock ∧ k_ ≠ gb490 ∧ k_ ≠ gb508) u509002 x509002_2) ∧ Aside0 (w'.heap[gb490]? = some (.cells #[.int .i64 x491000_2, .int .i64 x491001_2, (.slice none 0 0)] 29 (0, 0))) ∧ Aside0 (w'.heap[gb508]? = some (.cells #[.int .i64 (wrap64 (rd t499 0)), .int .i64 (wrap64 (rd t499 1)), u509002] 29 (0, 0))) ∧ Aside0 (Below w.heap.size w w'))
        case atStart => exact ⟨(1), (0), (0), (([] : List (S135))), (.slice none 0 0), (by first | rfl | (simp; done) | (simp [*]; done)), H', ⟨Nat.le_refl _⟩, ⟨by (with_reducible repeat (first | apply Kd.N_alloc | apply Kd.N_drewN | apply Kd.N_drew)); exact Kd.N_mono (Kd.N_far (p := ⟨gb508, 2, none⟩) (Kd.N_far (p := ⟨gb508, 1, none⟩) (Kd.N_far (p := ⟨gb508, 0, none⟩) (Kd.N_mono HO_4.out (fun k_ hk => (⟨hk, hk.2⟩ : _ ∧ k_ ≠ gb508))) (fun _ hk => hk.2) (.int .i64 (wrap64 (rd t499 0)))) (fun _ hk => hk.2) (.int .i64 (wrap64 (rd t499 1)))) (fun _ hk => hk.2) (.slice none 0 0)) (fun _ hk => ⟨hk.1.1.1, ⟨(by simp [Value.ownBlock]), ⟨hk.1.1.2.2, hk.1.2⟩⟩⟩)⟩, ⟨by first | exact Kd.S_nil _ _ _ _ _ | exact Kd.N_nil _ _ _ _ _ | exact Kd.V_nil _ _ _ _ _ | exact Kd.Q_nil _ _ _ _ _ | exact Kd.R_nil _ _ _ _ _⟩, ⟨by (with_reducible repeat (first | refine blk_drewN ?_ _ | refine blk_drew ?_ | refine blk_alloc ?_ _)); refine blk_far ?_ NB490_508.out _; (with_reducible repeat (first | refine blk_drewN ?_ _ | refine blk_drew ?_ | refine blk_alloc ?_ _)); refine blk_far ?_ NB490_508.out _; (with_reducible repeat (first | refine blk_drewN ?_ _ | refine blk_drew ?_ | refine blk_alloc ?_ _)); refine blk_far ?_ NB490_508.out _; (with_reducible repeat (first | refine blk_drewN ?_ _ | refine blk_drew ?_ | refine blk_alloc ?_ _)); exact BK490.out⟩, ⟨by (with_reducible repeat (first | refine blk_drewN ?_ _ | refine blk_drew ?_ | refine blk_alloc ?_ _)); refine blk_put (cs := #[.int .i64 (wrap64 (rd t499 0)), .int .i64 (wrap64 (rd t499 1)), .slice none 0 0]) ?_ 2 _ rfl; (with_reducible repeat (first | refine blk_drewN ?_ _ | refine blk_drew ?_ | refine blk_alloc ?_ _)); refine blk_put (cs := #[.int .i64 (wrap64 (rd t499 0)), .int .i64 0, .slice none 0 0]) ?_ 1 _ rfl; (with_reducible repeat (first | refine blk_drewN ?_ _ | refine blk_drew ?_ | refine blk_alloc ?_ _)); refine blk_put (cs := #[.int .i64 0, .int .i64 0, .slice none 0 0]) ?_ 0 _ rfl; (with_reducible repeat (first | refine blk_drewN ?_ _ | refine blk_drew ?_ | refine blk_alloc ?_ _)); exact BK508.out⟩, ⟨by repeat (first | (with_reducible first | exact HB.out | apply below_alloc | apply pw_below_drewN | apply below_drew1 | refine below_set ?_ GE490.out | refine below_set ?_ GE508.out) | exact HB.out)⟩⟩
        case round =>
         clear H'
         try clear c1
         try clear c2
         try clear p2
         try clear c3
         try clear c3b0
         try clear c3b1
         try clear c4
         try clear p4
         try clear q4
         try clear hx4
         try clear qi4
         try clear p5
         try clear q5
         try clear hx5
         try clear qi5
         try clear c6
         try clear p6
         try clear c7
         try clear c8
         try clear c8b0
         try clear c8b1
         try clear c15
         try clear c15b0
         try clear c15b1
         try clear c16
         try clear c16b0
         try clear c16b1
         try clear c17
         try clear c17b0
         try clear c19
         try clear c19b0
         try clear c19b1
         try clear c21
         try clear c23
         try clear c23b0
         try clear c23b1
         try clear c24
         try clear c24b0
         try clear c24b1
         try clear hcz22_0
         try clear hcz22_1
         try clear hcz22_2
         try clear hcz7_0
         try clear hcz7_1
         try clear hcz7_2
         try clear hfz22_0
         try clear hfz22_1
         try clear hfz22_2
         try clear hfz7_0
         try clear hfz7_1
         try clear hfz7_2
         try clear hx498_0
         try clear hx498_1
         try clear hx504_0
         try clear hx505_0
         try clear hx506_0
         try clear hx507_0
         try clear p2
         try clear p4
         try clear p498
         try clear p5
         try clear p504
         try clear p505
         try clear p506
         try clear p507
         try clear q4
         try clear q498
         try clear q5
         try clear q504
         try clear q505
         try clear q506
         try clear q507
         obtain ⟨x11_2, x491000_2, x491001_2, x509002_2, u509002, rfl, HA, HK2, HO_4, HO_509002, BK490, BK508, HB⟩ := hrel
         cases gk with
         | zero => exact absurd HA.out (by simp [garnerref27_Get.l0])
         | succ k2 =>
          have H := HA.out
          clear HA
          simp only [garnerref27_Get.l0] at H
          by_cases c31 : x11_2 < (wrap64 ((t491.length : Int) - 1))
          ·rw [if_pos c31] at H
           have c31b0 : decide (x11_2 < (wrap64 ((t491.length : Int) - 1))) = true := decide_eq_true c31
           clear c31
           by_cases c32 : 0 ≤ x11_2
           ·rw [if_pos c32] at H
            have c32b0 : decide (0 ≤ x11_2) = true := decide_eq_true c32
            clear c32
            by_cases c33 : x11_2 < (t491.length : Int)
            ·rw [if_pos c33] at H
             have c33b0 : decide (x11_2 < (t491.length : Int)) = true := decide_eq_true c33
             clear c33
             replace H := Option.bind_eq_some_iff.mp H
             obtain ⟨⟨t510, t511⟩, A340, H⟩ := H
             replace H : (if t511 = 0 then (some (0, 0, ([] : List (S135)), false)) else (if t510 > 64 then (some (0, 0, ([] : List (S135)), false)) else (if (wrap64 (t511 + (wrap64 (t510)))) > (((rd_T83 t491 x11_2).f1).length : Int) then (some (0, 0, ([] : List (S135)), false)) else (if 0 ≤ t511 then (if t511 ≤ (wrap64 (t511 + (wrap64 (t510)))) then (if (wrap64 (t511 + (wrap64 (t510)))) ≤ (((rd_T83 t491 x11_2).f1).length : Int) then (if 0 ≤ (wrap64 (t511 + (wrap64 (t510)))) then (if x509002_2.length < 3518437208883 then (garnerref27_Get.l0 k2 l0 t491 (wrap64 (x11_2 + 1)) (wrap64 (rd t499 0)) (wrap64 (rd t499 1)) (x509002_2 ++ [(⟨strOfNums ((((rd_T83 t491 x11_2).f1).take ((wrap64 (t511 + (wrap64 (t510)))) : Int).toNat).drop (t511 : Int).toNat), (((rd_T83 t491 x11_2).f1).drop ((wrap64 (t511 + (wrap64 (t510)))) : Int).toNat)⟩ : S135)])) else (none)) else (none)) else (none)) else (none)) else (none))))) = some (r1, r2, r3, r4) := H
             have A34 := Aside0.mk A340
             clear A340
             by_cases c35 : t511 = 0
             ·rw [if_pos c35] at H
              have c35b0 : (t511 == 0) = true := beq_iff_eq.mpr c35
              have c35b1 : (t511 != 0) = false := bne_eq_false_iff_eq.mpr c35
              clear c35
              simp only [Option.some.injEq, Prod.mk.injEq] at H
              obtain ⟨rfl, rfl, rfl, rfl⟩ := H
              have p509 : 0 ≤ (x11_2 : Int) := of_decide_eq_true pS
              have q509 : x11_2 < (t491.length : Int) := of_decide_eq_true pS
              obtain ⟨ad509, A509_1, c509_1, e509, hx509_0, hx509_1, hl509_1, hi509_1⟩ := at_T83 (Kd.N_reads' HO_4.out).2.2 x11_2 p509 q509
              obtain rfl : ad498 = ad509 := (by injection e509)
              obtain ⟨ce509, hce509, hMe509, hcc509⟩ := Kd.N_get HO_4.out z83 x11_2 p509 (by first | exact q509 | exact of_decide_eq_true pS | (have e_ := (Kd.N_reads' HO_4.out).1; omega))
              obtain ⟨ua509_1, uc509_1, rfl, ul509_1, ge509_1⟩ := k83_openF hMe509
              have hv509_1 := hcc509 1 _ rfl
              rw [add_field _ _ 1 (by omega)] at hv509_1
              replace hv509_1 := Option.some.inj (hv509_1.symm.trans hx509_1)
              injection hv509_1 with hva_ hvn_ hvc_
              rw [hva_] at ge509_1
              rw [hvc_] at ul509_1
              have HL509_1 := Aside0.mk (show Kd.V (Kd.int .u8) 5 _ w.heap.size _ _ ((rd_T83 t491 x11_2).f1) from Kd.V_mk ul509_1 ge509_1)
              clear hva_ hvn_ hvc_ ge509_1 ul509_1
              clear hcc509 hce509
              have HR509_1 := Aside0.mk hi509_1
              have HC509_1 := Aside0.mk hl509_1
              clear hi509_1 hl509_1
              replace p509 := eq_true p509
              replace q509 := eq_true q509
              go_wp2_with (first | ((with_reducible refine gate_callee (f := 72) rfl ?_); refine goesL_ (some 72) rfl rfl Try.func72 (by kernel_rfl) rfl #[.slice A509_1 ((rd_T83 t491 x11_2).f1).length c509_1] rfl pL ?_; (with_reducible refine (garnerref02_Get.calls k2 _ _ ((rd_T83 t491 x11_2).f1) t510 t511 _ ?side1 ?side2 A34.out).mono ?_); (case side1 => repeat (first | exact (by repeat (first | (with_reducible exact HR509_1.out) | (with_reducible refine Kd.C_alloc ?_ _) | (with_reducible refine Kd.C_drewN ?_ _) | (with_reducible refine Kd.C_drew ?_) | exact HR509_1.out)) | (with_reducible refine Kd.C_alloc ?_ _) | (with_reducible refine Kd.C_drewN ?_ _) | (with_reducible refine Kd.C_drew ?_))); (case side2 => exact HC509_1.out); rintro e w36 ⟨rfl, hb⟩; refine ⟨_, rfl, ?_⟩; have n0_ := Aside0.mk (Kd.N_below (pN HO_4.out) hb); have n1_ := Aside0.mk (Kd.N_below (pN HO_509002.out) hb); have n2_ := Aside0.mk (Kd.V_below (pV HL509_1.out) hb); have n3_ := Aside0.mk (blk_below (g := gb490) (o := .cells #[.int .i64 x491000_2, .int .i64 x491001_2, .slice none 0 0] 29 (0, 0)) (pK BK490.out) hb); have n4_ := Aside0.mk (blk_below (g := gb508) (o := .cells #[.int .i64 (wrap64 (rd t499 0)), .int .i64 (wrap64 (rd t499 1)), u509002] 29 (0, 0)) (pK BK508.out) hb); have n5_ := Aside0.mk (Kd.C_below (by repeat (first | (with_reducible exact HR509_1.out) | (with_reducible refine Kd.C_alloc ?_ _) | (with_reducible refine Kd.C_drewN ?_ _) | (with_reducible refine Kd.C_drew ?_) | exact HR509_1.out)) hb); have n6_ := Aside0.mk (below_step (by repeat (first | (with_reducible first | exact HB.out | apply below_alloc | apply pw_below_drewN | apply below_drew1 | refine below_set ?_ GE490.out | refine below_set ?_ GE508.out) | exact HB.out)) hb); clear HO_4 HO_509002 HL509_1 BK490 BK508 HR509_1 HB; have HO_4 := n0_; have HO_509002 := n1_; have HL509_1 := n2_; have BK490 := n3_; have BK508 := n4_; have HR509_1 := n5_; have HB := n6_; clear n0_ n1_ n2_ n3_ n4_ n5_ n6_; (try clear hb); (try clear hb2); (try clear hk); (try clear hi); have hnb37 := NB490_508.out; have hnc37 := NB508_490.out; have hcz38_0 : w36.cell? ⟨gb490, 0, none⟩ = some (.int .i64 x491000_2) := (blk_cell BK490.out 0).trans rfl; have hcz38_1 : w36.cell? ⟨gb490, 1, none⟩ = some (.int .i64 x491001_2) := (blk_cell BK490.out 1).trans rfl; have hcz38_2 : w36.cell? ⟨gb490, 2, none⟩ = some (.slice none 0 0) := (blk_cell BK490.out 2).trans rfl; have hfz38_0 := blk_frozen BK490.out 0; have hfz38_1 := blk_frozen BK490.out 1; have hfz38_2 := blk_frozen BK490.out 2))
              refine bodyPost_ret (results_ct rfl _ _ gb490 29 #[.int .i64 0, .int .i64 0, .slice none 0 0] (0, 0) _ rfl (by (with_reducible repeat (first | refine blk_drewN ?_ _ | refine blk_drew ?_ | refine blk_alloc ?_ _)); refine blk_put (cs := #[.int .i64 0, .int .i64 0, .slice none 0 0]) ?_ 2 _ rfl; (with_reducible repeat (first | refine blk_drewN ?_ _ | refine blk_drew ?_ | refine blk_alloc ?_ _)); refine blk_put (cs := #[.int .i64 0, .int .i64 x491001_2, .slice none 0 0]) ?_ 1 _ rfl; (with_reducible repeat (first | refine blk_drewN ?_ _ | refine blk_drew ?_ | refine blk_alloc ?_ _)); refine blk_put (cs := #[.int .i64 x491000_2, .int .i64 x491001_2, .slice none 0 0]) ?_ 0 _ rfl; (with_reducible repeat (first | refine blk_drewN ?_ _ | refine blk_drew ?_ | refine blk_alloc ?_ _)); exact BK490.out) Try.underlying29 rfl (by kernel_rfl)) rfl ?_
              exact ⟨_, by first | rfl | (simp [errW_none, errW_some] <;> rfl) | (simp [*, errW_none, errW_some] <;> rfl), by first | exact Kd.S_nil _ _ _ _ _ | exact Kd.N_nil _ _ _ _ _ | exact Kd.V_nil _ _ _ _ _ | exact Kd.Q_nil _ _ _ _ _ | exact Kd.R_nil _ _ _ _ _, by repeat (first | (with_reducible first | exact HB.out | apply below_alloc | apply pw_below_drewN | apply below_drew1 | refine below_set ?_ GE490.out | refine below_set ?_ GE508.out) | exact HB.out)⟩
             ·rw [if_neg c35] at H
              have c35b0 : (t511 == 0) = false := beq_eq_false_iff_ne.mpr c35
              have c35b1 : (t511 != 0) = true := bne_iff_ne.mpr c35
              by_cases c39 : t510 > 64
              ·rw [if_pos c39] at H
               have c39b0 : decide (64 < t510) = true := decide_eq_true c39
               clear c39
               simp only [Option.some.injEq, Prod.mk.injEq] at H
               obtain ⟨rfl, rfl, rfl, rfl⟩ := H
               have p509 : 0 ≤ (x11_2 : Int) := of_decide_eq_true pS
               have q509 : x11_2 < (t491.length : Int) := of_decide_eq_true pS
               obtain ⟨ad509, A509_1, c509_1, e509, hx509_0, hx509_1, hl509_1, hi509_1⟩ := at_T83 (Kd.N_reads' HO_4.out).2.2 x11_2 p509 q509
               obtain rfl : ad498 = ad509 := (by injection e509)
               obtain ⟨ce509, hce509, hMe509, hcc509⟩ := Kd.N_get HO_4.out z83 x11_2 p509 (by first | exact q509 | exact of_decide_eq_true pS | (have e_ := (Kd.N_reads' HO_4.out).1; omega))
               obtain ⟨ua509_1, uc509_1, rfl, ul509_1, ge509_1⟩ := k83_openF hMe509
               have hv509_1 := hcc509 1 _ rfl
               rw [add_field _ _ 1 (by omega)] at hv509_1
               replace hv509_1 := Option.some.inj (hv509_1.symm.trans hx509_1)
               injection hv509_1 with hva_ hvn_ hvc_
               rw [hva_] at ge509_1
               rw [hvc_] at ul509_1
               have HL509_1 := Aside0.mk (show Kd.V (Kd.int .u8) 5 _ w.heap.size _ _ ((rd_T83 t491 x11_2).f1) from Kd.V_mk ul509_1 ge509_1)
               clear hva_ hvn_ hvc_ ge509_1 ul509_1
               clear hcc509 hce509
               have HR509_1 := Aside0.mk hi509_1
               have HC509_1 := Aside0.mk hl509_1
               clear hi509_1 hl509_1
               replace p509 := eq_true p509
               replace q509 := eq_true q509
               go_wp2_with (first | ((with_reducible refine gate_callee (f := 72) rfl ?_); refine goesL_ (some 72) rfl rfl Try.func72 (by kernel_rfl) rfl #[.slice A509_1 ((rd_T83 t491 x11_2).f1).length c509_1] rfl pL ?_; (with_reducible refine (garnerref02_Get.calls k2 _ _ ((rd_T83 t491 x11_2).f1) t510 t511 _ ?side1 ?side2 A34.out).mono ?_); (case side1 => repeat (first | exact (by repeat (first | (with_reducible exact HR509_1.out) | (with_reducible refine Kd.C_alloc ?_ _) | (with_reducible refine Kd.C_drewN ?_ _) | (with_reducible refine Kd.C_drew ?_) | exact HR509_1.out)) | (with_reducible refine Kd.C_alloc ?_ _) | (with_reducible refine Kd.C_drewN ?_ _) | (with_reducible refine Kd.C_drew ?_))); (case side2 => exact HC509_1.out); rintro e w40 ⟨rfl, hb⟩; refine ⟨_, rfl, ?_⟩; have n0_ := Aside0.mk (Kd.N_below (pN HO_4.out) hb); have n1_ := Aside0.mk (Kd.N_below (pN HO_509002.out) hb); have n2_ := Aside0.mk (Kd.V_below (pV HL509_1.out) hb); have n3_ := Aside0.mk (blk_below (g := gb490) (o := .cells #[.int .i64 x491000_2, .int .i64 x491001_2, .slice none 0 0] 29 (0, 0)) (pK BK490.out) hb); have n4_ := Aside0.mk (blk_below (g := gb508) (o := .cells #[.int .i64 (wrap64 (rd t499 0)), .int .i64 (wrap64 (rd t499 1)), u509002] 29 (0, 0)) (pK BK508.out) hb); have n5_ := Aside0.mk (Kd.C_below (by repeat (first | (with_reducible exact HR509_1.out) | (with_reducible refine Kd.C_alloc ?_ _) | (with_reducible refine Kd.C_drewN ?_ _) | (with_reducible refine Kd.C_drew ?_) | exact HR509_1.out)) hb); have n6_ := Aside0.mk (below_step (by repeat (first | (with_reducible first | exact HB.out | apply below_alloc | apply pw_below_drewN | apply below_drew1 | refine below_set ?_ GE490.out | refine below_set ?_ GE508.out) | exact HB.out)) hb); clear HO_4 HO_509002 HL509_1 BK490 BK508 HR509_1 HB; have HO_4 := n0_; have HO_509002 := n1_; have HL509_1 := n2_; have BK490 := n3_; have BK508 := n4_; have HR509_1 := n5_; have HB := n6_; clear n0_ n1_ n2_ n3_ n4_ n5_ n6_; (try clear hb); (try clear hb2); (try clear hk); (try clear hi); have hnb41 := NB490_508.out; have hnc41 := NB508_490.out; have hcz42_0 : w40.cell? ⟨gb490, 0, none⟩ = some (.int .i64 x491000_2) := (blk_cell BK490.out 0).trans rfl; have hcz42_1 : w40.cell? ⟨gb490, 1, none⟩ = some (.int .i64 x491001_2) := (blk_cell BK490.out 1).trans rfl; have hcz42_2 : w40.cell? ⟨gb490, 2, none⟩ = some (.slice none 0 0) := (blk_cell BK490.out 2).trans rfl; have hfz42_0 := blk_frozen BK490.out 0; have hfz42_1 := blk_frozen BK490.out 1; have hfz42_2 := blk_frozen BK490.out 2))
               refine bodyPost_ret (results_ct rfl _ _ gb490 29 #[.int .i64 0, .int .i64 0, .slice none 0 0] (0, 0) _ rfl (by (with_reducible repeat (first | refine blk_drewN ?_ _ | refine blk_drew ?_ | refine blk_alloc ?_ _)); refine blk_put (cs := #[.int .i64 0, .int .i64 0, .slice none 0 0]) ?_ 2 _ rfl; (with_reducible repeat (first | refine blk_drewN ?_ _ | refine blk_drew ?_ | refine blk_alloc ?_ _)); refine blk_put (cs := #[.int .i64 0, .int .i64 x491001_2, .slice none 0 0]) ?_ 1 _ rfl; (with_reducible repeat (first | refine blk_drewN ?_ _ | refine blk_drew ?_ | refine blk_alloc ?_ _)); refine blk_put (cs := #[.int .i64 x491000_2, .int .i64 x491001_2, .slice none 0 0]) ?_ 0 _ rfl; (with_reducible repeat (first | refine blk_drewN ?_ _ | refine blk_drew ?_ | refine blk_alloc ?_ _)); exact BK490.out) Try.underlying29 rfl (by kernel_rfl)) rfl ?_
               exact ⟨_, by first | rfl | (simp [errW_none, errW_some] <;> rfl) | (simp [*, errW_none, errW_some] <;> rfl), by first | exact Kd.S_nil _ _ _ _ _ | exact Kd.N_nil _ _ _ _ _ | exact Kd.V_nil _ _ _ _ _ | exact Kd.Q_nil _ _ _ _ _ | exact Kd.R_nil _ _ _ _ _, by repeat (first | (with_reducible first | exact HB.out | apply below_alloc | apply pw_below_drewN | apply below_drew1 | refine below_set ?_ GE490.out | refine below_set ?_ GE508.out) | exact HB.out)⟩
              ·rw [if_neg c39] at H
               have c39b0 : decide (64 < t510) = false := decide_eq_false c39
               clear c39
               by_cases c43 : (wrap64 (t511 + (wrap64 (t510)))) > (((rd_T83 t491 x11_2).f1).length : Int)
               ·rw [if_pos c43] at H
                have c43b0 : decide ((((rd_T83 t491 x11_2).f1).length : Int) < (wrap64 (t511 + (wrap64 (t510))))) = true := decide_eq_true c43
                clear c43
                simp only [Option.some.injEq, Prod.mk.injEq] at H
                obtain ⟨rfl, rfl, rfl, rfl⟩ := H
                have p509 : 0 ≤ (x11_2 : Int) := of_decide_eq_true pS
                have q509 : x11_2 < (t491.length : Int) := of_decide_eq_true pS
                obtain ⟨ad509, A509_1, c509_1, e509, hx509_0, hx509_1, hl509_1, hi509_1⟩ := at_T83 (Kd.N_reads' HO_4.out).2.2 x11_2 p509 q509
                obtain rfl : ad498 = ad509 := (by injection e509)
                obtain ⟨ce509, hce509, hMe509, hcc509⟩ := Kd.N_get HO_4.out z83 x11_2 p509 (by first | exact q509 | exact of_decide_eq_true pS | (have e_ := (Kd.N_reads' HO_4.out).1; omega))
                obtain ⟨ua509_1, uc509_1, rfl, ul509_1, ge509_1⟩ := k83_openF hMe509
                have hv509_1 := hcc509 1 _ rfl
                rw [add_field _ _ 1 (by omega)] at hv509_1
                replace hv509_1 := Option.some.inj (hv509_1.symm.trans hx509_1)
                injection hv509_1 with hva_ hvn_ hvc_
                rw [hva_] at ge509_1
                rw [hvc_] at ul509_1
                have HL509_1 := Aside0.mk (show Kd.V (Kd.int .u8) 5 _ w.heap.size _ _ ((rd_T83 t491 x11_2).f1) from Kd.V_mk ul509_1 ge509_1)
                clear hva_ hvn_ hvc_ ge509_1 ul509_1
                clear hcc509 hce509
                have HR509_1 := Aside0.mk hi509_1
                have HC509_1 := Aside0.mk hl509_1
                clear hi509_1 hl509_1
                replace p509 := eq_true p509
                replace q509 := eq_true q509
                go_wp2_with (first | ((with_reducible refine gate_callee (f := 72) rfl ?_); refine goesL_ (some 72) rfl rfl Try.func72 (by kernel_rfl) rfl #[.slice A509_1 ((rd_T83 t491 x11_2).f1).length c509_1] rfl pL ?_; (with_reducible refine (garnerref02_Get.calls k2 _ _ ((rd_T83 t491 x11_2).f1) t510 t511 _ ?side1 ?side2 A34.out).mono ?_); (case side1 => repeat (first | exact (by repeat (first | (with_reducible exact HR509_1.out) | (with_reducible refine Kd.C_alloc ?_ _) | (with_reducible refine Kd.C_drewN ?_ _) | (with_reducible refine Kd.C_drew ?_) | exact HR509_1.out)) | (with_reducible refine Kd.C_alloc ?_ _) | (with_reducible refine Kd.C_drewN ?_ _) | (with_reducible refine Kd.C_drew ?_))); (case side2 => exact HC509_1.out); rintro e w44 ⟨rfl, hb⟩; refine ⟨_, rfl, ?_⟩; have n0_ := Aside0.mk (Kd.N_below (pN HO_4.out) hb); have n1_ := Aside0.mk (Kd.N_below (pN HO_509002.out) hb); have n2_ := Aside0.mk (Kd.V_below (pV HL509_1.out) hb); have n3_ := Aside0.mk (blk_below (g := gb490) (o := .cells #[.int .i64 x491000_2, .int .i64 x491001_2, .slice none 0 0] 29 (0, 0)) (pK BK490.out) hb); have n4_ := Aside0.mk (blk_below (g := gb508) (o := .cells #[.int .i64 (wrap64 (rd t499 0)), .int .i64 (wrap64 (rd t499 1)), u509002] 29 (0, 0)) (pK BK508.out) hb); have n5_ := Aside0.mk (Kd.C_below (by repeat (first | (with_reducible exact HR509_1.out) | (with_reducible refine Kd.C_alloc ?_ _) | (with_reducible refine Kd.C_drewN ?_ _) | (with_reducible refine Kd.C_drew ?_) | exact HR509_1.out)) hb); have n6_ := Aside0.mk (below_step (by repeat (first | (with_reducible first | exact HB.out | apply below_alloc | apply pw_below_drewN | apply below_drew1 | refine below_set ?_ GE490.out | refine below_set ?_ GE508.out) | exact HB.out)) hb); clear HO_4 HO_509002 HL509_1 BK490 BK508 HR509_1 HB; have HO_4 := n0_; have HO_509002 := n1_; have HL509_1 := n2_; have BK490 := n3_; have BK508 := n4_; have HR509_1 := n5_; have HB := n6_; clear n0_ n1_ n2_ n3_ n4_ n5_ n6_; (try clear hb); (try clear hb2); (try clear hk); (try clear hi); have hnb45 := NB490_508.out; have hnc45 := NB508_490.out; have hcz46_0 : w44.cell? ⟨gb490, 0, none⟩ = some (.int .i64 x491000_2) := (blk_cell BK490.out 0).trans rfl; have hcz46_1 : w44.cell? ⟨gb490, 1, none⟩ = some (.int .i64 x491001_2) := (blk_cell BK490.out 1).trans rfl; have hcz46_2 : w44.cell? ⟨gb490, 2, none⟩ = some (.slice none 0 0) := (blk_cell BK490.out 2).trans rfl; have hfz46_0 := blk_frozen BK490.out 0; have hfz46_1 := blk_frozen BK490.out 1; have hfz46_2 := blk_frozen BK490.out 2))
                refine bodyPost_ret (results_ct rfl _ _ gb490 29 #[.int .i64 0, .int .i64 0, .slice none 0 0] (0, 0) _ rfl (by (with_reducible repeat (first | refine blk_drewN ?_ _ | refine blk_drew ?_ | refine blk_alloc ?_ _)); refine blk_put (cs := #[.int .i64 0, .int .i64 0, .slice none 0 0]) ?_ 2 _ rfl; (with_reducible repeat (first | refine blk_drewN ?_ _ | refine blk_drew ?_ | refine blk_alloc ?_ _)); refine blk_put (cs := #[.int .i64 0, .int .i64 x491001_2, .slice none 0 0]) ?_ 1 _ rfl; (with_reducible repeat (first | refine blk_drewN ?_ _ | refine blk_drew ?_ | refine blk_alloc ?_ _)); refine blk_put (cs := #[.int .i64 x491000_2, .int .i64 x491001_2, .slice none 0 0]) ?_ 0 _ rfl; (with_reducible repeat (first | refine blk_drewN ?_ _ | refine blk_drew ?_ | refine blk_alloc ?_ _)); exact BK490.out) Try.underlying29 rfl (by kernel_rfl)) rfl ?_
                exact ⟨_, by first | rfl | (simp [errW_none, errW_some] <;> rfl) | (simp [*, errW_none, errW_some] <;> rfl), by first | exact Kd.S_nil _ _ _ _ _ | exact Kd.N_nil _ _ _ _ _ | exact Kd.V_nil _ _ _ _ _ | exact Kd.Q_nil _ _ _ _ _ | exact Kd.R_nil _ _ _ _ _, by repeat (first | (with_reducible first | exact HB.out | apply below_alloc | apply pw_below_drewN | apply below_drew1 | refine below_set ?_ GE490.out | refine below_set ?_ GE508.out) | exact HB.out)⟩
               ·rw [if_neg c43] at H
                have c43b0 : decide ((((rd_T83 t491 x11_2).f1).length : Int) < (wrap64 (t511 + (wrap64 (t510))))) = false := decide_eq_false c43
                clear c43
                by_cases c47 : 0 ≤ t511
                ·rw [if_pos c47] at H
                 have c47b0 := eq_true c47
                 have c47b1 : decide (0 ≤ t511) = true := decide_eq_true c47
                 clear c47
                 by_cases c48 : t511 ≤ (wrap64 (t511 + (wrap64 (t510))))
                 ·rw [if_pos c48] at H
                  have c48b0 := eq_true c48
                  have c48b1 : decide (t511 ≤ (wrap64 (t511 + (wrap64 (t510))))) = true := decide_eq_true c48
                  by_cases c49 : (wrap64 (t511 + (wrap64 (t510)))) ≤ (((rd_T83 t491 x11_2).f1).length : Int)
                  ·rw [if_pos c49] at H
                   have c49b0 := eq_true c49
                   have c49b1 : decide ((wrap64 (t511 + (wrap64 (t510)))) ≤ (((rd_T83 t491 x11_2).f1).length : Int)) = true := decide_eq_true c49
                   obtain ⟨y512, hy512⟩ : ∃ y_ : List Int, y_ = ((((rd_T83 t491 x11_2).f1).take ((wrap64 (t511 + (wrap64 (t510)))) : Int).toNat).drop (t511 : Int).toNat) := ⟨_, rfl⟩
                   replace H : (if 0 ≤ (wrap64 (t511 + (wrap64 (t510)))) then (if x509002_2.length < 3518437208883 then (garnerref27_Get.l0 k2 l0 t491 (wrap64 (x11_2 + 1)) (wrap64 (rd t499 0)) (wrap64 (rd t499 1)) (x509002_2 ++ [(⟨strOfNums y512, (((rd_T83 t491 x11_2).f1).drop ((wrap64 (t511 + (wrap64 (t510)))) : Int).toNat)⟩ : S135)])) else (none)) else (none)) = some (r1, r2, r3, r4) := by first | (rw [hy512]; with_reducible exact H) | (have H2_ := (Option.bind_some _ _).symm.trans H; rw [hy512]; with_reducible exact H2_) | (have H2_ := (Option.bind_some _ _).symm.trans H; with_reducible exact H2_) | with_reducible exact H | (rw [hy512]; exact H) | exact H
                   have Ny512 := Aside0.mk hy512
                   clear hy512
                   obtain ⟨ji50, hji50⟩ : ∃ j_ : Int, (wrap64 (t511 + (wrap64 (t510)))) = j_ := ⟨_, rfl⟩
                   replace H : (if 0 ≤ (ji50) then (if x509002_2.length < 3518437208883 then (garnerref27_Get.l0 k2 l0 t491 (wrap64 (x11_2 + 1)) (wrap64 (rd t499 0)) (wrap64 (rd t499 1)) (x509002_2 ++ [(⟨strOfNums y512, (((rd_T83 t491 x11_2).f1).drop ((ji50) : Int).toNat)⟩ : S135)])) else (none)) else (none)) = some (r1, r2, r3, r4) := by first | (rw [hji50] at H; exact H) | (simp only [hji50] at H ⊢; exact H)
                   (try rw [hji50] at c31b0)
                   (try rw [hji50] at c43b0)
                   (try rw [hji50] at c48b0)
                   (try rw [hji50] at c48b1)
                   (try rw [hji50] at c48)
                   (try rw [hji50] at c49b0)
                   (try rw [hji50] at c49b1)
                   (try rw [hji50] at c49)
                   (try rw [hji50] at A34)
                   (try rw [hji50] at Ny512)
                   (try rw [hji50] at Ny512)
                   have hji50w : (IntKind.i64.wrap (t511 + (wrap64 (t510)))) = ji50 := (i64_w _).trans hji50
                   by_cases c51 : 0 ≤ (ji50)
                   ·rw [if_pos c51] at H
                    have c51b0 := eq_true c51
                    have c51b1 : decide (0 ≤ (ji50)) = true := decide_eq_true c51
                    clear c51
                    have c52b0 := eq_true (of_decide_eq_true pS : (ji50) ≤ (((rd_T83 t491 x11_2).f1).length : Int))
                    obtain ⟨y517, hy517⟩ : ∃ y_ : List Int, y_ = (((rd_T83 t491 x11_2).f1).drop ((ji50) : Int).toNat) := ⟨_, rfl⟩
                    replace H : (if x509002_2.length < 3518437208883 then (garnerref27_Get.l0 k2 l0 t491 (wrap64 (x11_2 + 1)) (wrap64 (rd t499 0)) (wrap64 (rd t499 1)) (x509002_2 ++ [(⟨strOfNums y512, y517⟩ : S135)])) else (none)) = some (r1, r2, r3, r4) := by first | (rw [hy517]; with_reducible exact H) | (have H2_ := (Option.bind_some _ _).symm.trans H; rw [hy517]; with_reducible exact H2_) | (have H2_ := (Option.bind_some _ _).symm.trans H; with_reducible exact H2_) | with_reducible exact H | (rw [hy517]; exact H) | exact H
                    have Ny517 := Aside0.mk hy517
                    clear hy517
                    by_cases c53 : x509002_2.length < 3518437208883
                    ·rw [if_pos c53] at H
                     have LMc53 := Aside0.mk c53
                     clear c53
                     obtain ⟨y522, hy522⟩ : ∃ y_ : List (S135), y_ = (x509002_2 ++ [(⟨strOfNums y512, y517⟩ : S135)]) := ⟨_, rfl⟩
                     replace H : (garnerref27_Get.l0 k2 l0 t491 (wrap64 (x11_2 + 1)) (wrap64 (rd t499 0)) (wrap64 (rd t499 1)) y522) = some (r1, r2, r3, r4) := by first | (rw [hy522]; with_reducible exact H) | (have H2_ := (Option.bind_some _ _).symm.trans H; rw [hy522]; with_reducible exact H2_) | (have H2_ := (Option.bind_some _ _).symm.trans H; with_reducible exact H2_) | with_reducible exact H | (rw [hy522]; exact H) | exact H
                     have Ny522 := Aside0.mk hy522
                     clear hy522
                     have H' := Aside0.mk H
                     clear H
                     have p509 : 0 ≤ (x11_2 : Int) := of_decide_eq_true pS
                     have q509 : x11_2 < (t491.length : Int) := of_decide_eq_true pS
                     obtain ⟨ad509, A509_1, c509_1, e509, hx509_0, hx509_1, hl509_1, hi509_1⟩ := at_T83 (Kd.N_reads' HO_4.out).2.2 x11_2 p509 q509
                     obtain rfl : ad498 = ad509 := (by injection e509)
                     obtain ⟨ce509, hce509, hMe509, hcc509⟩ := Kd.N_get HO_4.out z83 x11_2 p509 (by first | exact q509 | exact of_decide_eq_true pS | (have e_ := (Kd.N_reads' HO_4.out).1; omega))
                     obtain ⟨ua509_1, uc509_1, rfl, ul509_1, ge509_1⟩ := k83_openF hMe509
                     have hv509_1 := hcc509 1 _ rfl
                     rw [add_field _ _ 1 (by omega)] at hv509_1
                     replace hv509_1 := Option.some.inj (hv509_1.symm.trans hx509_1)
                     injection hv509_1 with hva_ hvn_ hvc_
                     rw [hva_] at ge509_1
                     rw [hvc_] at ul509_1
                     have HL509_1 := Aside0.mk (show Kd.V (Kd.int .u8) 5 _ w.heap.size _ _ ((rd_T83 t491 x11_2).f1) from Kd.V_mk ul509_1 ge509_1)
                     clear hva_ hvn_ hvc_ ge509_1 ul509_1
                     clear hcc509 hce509
                     have HR509_1 := Aside0.mk hi509_1
                     have HC509_1 := Aside0.mk hl509_1
                     clear hi509_1 hl509_1
                     replace p509 := eq_true p509
                     replace q509 := eq_true q509
                     try go_wp2_with (first | ((with_reducible refine gate_callee (f := 72) rfl ?_); refine goesL_ (some 72) rfl rfl Try.func72 (by kernel_rfl) rfl #[.slice A509_1 ((rd_T83 t491 x11_2).f1).length c509_1] rfl pL ?_; (with_reducible refine (garnerref02_Get.calls k2 _ _ ((rd_T83 t491 x11_2).f1) t510 t511 _ ?side1 ?side2 A34.out).mono ?_); (case side1 => repeat (first | exact (by repeat (first | (with_reducible exact HR509_1.out) | (with_reducible refine Kd.C_alloc ?_ _) | (with_reducible refine Kd.C_drewN ?_ _) | (with_reducible refine Kd.C_drew ?_) | exact HR509_1.out)) | (with_reducible refine Kd.C_alloc ?_ _) | (with_reducible refine Kd.C_drewN ?_ _) | (with_reducible refine Kd.C_drew ?_))); (case side2 => exact HC509_1.out); rintro e w54 ⟨rfl, hb⟩; refine ⟨_, rfl, ?_⟩; have n0_ := Aside0.mk (Kd.N_below (pN HO_4.out) hb); have n1_ := Aside0.mk (Kd.N_below (pN HO_509002.out) hb); have n2_ := Aside0.mk (Kd.V_below (pV HL509_1.out) hb); have n3_ := Aside0.mk (blk_below (g := gb490) (o := .cells #[.int .i64 x491000_2, .int .i64 x491001_2, .slice none 0 0] 29 (0, 0)) (pK BK490.out) hb); have n4_ := Aside0.mk (blk_below (g := gb508) (o := .cells #[.int .i64 (wrap64 (rd t499 0)), .int .i64 (wrap64 (rd t499 1)), u509002] 29 (0, 0)) (pK BK508.out) hb); have n5_ := Aside0.mk (Kd.C_below (by repeat (first | (with_reducible exact HR509_1.out) | (with_reducible refine Kd.C_alloc ?_ _) | (with_reducible refine Kd.C_drewN ?_ _) | (with_reducible refine Kd.C_drew ?_) | exact HR509_1.out)) hb); have n6_ := Aside0.mk (below_step (by repeat (first | (with_reducible first | exact HB.out | apply below_alloc | apply pw_below_drewN | apply below_drew1 | refine below_set ?_ GE490.out | refine below_set ?_ GE508.out) | exact HB.out)) hb); clear HO_4 HO_509002 HL509_1 BK490 BK508 HR509_1 HB; have HO_4 := n0_; have HO_509002 := n1_; have HL509_1 := n2_; have BK490 := n3_; have BK508 := n4_; have HR509_1 := n5_; have HB := n6_; clear n0_ n1_ n2_ n3_ n4_ n5_ n6_; (try clear hb); (try clear hb2); (try clear hk); (try clear hi)))
                     have n0_ := Aside0.mk (Kd.N_drew HO_4.out)
                     have n1_ := Aside0.mk (Kd.N_drew HO_509002.out)
                     have n2_ := Aside0.mk (Kd.V_drew HL509_1.out)
                     have n3_ := Aside0.mk (blk_drew BK490.out)
                     have n4_ := Aside0.mk (blk_drew BK508.out)
                     have n5_ := Aside0.mk (Kd.C_drew HR509_1.out)
                     have n6_ := Aside0.mk (below_drew1 HB.out)
                     clear HO_4
                     clear HO_509002
                     clear HL509_1
                     clear BK490
                     clear BK508
                     clear HR509_1
                     clear HB
                     have HO_4 := n0_
                     have HO_509002 := n1_
                     have HL509_1 := n2_
                     have BK490 := n3_
                     have BK508 := n4_
                     have HR509_1 := n5_
                     have HB := n6_
                     clear n0_ n1_ n2_ n3_ n4_ n5_ n6_
                     have q56 : ((ji50) : Int) ≤ ((((rd_T83 t491 x11_2).f1).length : Int) : Int) := of_decide_eq_true pS
                     obtain ⟨i056, hi056, _, hsz56, _⟩ := info_parts info5
                     have hroom56 : ((rd_T83 t491 x11_2).f1).length ≤ c509_1 := HC509_1.out
                     have hC56 : Kd.F (Kd.int .u8) _ _ A509_1 ((rd_T83 t491 x11_2).f1).length ((rd_T83 t491 x11_2).f1) := (Kd.V_at (base := w.heap.size) HL509_1.out).2.2
                     have ql56 : (t511 : Int) ≤ ((ji50) : Int) := of_decide_eq_true pS
                     have q056 : (0 : Int) ≤ (t511 : Int) := of_decide_eq_true pS
                     have hcut56 := cut_mid (P := Try.prog) 22 5 .i64 .i64 Try.underlying22 hi056 1 hsz56 A509_1 ((rd_T83 t491 x11_2).f1).length c509_1 t511 (ji50) q056 ql56 q56 hroom56
                     have hr56 := Kd.F_mid (lo := (t511 : Int).toNat) (hi := ((ji50) : Int).toNat) (c := c509_1) hC56 (by omega) (by omega) hroom56
                     obtain ⟨A56, hA56⟩ : ∃ A1, A1 = (if c509_1 = (t511 : Int).toNat then A509_1 else (A509_1 : Option Addr).map (·.add ((t511 : Int).toNat * 1))) := ⟨_, rfl⟩
                     obtain ⟨c56, hc56⟩ : ∃ c1, c1 = c509_1 - (t511 : Int).toNat := ⟨_, rfl⟩
                     have hy56 : y512.length = ((ji50) : Int).toNat - (t511 : Int).toNat := (by rw [Ny512.out, List.length_drop, List.length_take] <;> omega)
                     rw [show (((rd_T83 t491 x11_2).f1).take ((ji50) : Int).toNat).drop (t511 : Int).toNat = y512 from Ny512.out.symm] at hr56
                     replace hr56 : Kd.F (Kd.int .u8) _ _ A56 y512.length y512 := (by rw [hA56]; exact hr56)
                     rw [← hy56, ← hA56, ← hc56] at hcut56
                     have HO516 := Aside0.mk (show Kd.V (Kd.int .u8) 5 _ w.heap.size _ (.slice A56 y512.length c56) y512 from Kd.V_mk (by rw [hy56, hc56]; exact Nat.sub_le_sub_right (Nat.le_trans (by omega) hroom56) _) hr56)
                     have HC516 := Aside0.mk (show y512.length ≤ c56 from by rw [hy56, hc56]; exact Nat.sub_le_sub_right (Nat.le_trans (by omega) hroom56) _)
                     clear hr56 hC56 hroom56 hi056 hsz56 hc56
                     have KY56 := Aside0.mk hy56
                     have KA56 := Aside0.mk hA56
                     clear hy56 hA56
                     replace q56 := eq_true q56
                     have q57 : ((ji50) : Int) ≤ ((((rd_T83 t491 x11_2).f1).length : Int) : Int) := of_decide_eq_true pS
                     obtain ⟨i057, hi057, _, hsz57, _⟩ := info_parts info5
                     have hroom57 : ((rd_T83 t491 x11_2).f1).length ≤ c509_1 := HC509_1.out
                     have hC57 : Kd.F (Kd.int .u8) _ _ A509_1 ((rd_T83 t491 x11_2).f1).length ((rd_T83 t491 x11_2).f1) := (Kd.V_at (base := w.heap.size) HL509_1.out).2.2
                     have q057 : (0 : Int) ≤ ((ji50) : Int) := of_decide_eq_true pS
                     have hcut57 := cut_from (P := Try.prog) 22 5 .i64 Try.underlying22 hi057 1 hsz57 A509_1 ((rd_T83 t491 x11_2).f1).length c509_1 (ji50) q057 q57
                     have hr57 := Kd.F_cut (m := ((ji50) : Int).toNat) (c := c509_1) hC57 (by omega) hroom57
                     obtain ⟨A57, hA57⟩ : ∃ A1, A1 = (if c509_1 = ((ji50) : Int).toNat then A509_1 else (A509_1 : Option Addr).map (·.add (((ji50) : Int).toNat * 1))) := ⟨_, rfl⟩
                     obtain ⟨c57, hc57⟩ : ∃ c1, c1 = c509_1 - ((ji50) : Int).toNat := ⟨_, rfl⟩
                     have hy57 : y517.length = ((rd_T83 t491 x11_2).f1).length - ((ji50) : Int).toNat := (by rw [Ny517.out, List.length_drop] <;> omega)
                     rw [show ((rd_T83 t491 x11_2).f1).drop ((ji50) : Int).toNat = y517 from Ny517.out.symm] at hr57
                     replace hr57 : Kd.F (Kd.int .u8) _ _ A57 y517.length y517 := (by rw [hA57]; exact hr57)
                     rw [← hy57, ← hA57, ← hc57] at hcut57
                     have HO521 := Aside0.mk (show Kd.V (Kd.int .u8) 5 _ w.heap.size _ (.slice A57 y517.length c57) y517 from Kd.V_mk (by rw [hy57, hc57]; exact Nat.sub_le_sub_right hroom57 _) hr57)
                     have HC521 := Aside0.mk (show y517.length ≤ c57 from by rw [hy57, hc57]; exact Nat.sub_le_sub_right hroom57 _)
                     clear hr57 hC57 hroom57 hi057 hsz57 hc57
                     have KY57 := Aside0.mk hy57
                     have KA57 := Aside0.mk hA57
                     clear hy57 hA57
                     replace q57 := eq_true q57
                     refine start_ (n := 21) (S := fun w' => w'.cell? ⟨gb508, 0, none⟩ = some (.int .i64 (wrap64 (rd t499 0))) ∧ w'.cell? ⟨gb508, 1, none⟩ = some (.int .i64 (wrap64 (rd t499 1))) ∧ w'.cell? ⟨gb508, 2, none⟩ = some (u509002)) (ds := [20]) #[false, false, false, false, false, false, false, false, false, false, false, false, false, false, false, false, false, false, false, false, false] (by kernel_rfl) rfl rfl ⟨(blk_cell BK508.out 0).trans rfl, (blk_cell BK508.out 1).trans rfl, (blk_cell BK508.out 2).trans rfl⟩ (fun hHeld => ?_); refine with_tabW garnerref27_Get.tab15 garnerref27_Get.bits15 (fun HT_ HW_ => ?_)
                     generalize w54.drew = w55 at HO_4 HO_509002 HL509_1 BK490 BK508 HR509_1 HB HO516 HO521 hHeld ⊢
                     refine pure_ (i := 0) (N := some 91) (v := ?_) (a' := ?_) #[true, false, false, false, false, false, false, false, false, false, false, false, false, false, false, false, false, false, false, false, false] rfl rfl (any_of HT_.out (by kernel_rfl)) (fun _ _ _ h => h) (Or.inl ⟨by rfl, ?_⟩) ?_ ?_
                     rotate_left
                     ·intro w'
                      go_simp
                      with_reducible rfl
                     rotate_left
                     ·simp only [Act.put, List.setIfInBounds_toArray, List.set_cons_zero, List.set_cons_succ, i64_w, i32_w]
                      rfl
                     refine pure_ (i := 2) (N := some 93) (v := ?_) (a' := ?_) #[true, false, true, false, false, false, false, false, false, false, false, false, false, false, false, false, false, false, false, false, false] rfl rfl (any_of HT_.out (by kernel_rfl)) (fun _ _ _ h => h) (Or.inl ⟨by rfl, ?_⟩) ?_ ?_
                     rotate_left
                     ·intro w'
                      go_simp
                      with_reducible rfl
                     rotate_left
                     ·simp only [Act.put, List.setIfInBounds_toArray, List.set_cons_zero, List.set_cons_succ, i64_w, i32_w]
                      rfl
                     refine pure_ (i := 3) (N := some 94) (v := ?_) (a' := ?_) #[true, false, true, true, false, false, false, false, false, false, false, false, false, false, false, false, false, false, false, false, false] rfl rfl (any_of HT_.out (by kernel_rfl)) (fun _ _ _ h => h) (Or.inl ⟨by rfl, ?_⟩) ?_ ?_
                     rotate_left
                     ·intro w'
                      go_simp
                      with_reducible rfl
                     rotate_left
                     ·simp only [Act.put, List.setIfInBounds_toArray, List.set_cons_zero, List.set_cons_succ, i64_w, i32_w]
                      rfl
                     refine pure_ (i := 4) (N := some 95) (v := ?_) (a' := ?_) #[true, false, true, true, true, false, false, false, false, false, false, false, false, false, false, false, false, false, false, false, false] rfl rfl (any_of HT_.out (by kernel_rfl)) (fun _ _ _ h => h) (Or.inl ⟨by rfl, ?_⟩) ?_ ?_
                     rotate_left
                     ·intro w'
                      go_simp
                      with_reducible rfl
                     rotate_left
                     ·simp only [Act.put, List.setIfInBounds_toArray, List.set_cons_zero, List.set_cons_succ, i64_w, i32_w]
                      rfl
                     refine pure_ (i := 5) (N := some 96) (v := ?_) (a' := ?_) #[true, false, true, true, true, true, false, false, false, false, false, false, false, false, false, false, false, false, false, false, false] rfl rfl (any_of HT_.out (by kernel_rfl)) (fun _ _ _ h => h) (Or.inl ⟨by rfl, ?_⟩) ?_ ?_
                     rotate_left
                     ·intro w'
                      go_simp
                      with_reducible rfl
                     rotate_left
                     ·simp only [Act.put, List.setIfInBounds_toArray, List.set_cons_zero, List.set_cons_succ, i64_w, i32_w]
                      rfl
                     refine pure_ (i := 6) (N := some 97) (v := ?_) (a' := ?_) #[true, false, true, true, true, true, true, false, false, false, false, false, false, false, false, false, false, false, false, false, false] rfl rfl (any_of HT_.out (by kernel_rfl)) (fun _ _ _ h => h) (Or.inl ⟨by rfl, ?_⟩) ?_ ?_
                     rotate_left
                     ·intro w'
                      go_simp
                      with_reducible rfl
                     rotate_left
                     ·simp only [Act.put, List.setIfInBounds_toArray, List.set_cons_zero, List.set_cons_succ, i64_w, i32_w]
                      rfl
                     refine pure_ (i := 7) (N := some 98) (v := ?_) (a' := ?_) #[true, false, true, true, true, true, true, true, false, false, false, false, false, false, false, false, false, false, false, false, false] rfl rfl (any_of HT_.out (by kernel_rfl)) (fun _ _ _ h => h) (Or.inl ⟨by rfl, ?_⟩) ?_ ?_
                     rotate_left
                     ·intro w'
                      go_simp
                      with_reducible rfl
                     rotate_left
                     ·simp only [Act.put, List.setIfInBounds_toArray, List.set_cons_zero, List.set_cons_succ, i64_w, i32_w]
                      rfl
                     refine pure_ (i := 8) (N := some 99) (v := ?_) (a' := ?_) #[true, false, true, true, true, true, true, true, true, false, false, false, false, false, false, false, false, false, false, false, false] rfl rfl (any_of HT_.out (by kernel_rfl)) (fun _ _ _ h => h) (Or.inl ⟨by rfl, ?_⟩) ?_ ?_
                     rotate_left
                     ·intro w'
                      go_simp
                      with_reducible rfl
                     rotate_left
                     ·simp only [Act.put, List.setIfInBounds_toArray, List.set_cons_zero, List.set_cons_succ, i64_w, i32_w]
                      rfl
                     refine pure_ (i := 10) (N := some 101) (v := ?_) (a' := ?_) #[true, false, true, true, true, true, true, true, true, false, true, false, false, false, false, false, false, false, false, false, false] rfl rfl (any_of HT_.out (by kernel_rfl)) (fun _ _ _ h => h) (Or.inl ⟨by rfl, ?_⟩) ?_ ?_
                     rotate_left
                     ·intro w'
                      go_simp
                      with_reducible rfl
                     rotate_left
                     ·simp only [Act.put, List.setIfInBounds_toArray, List.set_cons_zero, List.set_cons_succ, i64_w, i32_w]
                      rfl
                     refine pure_ (i := 11) (N := some 102) (v := ?_) (a' := ?_) #[true, false, true, true, true, true, true, true, true, false, true, true, false, false, false, false, false, false, false, false, false] rfl rfl (any_of HT_.out (by kernel_rfl)) (fun _ _ _ h => h) (Or.inl ⟨by rfl, ?_⟩) ?_ ?_
                     rotate_left
                     ·intro w'
                      go_simp
                      with_reducible rfl
                     rotate_left
                     ·simp only [Act.put, List.setIfInBounds_toArray, List.set_cons_zero, List.set_cons_succ, i64_w, i32_w]
                      rfl
                     refine pure_ (i := 12) (N := some 103) (v := ?_) (a' := ?_) #[true, false, true, true, true, true, true, true, true, false, true, true, true, false, false, false, false, false, false, false, false] rfl rfl (any_of HT_.out (by kernel_rfl)) (fun _ _ _ h => h) (Or.inl ⟨by rfl, ?_⟩) ?_ ?_
                     rotate_left
                     ·intro w'
                      go_simp
                      with_reducible rfl
                     rotate_left
                     ·simp only [Act.put, List.setIfInBounds_toArray, List.set_cons_zero, List.set_cons_succ, i64_w, i32_w]
                      rfl
                     refine pure_ (i := 13) (N := some 104) (v := ?_) (a' := ?_) #[true, false, true, true, true, true, true, true, true, false, true, true, true, true, false, false, false, false, false, false, false] rfl rfl (any_of HT_.out (by kernel_rfl)) (fun _ _ _ h => h) (Or.inl ⟨by rfl, ?_⟩) ?_ ?_
                     rotate_left
                     ·intro w'
                      go_simp
                      with_reducible rfl
                     rotate_left
                     ·simp only [Act.put, List.setIfInBounds_toArray, List.set_cons_zero, List.set_cons_succ, i64_w, i32_w]
                      rfl
                     refine pure_ (i := 14) (N := some 105) (v := ?_) (a' := ?_) #[true, false, true, true, true, true, true, true, true, false, true, true, true, true, true, false, false, false, false, false, false] rfl rfl (any_of HT_.out (by kernel_rfl)) (fun _ _ _ h => h) (Or.inl ⟨by rfl, ?_⟩) ?_ ?_
                     rotate_left
                     ·intro w'
                      go_simp
                      with_reducible rfl
                     rotate_left
                     ·simp only [Act.put, List.setIfInBounds_toArray, List.set_cons_zero, List.set_cons_succ, i64_w, i32_w]
                      rfl
                     refine pure_ (i := 15) (N := some 106) (v := ?_) (a' := ?_) #[true, false, true, true, true, true, true, true, true, false, true, true, true, true, true, true, false, false, false, false, false] rfl rfl (any_of HT_.out (by kernel_rfl)) (fun _ _ _ h => h) (Or.inl ⟨by rfl, ?_⟩) ?_ ?_
                     rotate_left
                     ·intro w'
                      go_simp
                      with_reducible rfl
                     rotate_left
                     ·simp only [Act.put, List.setIfInBounds_toArray, List.set_cons_zero, List.set_cons_succ, i64_w, i32_w]
                      rfl
                     refine take_ (i := 1) (N := some 92) (v := ?_) (a' := ?_) #[true, true, true, true, true, true, true, true, true, false, true, true, true, true, true, true, false, false, false, false, false] rfl rfl (take_ofW HT_.out HW_.out (by kernel_rfl)) (fun _ _ _ h => h) (Or.inl ⟨by rfl, ?_⟩) hHeld ?_ ?_
                     rotate_left
                     ·rintro w' ⟨s0, s1, s2⟩
                      go_simp
                      with_reducible rfl
                     rotate_left
                     ·simp only [Act.put, List.setIfInBounds_toArray, List.set_cons_zero, List.set_cons_succ, i64_w, i32_w]
                      rfl
                     refine one_ (i := 9) (N := some 100) #[true, true, true, true, true, true, true, true, true, true, true, true, true, true, true, true, false, false, false, false, false] rfl rfl (one_of HT_.out (by kernel_rfl)) (by decide) (fun K hK => ?_)
                     have hcv58 := Kd.C_string (P := Try.prog) (c := c56) Try.underlying22 Try.underlying5 Try.underlying9 (Kd.V_reads' HO516.out).2.2
                     refine value_ (w1 := ?_) (v := ?_) (by rfl) rfl ?_ ?_
                     rotate_left 2
                     ·go_simp
                      constructor
                      ·rfl
                      ·rfl
                     clear hcv58
                     refine hK.out _ _ ⟨(blk_cell BK508.out 0).trans rfl, (blk_cell BK508.out 1).trans rfl, (blk_cell BK508.out 2).trans rfl⟩ (fun hHeld => ?_)
                     clear hK K
                     refine norm_ (a' := ?_) ?_ ?_
                     rotate_left
                     ·show Act.put _ (some 100) _ = _
                      simp only [Act.put, List.setIfInBounds_toArray, List.set_cons_zero, List.set_cons_succ, i64_w, i32_w]
                      rfl
                     refine pure_ (i := 16) (N := some 107) (v := ?_) (a' := ?_) #[true, true, true, true, true, true, true, true, true, true, true, true, true, true, true, true, true, false, false, false, false] rfl rfl (any_of HT_.out (by kernel_rfl)) (fun _ _ _ h => h) (Or.inl ⟨by rfl, ?_⟩) ?_ ?_
                     rotate_left
                     ·intro w'
                      go_simp
                      with_reducible rfl
                     rotate_left
                     ·simp only [Act.put, List.setIfInBounds_toArray, List.set_cons_zero, List.set_cons_succ, i64_w, i32_w]
                      rfl
                     refine one_ (i := 17) (N := some 108) #[true, true, true, true, true, true, true, true, true, true, true, true, true, true, true, true, true, true, false, false, false] rfl rfl (one_of HT_.out (by kernel_rfl)) (by decide) (fun K hK => ?_)
                     refine value_ (w1 := ?_) (v := ?_) (by rfl) rfl ?_ ?_
                     rotate_left 2
                     ·go_simp
                      constructor
                      ·rfl
                      ·rfl
                     refine hK.out _ _ ⟨(blk_cell (blk_alloc BK508.out _) 0).trans rfl, (blk_cell (blk_alloc BK508.out _) 1).trans rfl, (blk_cell (blk_alloc BK508.out _) 2).trans rfl⟩ (fun hHeld => ?_)
                     clear hK K
                     refine norm_ (a' := ?_) ?_ ?_
                     rotate_left
                     ·show Act.put _ (some 108) _ = _
                      simp only [Act.put, List.setIfInBounds_toArray, List.set_cons_zero, List.set_cons_succ, i64_w, i32_w]
                      rfl
                     refine one_ (i := 18) (N := some 109) #[true, true, true, true, true, true, true, true, true, true, true, true, true, true, true, true, true, true, true, false, false] rfl rfl (one_of HT_.out (by kernel_rfl)) (by decide) (fun K hK => ?_)
                     refine Kd.N_append_step k135 (w0 := w) w.heap.size (by rfl) (.tmp 92) (.tmp 108) 24 135 (.agg #[(.string ⟨#[]⟩), (.slice none 0 0)]) 40 rfl Try.underlying24 info135 rfl (by decide) (by omega) u509002 x509002_2 (⟨strOfNums y512, y517⟩ : S135) [.string (strOfNums y512), .slice A57 y517.length c57] (fun k_ => (w.heap.size ≤ k_) ∧ some k_ ≠ (.slice (some ad498) t491.length co13 : Value).ownBlock ∧ k_ ≠ gb490 ∧ k_ ≠ gb508) (fun k_ => ((fun k_ => (w.heap.size ≤ k_) ∧ some k_ ≠ (.slice (some ad498) t491.length co13 : Value).ownBlock ∧ k_ ≠ gb490 ∧ k_ ≠ gb508)) k_ ∧ some k_ ≠ (u509002 : Value).ownBlock) rfl rfl ?aP (fun _ hk => hk) ?aF ?aO ?aB ?aS ?aL ?_
                     (case aP => exact (k135_mkF _ _ (⟨strOfNums y512, y517⟩ : S135) (Kd.V_reads' (Kd.V_mono (ok' := (fun k_ => ((fun k_ => (w.heap.size ≤ k_) ∧ some k_ ≠ (.slice (some ad498) t491.length co13 : Value).ownBlock ∧ k_ ≠ gb490 ∧ k_ ≠ gb508)) k_ ∧ some k_ ≠ (u509002 : Value).ownBlock)) (HO521.out) (fun k_ hk => ⟨⟨hk.1.1, ⟨hk.2, ⟨hk.1.2.2.1, hk.1.2.2.2⟩⟩⟩, hk.1.2.1⟩))).2.1 (Kd.V_F (Kd.V_mono (ok' := (fun k_ => ((fun k_ => (w.heap.size ≤ k_) ∧ some k_ ≠ (.slice (some ad498) t491.length co13 : Value).ownBlock ∧ k_ ≠ gb490 ∧ k_ ≠ gb508)) k_ ∧ some k_ ≠ (u509002 : Value).ownBlock)) (HO521.out) (fun k_ hk => ⟨⟨hk.1.1, ⟨hk.2, ⟨hk.1.2.2.1, hk.1.2.2.2⟩⟩⟩, hk.1.2.1⟩)))))
                     (case aB => exact (by repeat (first | (with_reducible first | exact HB.out | apply below_alloc | apply pw_below_drewN | apply below_drew1 | refine below_set ?_ GE490.out | refine below_set ?_ GE508.out) | exact HB.out)))
                     (case aF => exact (fun k_ hk => ⟨(Nat.le_trans (below_size (by repeat (first | (with_reducible first | exact HB.out | apply below_alloc | apply pw_below_drewN | apply below_drew1 | refine below_set ?_ GE490.out | refine below_set ?_ GE508.out) | exact HB.out))) hk), Kd.fresh' (Kd.N_lt (pN HO_4.out)) k_ hk, Kd.freshB (g := gb490) (o := .cells #[.int .i64 x491000_2, .int .i64 x491001_2, .slice none 0 0] 29 (0, 0)) (pK BK490.out) k_ hk, Kd.freshB (g := gb508) (o := .cells #[.int .i64 (wrap64 (rd t499 0)), .int .i64 (wrap64 (rd t499 1)), u509002] 29 (0, 0)) (pK BK508.out) k_ hk⟩))
                     (case aO => exact (pN HO_509002.out))
                     (case aS => exact (below_size (by repeat (first | (with_reducible first | exact HB.out | apply below_alloc | apply pw_below_drewN | apply below_drew1 | refine below_set ?_ GE490.out | refine below_set ?_ GE508.out) | exact HB.out))))
                     (case aL => have := LMc53.out; omega)
                     intro v523 w59 ho hb hg hat
                     rw [← Ny522.out] at ho
                     have n0_ := Aside0.mk (Kd.N_afterv (ok := (fun k_ => (w.heap.size ≤ k_) ∧ k_ ≠ gb490 ∧ k_ ≠ gb508)) (by (with_reducible repeat (first | apply Kd.N_alloc | apply Kd.N_drewN | apply Kd.N_drew)); exact Kd.N_mono HO_4.out (fun _ hk => ⟨⟨hk.1, ⟨hk.2.2.1, hk.2.2.2⟩⟩, hk.2.1⟩)) hg hat)
                     have n1_ := Aside0.mk (blk_grown (g := gb490) (o := .cells #[.int .i64 x491000_2, .int .i64 x491001_2, .slice none 0 0] 29 (0, 0)) (pK BK490.out) hg (Kd.N_ne HO_509002.out BK490.out (by decide)))
                     have n2_ := Aside0.mk (blk_grown (g := gb508) (o := .cells #[.int .i64 (wrap64 (rd t499 0)), .int .i64 (wrap64 (rd t499 1)), u509002] 29 (0, 0)) (pK BK508.out) hg (Kd.N_ne HO_509002.out BK508.out (by decide)))
                     have n3_ := Aside0.mk (Kd.V_afterv (ok := (fun k_ => (w.heap.size ≤ k_) ∧ some k_ ≠ (.slice (some ad498) t491.length co13 : Value).ownBlock ∧ k_ ≠ gb490 ∧ k_ ≠ gb508)) (by (with_reducible repeat (first | apply Kd.V_alloc | apply Kd.V_drewN | apply Kd.V_drew)); exact Kd.V_mono HL509_1.out (fun _ hk => ⟨⟨hk.1.1, ⟨hk.2, ⟨hk.1.2.2.1, hk.1.2.2.2⟩⟩⟩, hk.1.2.1⟩)) hg hat)
                     have n4_ := Aside0.mk (Kd.V_afterv (ok := (fun k_ => (w.heap.size ≤ k_) ∧ some k_ ≠ (.slice (some ad498) t491.length co13 : Value).ownBlock ∧ k_ ≠ gb490 ∧ k_ ≠ gb508)) (by (with_reducible repeat (first | apply Kd.V_alloc | apply Kd.V_drewN | apply Kd.V_drew)); exact Kd.V_mono HO516.out (fun _ hk => ⟨⟨hk.1.1, ⟨hk.2, ⟨hk.1.2.2.1, hk.1.2.2.2⟩⟩⟩, hk.1.2.1⟩)) hg hat)
                     have n5_ := Aside0.mk (Kd.V_afterv (ok := (fun k_ => (w.heap.size ≤ k_) ∧ some k_ ≠ (.slice (some ad498) t491.length co13 : Value).ownBlock ∧ k_ ≠ gb490 ∧ k_ ≠ gb508)) (by (with_reducible repeat (first | apply Kd.V_alloc | apply Kd.V_drewN | apply Kd.V_drew)); exact Kd.V_mono HO521.out (fun _ hk => ⟨⟨hk.1.1, ⟨hk.2, ⟨hk.1.2.2.1, hk.1.2.2.2⟩⟩⟩, hk.1.2.1⟩)) hg hat)
                     have n6_ := Aside0.mk (hb)
                     have n7_ := Aside0.mk (ho)
                     clear HO_4
                     clear BK490
                     clear BK508
                     clear HL509_1
                     clear HO516
                     clear HO521
                     clear HB
                     clear HO_509002
                     have HO_4 := n0_
                     have BK490 := n1_
                     have BK508 := n2_
                     have HL509_1 := n3_
                     have HO516 := n4_
                     have HO521 := n5_
                     have HB := n6_
                     have HO524 := n7_
                     clear n0_ n1_ n2_ n3_ n4_ n5_ n6_ n7_
                     clear ho hb hg hat
                     obtain ⟨Ao60, co60, eo60⟩ := Kd.N_slice HO524.out
                     (first | subst eo60 | (injection eo60 with f1_ f2_ f3_; have f4_ := f1_.symm; have f5_ := f3_.symm; clear f1_ f2_ f3_; subst f4_; subst f5_))
                     refine hK.out _ _ ⟨(blk_cell BK508.out 0).trans rfl, (blk_cell BK508.out 1).trans rfl, (blk_cell BK508.out 2).trans rfl⟩ (fun hHeld => ?_)
                     clear hK K
                     refine norm_ (a' := ?_) ?_ ?_
                     rotate_left
                     ·show Act.put _ (some 109) _ = _
                      simp only [Act.put, List.setIfInBounds_toArray, List.set_cons_zero, List.set_cons_succ, i64_w, i32_w]
                      rfl
                     refine pure_ (i := 19) (N := some 110) (v := ?_) (a' := ?_) #[true, true, true, true, true, true, true, true, true, true, true, true, true, true, true, true, true, true, true, true, false] rfl rfl (any_of HT_.out (by kernel_rfl)) (fun _ _ _ h => h) (Or.inl ⟨by rfl, ?_⟩) ?_ ?_
                     rotate_left
                     ·intro w'
                      go_simp
                      with_reducible rfl
                     rotate_left
                     ·simp only [Act.put, List.setIfInBounds_toArray, List.set_cons_zero, List.set_cons_succ, i64_w, i32_w]
                      rfl
                     refine last_ (i := 20) (N := none) #[true, true, true, true, true, true, true, true, true, true, true, true, true, true, true, true, true, true, true, true, true] rfl rfl (one_of HT_.out (by kernel_rfl)) (by decide) (fun K hK => ?_)
                     have hs61 : w59.cell? ⟨gb508, 2, none⟩ = some (u509002) := (blk_cell BK508.out 2).trans rfl
                     have hfs61 := blk_frozen BK508.out 2
                     have hns61_0 := NB490_508.out
                     have hms61_0 := NB508_490.out
                     refine skip_ (w1 := ?_) (by rfl) rfl ?_ ?_
                     rotate_left
                     ·go_simp
                      rfl
                     refine hK.out _ _ ?_
                     clear hK K
                     refine done_ (done_of HT_.out (by kernel_rfl)) ?_
                     try go_wp2
                     go_roundg k2
                     case measure => have := HJ9.out; have := HK2.out; omega
                     case rel => exact ⟨(wrap64 (x11_2 + 1)), (x491000_2), (x491001_2), (y522), (.slice Ao60 y522.length co60), (by first | rfl | (simp; done) | (simp [*]; done)), H', ⟨by have := HJ9.out; have := HK2.out; omega⟩, ⟨by (with_reducible repeat (first | apply Kd.N_alloc | apply Kd.N_drewN | apply Kd.N_drew)); exact Kd.N_mono (Kd.N_far (p := ⟨gb508, 2, none⟩) (Kd.N_mono HO_4.out (fun k_ hk => (⟨hk, hk.1.2.2⟩ : _ ∧ k_ ≠ gb508))) (fun _ hk => hk.2) (.slice Ao60 y522.length co60)) (fun _ hk => ⟨hk.1.1.1, ⟨hk.1.2, ⟨hk.1.1.2.1, hk.1.1.2.2⟩⟩⟩)⟩, ⟨by (with_reducible repeat (first | apply Kd.N_alloc | apply Kd.N_drewN | apply Kd.N_drew)); exact Kd.N_mono (Kd.N_far (p := ⟨gb508, 2, none⟩) (Kd.N_mono HO524.out (fun k_ hk => (⟨hk, hk.2.2.2⟩ : _ ∧ k_ ≠ gb508))) (fun _ hk => hk.2) (.slice Ao60 y522.length co60)) (fun _ hk => ⟨hk.1.1, ⟨hk.1.2.1, ⟨hk.1.2.2.1, hk.1.2.2.2⟩⟩⟩)⟩, ⟨by (with_reducible repeat (first | refine blk_drewN ?_ _ | refine blk_drew ?_ | refine blk_alloc ?_ _)); refine blk_far ?_ NB490_508.out _; (with_reducible repeat (first | refine blk_drewN ?_ _ | refine blk_drew ?_ | refine blk_alloc ?_ _)); exact BK490.out⟩, ⟨by (with_reducible repeat (first | refine blk_drewN ?_ _ | refine blk_drew ?_ | refine blk_alloc ?_ _)); refine blk_put (cs := #[.int .i64 (wrap64 (rd t499 0)), .int .i64 (wrap64 (rd t499 1)), u509002]) ?_ 2 _ rfl; (with_reducible repeat (first | refine blk_drewN ?_ _ | refine blk_drew ?_ | refine blk_alloc ?_ _)); exact BK508.out⟩, ⟨by repeat (first | (with_reducible first | exact HB.out | apply below_alloc | apply pw_below_drewN | apply below_drew1 | refine below_set ?_ GE490.out | refine below_set ?_ GE508.out) | exact HB.out)⟩⟩
                    ·rw [if_neg c53] at H
                     exact absurd H (by simp)
                   ·rw [if_neg c51] at H
                    exact absurd H (by simp)
                  ·rw [if_neg c49] at H
                   exact absurd H (by simp)
                 ·rw [if_neg c48] at H
                  exact absurd H (by simp)
                ·rw [if_neg c47] at H
                 exact absurd H (by simp)
            ·rw [if_neg c33] at H
             exact absurd H (by simp)
           ·rw [if_neg c32] at H
            exact absurd H (by simp)
          ·rw [if_neg c31] at H
           have c31b0 : decide (x11_2 < (wrap64 ((t491.length : Int) - 1))) = false := decide_eq_false c31
           clear c31
           replace H := Option.bind_eq_some_iff.mp H
           obtain ⟨t525, A620, H⟩ := H
           replace H : (if t525 = true then ((garnerref27_Put.f k2 (wrap64 (rd t499 0)) (wrap64 (rd t499 1)) x509002_2).bind fun t526 => ((garnerref02_Bytes.f k2 t526 l0).bind fun t529 => (if t529 = true then (some ((wrap64 (rd t499 0)), (wrap64 (rd t499 1)), x509002_2, true)) else (some (0, 0, ([] : List (S135)), false))))) else (some (0, 0, ([] : List (S135)), false))) = some (r1, r2, r3, r4) := H
           have A62 := Aside0.mk A620
           clear A620
           by_cases c63 : t525 = true
           ·subst c63
            have H1 : ((garnerref27_Put.f k2 (wrap64 (rd t499 0)) (wrap64 (rd t499 1)) x509002_2).bind fun t526 => ((garnerref02_Bytes.f k2 t526 l0).bind fun t529 => (if t529 = true then (some ((wrap64 (rd t499 0)), (wrap64 (rd t499 1)), x509002_2, true)) else (some (0, 0, ([] : List (S135)), false))))) = some (r1, r2, r3, r4) := by rw [if_pos rfl] at H; exact H
            clear H
            have H := H1
            clear H1
            replace H := Option.bind_eq_some_iff.mp H
            obtain ⟨t526, A640, H⟩ := H
            replace H : ((garnerref02_Bytes.f k2 t526 l0).bind fun t529 => (if t529 = true then (some ((wrap64 (rd t499 0)), (wrap64 (rd t499 1)), x509002_2, true)) else (some (0, 0, ([] : List (S135)), false)))) = some (r1, r2, r3, r4) := H
            have A64 := Aside0.mk A640
            clear A640
            replace H := Option.bind_eq_some_iff.mp H
            obtain ⟨t529, A650, H⟩ := H
            replace H : (if t529 = true then (some ((wrap64 (rd t499 0)), (wrap64 (rd t499 1)), x509002_2, true)) else (some (0, 0, ([] : List (S135)), false))) = some (r1, r2, r3, r4) := H
            have A65 := Aside0.mk A650
            clear A650
            by_cases c66 : t529 = true
            ·subst c66
             have H1 : (some ((wrap64 (rd t499 0)), (wrap64 (rd t499 1)), x509002_2, true)) = some (r1, r2, r3, r4) := by rw [if_pos rfl] at H; exact H
             clear H
             have H := H1
             clear H1
             simp only [Option.some.injEq, Prod.mk.injEq] at H
             obtain ⟨rfl, rfl, rfl, rfl⟩ := H
             have hnb67 := NB508_490.out
             have hnc67 := NB490_508.out
             have hcz68_0 : wr.cell? ⟨gb508, 0, none⟩ = some (.int .i64 (wrap64 (rd t499 0))) := (blk_cell BK508.out 0).trans rfl
             have hcz68_1 : wr.cell? ⟨gb508, 1, none⟩ = some (.int .i64 (wrap64 (rd t499 1))) := (blk_cell BK508.out 1).trans rfl
             have hcz68_2 : wr.cell? ⟨gb508, 2, none⟩ = some (u509002) := (blk_cell BK508.out 2).trans rfl
             have hfz68_0 := blk_frozen BK508.out 0
             have hfz68_1 := blk_frozen BK508.out 1
             have hfz68_2 := blk_frozen BK508.out 2
             obtain ⟨Ao69, co69, eo69⟩ := Kd.N_slice HO_509002.out
             subst eo69
             go_wp2_with (first | ((with_reducible refine gate_callee (f := 20) rfl ?_); refine goesL_ (some 112) rfl rfl Try.func20 (by kernel_rfl) rfl #[.agg #[.int .i64 (wrap64 (rd t499 0)), .int .i64 (wrap64 (rd t499 1)), .slice Ao69 x509002_2.length co69]] rfl pL ?_; (with_reducible refine (garnerref27_May.calls k2 (wrap64 (rd t499 0)) (wrap64 (rd t499 1)) _ _ x509002_2 true _ ?side1 ?side2 A62.out).mono ?_); (case side1 => exact pC (Kd.N_reads' HO_509002.out).2.2); (case side2 => exact (Kd.N_reads' HO_509002.out).2.1); rintro e w70 ⟨rfl, hb⟩; refine ⟨_, rfl, ?_⟩; have n0_ := Aside0.mk (Kd.N_below (pN HO_4.out) hb); have n1_ := Aside0.mk (Kd.N_below (pN HO_509002.out) hb); have n2_ := Aside0.mk (blk_below (g := gb490) (o := .cells #[.int .i64 x491000_2, .int .i64 x491001_2, .slice none 0 0] 29 (0, 0)) (pK BK490.out) hb); have n3_ := Aside0.mk (blk_below (g := gb508) (o := .cells #[.int .i64 (wrap64 (rd t499 0)), .int .i64 (wrap64 (rd t499 1)), .slice Ao69 x509002_2.length co69] 29 (0, 0)) (pK BK508.out) hb); have n4_ := Aside0.mk (below_step (by repeat (first | (with_reducible first | exact HB.out | apply below_alloc | apply pw_below_drewN | apply below_drew1 | refine below_set ?_ GE490.out | refine below_set ?_ GE508.out) | exact HB.out)) hb); clear HO_4 HO_509002 BK490 BK508 HB; have HO_4 := n0_; have HO_509002 := n1_; have BK490 := n2_; have BK508 := n3_; have HB := n4_; clear n0_ n1_ n2_ n3_ n4_; (try clear hb); (try clear hb2); (try clear hk); (try clear hi); have hcz71_0 : w70.cell? ⟨gb508, 0, none⟩ = some (.int .i64 (wrap64 (rd t499 0))) := (blk_cell BK508.out 0).trans rfl; have hcz71_1 : w70.cell? ⟨gb508, 1, none⟩ = some (.int .i64 (wrap64 (rd t499 1))) := (blk_cell BK508.out 1).trans rfl; have hcz71_2 : w70.cell? ⟨gb508, 2, none⟩ = some (.slice Ao69 x509002_2.length co69) := (blk_cell BK508.out 2).trans rfl; have hfz71_0 := blk_frozen BK508.out 0; have hfz71_1 := blk_frozen BK508.out 1; have hfz71_2 := blk_frozen BK508.out 2) | (go_at_call 26; (with_reducible refine (garnerref27_Put.calls k2 (wrap64 (rd t499 0)) (wrap64 (rd t499 1)) _ _ x509002_2 t526 _ ?side1 ?side2 A64.out).mono ?_); (case side1 => exact pC (Kd.N_reads' HO_509002.out).2.2); (case side2 => exact (Kd.N_reads' HO_509002.out).2.1); rintro e w72 ⟨v527, rfl, ho0, hb⟩; have n0_ := Aside0.mk (Kd.N_elder' (pN HO_4.out) (Kd.R_base ho0) hb); have n1_ := Aside0.mk (Kd.N_elder' (pN HO_509002.out) (Kd.R_base ho0) hb); have n2_ := Aside0.mk (Kd.R_lower (Kd.R_newM (M := fun k_ => (w.heap.size ≤ k_)) ho0 (below_size (by repeat (first | (with_reducible first | exact HB.out | apply below_alloc | apply pw_below_drewN | apply below_drew1 | refine below_set ?_ GE490.out | refine below_set ?_ GE508.out) | exact HB.out))) (fun k_ h_ => h_)) (below_size (by repeat (first | (with_reducible first | exact HB.out | apply below_alloc | apply pw_below_drewN | apply below_drew1 | refine below_set ?_ GE490.out | refine below_set ?_ GE508.out) | exact HB.out)))); have n3_ := Aside0.mk (blk_below (g := gb490) (o := .cells #[.int .i64 x491000_2, .int .i64 x491001_2, .slice none 0 0] 29 (0, 0)) (pK BK490.out) hb); have n4_ := Aside0.mk (blk_below (g := gb508) (o := .cells #[.int .i64 (wrap64 (rd t499 0)), .int .i64 (wrap64 (rd t499 1)), .slice Ao69 x509002_2.length co69] 29 (0, 0)) (pK BK508.out) hb); have n5_ := Aside0.mk (below_step (by repeat (first | (with_reducible first | exact HB.out | apply below_alloc | apply pw_below_drewN | apply below_drew1 | refine below_set ?_ GE490.out | refine below_set ?_ GE508.out) | exact HB.out)) hb); clear HO_4 HO_509002 BK490 BK508 HB; have HO_4 := n0_; have HO_509002 := n1_; have HO528 := n2_; have BK490 := n3_; have BK508 := n4_; have HB := n5_; clear n0_ n1_ n2_ n3_ n4_ n5_; (try clear hb); (try clear hb2); (try clear hk); (try clear hi); (try clear ho0); obtain ⟨Ao73, co73, eo73⟩ := Kd.R_slice HO528.out; subst eo73) | (go_at_call 22; (with_reducible refine (garnerref02_Bytes.calls k2 _ _ t526 _ _ l0 true _ ?side1 ?side2 ?side3 ?side4 A65.out).mono ?_); (case side1 => exact pC (Kd.R_reads' HO528.out).2.2); (case side2 => exact (Kd.R_reads' HO528.out).2.1); (case side3 => exact pC (Kd.C_below HR0.out HB.out)); (case side4 => exact HC0.out); rintro e w' ⟨rfl, ⟨nd, rfl⟩⟩; (try (rw [drewN_self w72]; generalize hq_ : World.drewN w72 _ = w72; have n0_ : Aside0 (Kd.R (Kd.int .u8) 5 w72 w.heap.size (fun k_ => (w.heap.size ≤ k_)) (.slice Ao73 t526.length co73) t526) := ⟨by rw [← hq_]; exact (by (with_reducible repeat (first | apply Kd.R_alloc | apply Kd.R_drewN | apply Kd.R_drew)); exact Kd.R_mono HO528.out (fun _ hk => hk.1))⟩; have n1_ : Aside0 (Kd.N k83 83 w72 w.heap.size (fun k_ => (w.heap.size ≤ k_) ∧ some k_ ≠ (.slice Ao73 t526.length co73 : Value).ownBlock ∧ some k_ ≠ (.slice Ao69 x509002_2.length co69 : Value).ownBlock ∧ k_ ≠ gb490 ∧ k_ ≠ gb508) (.slice (some ad498) t491.length co13) t491) := ⟨by rw [← hq_]; exact (by (with_reducible repeat (first | apply Kd.N_alloc | apply Kd.N_drewN | apply Kd.N_drew)); exact Kd.N_mono HO_4.out (fun _ hk => ⟨hk.1.1, ⟨hk.2, ⟨hk.1.2.1, ⟨hk.1.2.2.1, hk.1.2.2.2⟩⟩⟩⟩))⟩; have n2_ : Aside0 (Kd.N k135 135 w72 w.heap.size (fun k_ => (w.heap.size ≤ k_) ∧ some k_ ≠ (.slice Ao73 t526.length co73 : Value).ownBlock ∧ some k_ ≠ (.slice (some ad498) t491.length co13 : Value).ownBlock ∧ k_ ≠ gb490 ∧ k_ ≠ gb508) (.slice Ao69 x509002_2.length co69) x509002_2) := ⟨by rw [← hq_]; exact (by (with_reducible repeat (first | apply Kd.N_alloc | apply Kd.N_drewN | apply Kd.N_drew)); exact Kd.N_mono HO_509002.out (fun _ hk => ⟨hk.1.1, ⟨hk.2, ⟨hk.1.2.1, ⟨hk.1.2.2.1, hk.1.2.2.2⟩⟩⟩⟩))⟩; have n3_ : Aside0 (w72.heap[gb490]? = some (.cells #[.int .i64 x491000_2, .int .i64 x491001_2, .slice none 0 0] 29 (0, 0))) := ⟨by rw [← hq_]; exact (pK BK490.out)⟩; have n4_ : Aside0 (w72.heap[gb508]? = some (.cells #[.int .i64 (wrap64 (rd t499 0)), .int .i64 (wrap64 (rd t499 1)), .slice Ao69 x509002_2.length co69] 29 (0, 0))) := ⟨by rw [← hq_]; exact (pK BK508.out)⟩; have n5_ : Aside0 (Below w.heap.size w w72) := ⟨by rw [← hq_]; exact (by repeat (first | (with_reducible first | exact HB.out | apply below_alloc | apply pw_below_drewN | apply below_drew1 | refine below_set ?_ GE490.out | refine below_set ?_ GE508.out) | exact HB.out))⟩; clear HO528 HO_4 HO_509002 BK490 BK508 HB hq_; have HO528 := n0_; have HO_4 := n1_; have HO_509002 := n2_; have BK490 := n3_; have BK508 := n4_; have HB := n5_; clear n0_ n1_ n2_ n3_ n4_ n5_)); have hcz74_0 : w72.cell? ⟨gb508, 0, none⟩ = some (.int .i64 (wrap64 (rd t499 0))) := (blk_cell BK508.out 0).trans rfl; have hcz74_1 : w72.cell? ⟨gb508, 1, none⟩ = some (.int .i64 (wrap64 (rd t499 1))) := (blk_cell BK508.out 1).trans rfl; have hcz74_2 : w72.cell? ⟨gb508, 2, none⟩ = some (.slice Ao69 x509002_2.length co69) := (blk_cell BK508.out 2).trans rfl; have hfz74_0 := blk_frozen BK508.out 0; have hfz74_1 := blk_frozen BK508.out 1; have hfz74_2 := blk_frozen BK508.out 2; have hcz75_0 : w72.cell? ⟨gb490, 0, none⟩ = some (.int .i64 x491000_2) := (blk_cell BK490.out 0).trans rfl; have hcz75_1 : w72.cell? ⟨gb490, 1, none⟩ = some (.int .i64 x491001_2) := (blk_cell BK490.out 1).trans rfl; have hcz75_2 : w72.cell? ⟨gb490, 2, none⟩ = some (.slice none 0 0) := (blk_cell BK490.out 2).trans rfl; have hfz75_0 := blk_frozen BK490.out 0; have hfz75_1 := blk_frozen BK490.out 1; have hfz75_2 := blk_frozen BK490.out 2))
             refine bodyPost_ret (results_ct rfl _ _ gb490 29 #[.int .i64 (wrap64 (rd t499 0)), .int .i64 (wrap64 (rd t499 1)), .slice Ao69 x509002_2.length co69] (0, 0) _ rfl (by (with_reducible repeat (first | refine blk_drewN ?_ _ | refine blk_drew ?_ | refine blk_alloc ?_ _)); refine blk_put (cs := #[.int .i64 (wrap64 (rd t499 0)), .int .i64 (wrap64 (rd t499 1)), .slice none 0 0]) ?_ 2 _ rfl; (with_reducible repeat (first | refine blk_drewN ?_ _ | refine blk_drew ?_ | refine blk_alloc ?_ _)); refine blk_put (cs := #[.int .i64 (wrap64 (rd t499 0)), .int .i64 x491001_2, .slice none 0 0]) ?_ 1 _ rfl; (with_reducible repeat (first | refine blk_drewN ?_ _ | refine blk_drew ?_ | refine blk_alloc ?_ _)); refine blk_put (cs := #[.int .i64 x491000_2, .int .i64 x491001_2, .slice none 0 0]) ?_ 0 _ rfl; (with_reducible repeat (first | refine blk_drewN ?_ _ | refine blk_drew ?_ | refine blk_alloc ?_ _)); exact BK490.out) Try.underlying29 rfl (by kernel_rfl)) rfl ?_
             exact ⟨_, by first | rfl | (simp [errW_none, errW_some] <;> rfl) | (simp [*, errW_none, errW_some] <;> rfl), by (with_reducible repeat (first | apply Kd.N_alloc | apply Kd.N_drewN | apply Kd.N_drew)); exact Kd.N_mono (Kd.N_far (p := ⟨gb490, 2, none⟩) (Kd.N_far (p := ⟨gb490, 1, none⟩) (Kd.N_far (p := ⟨gb490, 0, none⟩) (Kd.N_mono HO_509002.out (fun k_ hk => (⟨hk, (by first | exact hk.2.1 | exact hk.2.2.2.1 | exact hk.2.2.2 | exact hk.2)⟩ : _ ∧ k_ ≠ gb490))) (fun _ hk => hk.2) (.int .i64 (wrap64 (rd t499 0)))) (fun _ hk => hk.2) (.int .i64 (wrap64 (rd t499 1)))) (fun _ hk => hk.2) (.slice Ao69 x509002_2.length co69)) (fun _ hk => hk.1.1), by repeat (first | (with_reducible first | exact HB.out | apply below_alloc | apply pw_below_drewN | apply below_drew1 | refine below_set ?_ GE490.out | refine below_set ?_ GE508.out) | exact HB.out)⟩
            ·replace c66 := Bool.eq_false_iff.mpr c66
             subst c66
             have H1 : (some (0, 0, ([] : List (S135)), false)) = some (r1, r2, r3, r4) := by rw [if_neg (show ¬ (false = true) by decide)] at H; exact H
             clear H
             have H := H1
             clear H1
             simp only [Option.some.injEq, Prod.mk.injEq] at H
             obtain ⟨rfl, rfl, rfl, rfl⟩ := H
             have hnb76 := NB508_490.out
             have hnc76 := NB490_508.out
             have hcz77_0 : wr.cell? ⟨gb508, 0, none⟩ = some (.int .i64 (wrap64 (rd t499 0))) := (blk_cell BK508.out 0).trans rfl
             have hcz77_1 : wr.cell? ⟨gb508, 1, none⟩ = some (.int .i64 (wrap64 (rd t499 1))) := (blk_cell BK508.out 1).trans rfl
             have hcz77_2 : wr.cell? ⟨gb508, 2, none⟩ = some (u509002) := (blk_cell BK508.out 2).trans rfl
             have hfz77_0 := blk_frozen BK508.out 0
             have hfz77_1 := blk_frozen BK508.out 1
             have hfz77_2 := blk_frozen BK508.out 2
             obtain ⟨Ao78, co78, eo78⟩ := Kd.N_slice HO_509002.out
             subst eo78
             go_wp2_with (first | ((with_reducible refine gate_callee (f := 20) rfl ?_); refine goesL_ (some 112) rfl rfl Try.func20 (by kernel_rfl) rfl #[.agg #[.int .i64 (wrap64 (rd t499 0)), .int .i64 (wrap64 (rd t499 1)), .slice Ao78 x509002_2.length co78]] rfl pL ?_; (with_reducible refine (garnerref27_May.calls k2 (wrap64 (rd t499 0)) (wrap64 (rd t499 1)) _ _ x509002_2 true _ ?side1 ?side2 A62.out).mono ?_); (case side1 => exact pC (Kd.N_reads' HO_509002.out).2.2); (case side2 => exact (Kd.N_reads' HO_509002.out).2.1); rintro e w79 ⟨rfl, hb⟩; refine ⟨_, rfl, ?_⟩; have n0_ := Aside0.mk (Kd.N_below (pN HO_4.out) hb); have n1_ := Aside0.mk (Kd.N_below (pN HO_509002.out) hb); have n2_ := Aside0.mk (blk_below (g := gb490) (o := .cells #[.int .i64 x491000_2, .int .i64 x491001_2, .slice none 0 0] 29 (0, 0)) (pK BK490.out) hb); have n3_ := Aside0.mk (blk_below (g := gb508) (o := .cells #[.int .i64 (wrap64 (rd t499 0)), .int .i64 (wrap64 (rd t499 1)), .slice Ao78 x509002_2.length co78] 29 (0, 0)) (pK BK508.out) hb); have n4_ := Aside0.mk (below_step (by repeat (first | (with_reducible first | exact HB.out | apply below_alloc | apply pw_below_drewN | apply below_drew1 | refine below_set ?_ GE490.out | refine below_set ?_ GE508.out) | exact HB.out)) hb); clear HO_4 HO_509002 BK490 BK508 HB; have HO_4 := n0_; have HO_509002 := n1_; have BK490 := n2_; have BK508 := n3_; have HB := n4_; clear n0_ n1_ n2_ n3_ n4_; (try clear hb); (try clear hb2); (try clear hk); (try clear hi); have hcz80_0 : w79.cell? ⟨gb508, 0, none⟩ = some (.int .i64 (wrap64 (rd t499 0))) := (blk_cell BK508.out 0).trans rfl; have hcz80_1 : w79.cell? ⟨gb508, 1, none⟩ = some (.int .i64 (wrap64 (rd t499 1))) := (blk_cell BK508.out 1).trans rfl; have hcz80_2 : w79.cell? ⟨gb508, 2, none⟩ = some (.slice Ao78 x509002_2.length co78) := (blk_cell BK508.out 2).trans rfl; have hfz80_0 := blk_frozen BK508.out 0; have hfz80_1 := blk_frozen BK508.out 1; have hfz80_2 := blk_frozen BK508.out 2) | (go_at_call 26; (with_reducible refine (garnerref27_Put.calls k2 (wrap64 (rd t499 0)) (wrap64 (rd t499 1)) _ _ x509002_2 t526 _ ?side1 ?side2 A64.out).mono ?_); (case side1 => exact pC (Kd.N_reads' HO_509002.out).2.2); (case side2 => exact (Kd.N_reads' HO_509002.out).2.1); rintro e w81 ⟨v527, rfl, ho0, hb⟩; have n0_ := Aside0.mk (Kd.N_elder' (pN HO_4.out) (Kd.R_base ho0) hb); have n1_ := Aside0.mk (Kd.N_elder' (pN HO_509002.out) (Kd.R_base ho0) hb); have n2_ := Aside0.mk (Kd.R_lower (Kd.R_newM (M := fun k_ => (w.heap.size ≤ k_)) ho0 (below_size (by repeat (first | (with_reducible first | exact HB.out | apply below_alloc | apply pw_below_drewN | apply below_drew1 | refine below_set ?_ GE490.out | refine below_set ?_ GE508.out) | exact HB.out))) (fun k_ h_ => h_)) (below_size (by repeat (first | (with_reducible first | exact HB.out | apply below_alloc | apply pw_below_drewN | apply below_drew1 | refine below_set ?_ GE490.out | refine below_set ?_ GE508.out) | exact HB.out)))); have n3_ := Aside0.mk (blk_below (g := gb490) (o := .cells #[.int .i64 x491000_2, .int .i64 x491001_2, .slice none 0 0] 29 (0, 0)) (pK BK490.out) hb); have n4_ := Aside0.mk (blk_below (g := gb508) (o := .cells #[.int .i64 (wrap64 (rd t499 0)), .int .i64 (wrap64 (rd t499 1)), .slice Ao78 x509002_2.length co78] 29 (0, 0)) (pK BK508.out) hb); have n5_ := Aside0.mk (below_step (by repeat (first | (with_reducible first | exact HB.out | apply below_alloc | apply pw_below_drewN | apply below_drew1 | refine below_set ?_ GE490.out | refine below_set ?_ GE508.out) | exact HB.out)) hb); clear HO_4 HO_509002 BK490 BK508 HB; have HO_4 := n0_; have HO_509002 := n1_; have HO528 := n2_; have BK490 := n3_; have BK508 := n4_; have HB := n5_; clear n0_ n1_ n2_ n3_ n4_ n5_; (try clear hb); (try clear hb2); (try clear hk); (try clear hi); (try clear ho0); obtain ⟨Ao82, co82, eo82⟩ := Kd.R_slice HO528.out; subst eo82) | (go_at_call 22; (with_reducible refine (garnerref02_Bytes.calls k2 _ _ t526 _ _ l0 false _ ?side1 ?side2 ?side3 ?side4 A65.out).mono ?_); (case side1 => exact pC (Kd.R_reads' HO528.out).2.2); (case side2 => exact (Kd.R_reads' HO528.out).2.1); (case side3 => exact pC (Kd.C_below HR0.out HB.out)); (case side4 => exact HC0.out); rintro e w' ⟨rfl, ⟨nd, rfl⟩⟩; (try (rw [drewN_self w81]; generalize hq_ : World.drewN w81 _ = w81; have n0_ : Aside0 (Kd.R (Kd.int .u8) 5 w81 w.heap.size (fun k_ => (w.heap.size ≤ k_)) (.slice Ao82 t526.length co82) t526) := ⟨by rw [← hq_]; exact (by (with_reducible repeat (first | apply Kd.R_alloc | apply Kd.R_drewN | apply Kd.R_drew)); exact Kd.R_mono HO528.out (fun _ hk => hk.1))⟩; have n1_ : Aside0 (Kd.N k83 83 w81 w.heap.size (fun k_ => (w.heap.size ≤ k_) ∧ some k_ ≠ (.slice Ao82 t526.length co82 : Value).ownBlock ∧ some k_ ≠ (.slice Ao78 x509002_2.length co78 : Value).ownBlock ∧ k_ ≠ gb490 ∧ k_ ≠ gb508) (.slice (some ad498) t491.length co13) t491) := ⟨by rw [← hq_]; exact (by (with_reducible repeat (first | apply Kd.N_alloc | apply Kd.N_drewN | apply Kd.N_drew)); exact Kd.N_mono HO_4.out (fun _ hk => ⟨hk.1.1, ⟨hk.2, ⟨hk.1.2.1, ⟨hk.1.2.2.1, hk.1.2.2.2⟩⟩⟩⟩))⟩; have n2_ : Aside0 (Kd.N k135 135 w81 w.heap.size (fun k_ => (w.heap.size ≤ k_) ∧ some k_ ≠ (.slice Ao82 t526.length co82 : Value).ownBlock ∧ some k_ ≠ (.slice (some ad498) t491.length co13 : Value).ownBlock ∧ k_ ≠ gb490 ∧ k_ ≠ gb508) (.slice Ao78 x509002_2.length co78) x509002_2) := ⟨by rw [← hq_]; exact (by (with_reducible repeat (first | apply Kd.N_alloc | apply Kd.N_drewN | apply Kd.N_drew)); exact Kd.N_mono HO_509002.out (fun _ hk => ⟨hk.1.1, ⟨hk.2, ⟨hk.1.2.1, ⟨hk.1.2.2.1, hk.1.2.2.2⟩⟩⟩⟩))⟩; have n3_ : Aside0 (w81.heap[gb490]? = some (.cells #[.int .i64 x491000_2, .int .i64 x491001_2, .slice none 0 0] 29 (0, 0))) := ⟨by rw [← hq_]; exact (pK BK490.out)⟩; have n4_ : Aside0 (w81.heap[gb508]? = some (.cells #[.int .i64 (wrap64 (rd t499 0)), .int .i64 (wrap64 (rd t499 1)), .slice Ao78 x509002_2.length co78] 29 (0, 0))) := ⟨by rw [← hq_]; exact (pK BK508.out)⟩; have n5_ : Aside0 (Below w.heap.size w w81) := ⟨by rw [← hq_]; exact (by repeat (first | (with_reducible first | exact HB.out | apply below_alloc | apply pw_below_drewN | apply below_drew1 | refine below_set ?_ GE490.out | refine below_set ?_ GE508.out) | exact HB.out))⟩; clear HO528 HO_4 HO_509002 BK490 BK508 HB hq_; have HO528 := n0_; have HO_4 := n1_; have HO_509002 := n2_; have BK490 := n3_; have BK508 := n4_; have HB := n5_; clear n0_ n1_ n2_ n3_ n4_ n5_)); have hcz83_0 : w81.cell? ⟨gb490, 0, none⟩ = some (.int .i64 x491000_2) := (blk_cell BK490.out 0).trans rfl; have hcz83_1 : w81.cell? ⟨gb490, 1, none⟩ = some (.int .i64 x491001_2) := (blk_cell BK490.out 1).trans rfl; have hcz83_2 : w81.cell? ⟨gb490, 2, none⟩ = some (.slice none 0 0) := (blk_cell BK490.out 2).trans rfl; have hfz83_0 := blk_frozen BK490.out 0; have hfz83_1 := blk_frozen BK490.out 1; have hfz83_2 := blk_frozen BK490.out 2))
             refine bodyPost_ret (results_ct rfl _ _ gb490 29 #[.int .i64 0, .int .i64 0, .slice none 0 0] (0, 0) _ rfl (by (with_reducible repeat (first | refine blk_drewN ?_ _ | refine blk_drew ?_ | refine blk_alloc ?_ _)); refine blk_put (cs := #[.int .i64 0, .int .i64 0, .slice none 0 0]) ?_ 2 _ rfl; (with_reducible repeat (first | refine blk_drewN ?_ _ | refine blk_drew ?_ | refine blk_alloc ?_ _)); refine blk_put (cs := #[.int .i64 0, .int .i64 x491001_2, .slice none 0 0]) ?_ 1 _ rfl; (with_reducible repeat (first | refine blk_drewN ?_ _ | refine blk_drew ?_ | refine blk_alloc ?_ _)); refine blk_put (cs := #[.int .i64 x491000_2, .int .i64 x491001_2, .slice none 0 0]) ?_ 0 _ rfl; (with_reducible repeat (first | refine blk_drewN ?_ _ | refine blk_drew ?_ | refine blk_alloc ?_ _)); exact BK490.out) Try.underlying29 rfl (by kernel_rfl)) rfl ?_
             exact ⟨_, by first | rfl | (simp [errW_none, errW_some] <;> rfl) | (simp [*, errW_none, errW_some] <;> rfl), by first | exact Kd.S_nil _ _ _ _ _ | exact Kd.N_nil _ _ _ _ _ | exact Kd.V_nil _ _ _ _ _ | exact Kd.Q_nil _ _ _ _ _ | exact Kd.R_nil _ _ _ _ _, by repeat (first | (with_reducible first | exact HB.out | apply below_alloc | apply pw_below_drewN | apply below_drew1 | refine below_set ?_ GE490.out | refine below_set ?_ GE508.out) | exact HB.out)⟩
           ·replace c63 := Bool.eq_false_iff.mpr c63
            subst c63
            have H1 : (some (0, 0, ([] : List (S135)), false)) = some (r1, r2, r3, r4) := by rw [if_neg (show ¬ (false = true) by decide)] at H; exact H
            clear H
            have H := H1
            clear H1
            simp only [Option.some.injEq, Prod.mk.injEq] at H
            obtain ⟨rfl, rfl, rfl, rfl⟩ := H
            have hnb84 := NB508_490.out
            have hnc84 := NB490_508.out
            have hcz85_0 : wr.cell? ⟨gb508, 0, none⟩ = some (.int .i64 (wrap64 (rd t499 0))) := (blk_cell BK508.out 0).trans rfl
            have hcz85_1 : wr.cell? ⟨gb508, 1, none⟩ = some (.int .i64 (wrap64 (rd t499 1))) := (blk_cell BK508.out 1).trans rfl
            have hcz85_2 : wr.cell? ⟨gb508, 2, none⟩ = some (u509002) := (blk_cell BK508.out 2).trans rfl
            have hfz85_0 := blk_frozen BK508.out 0
            have hfz85_1 := blk_frozen BK508.out 1
            have hfz85_2 := blk_frozen BK508.out 2
            obtain ⟨Ao86, co86, eo86⟩ := Kd.N_slice HO_509002.out
            subst eo86
            go_wp2_with (first | ((with_reducible refine gate_callee (f := 20) rfl ?_); refine goesL_ (some 112) rfl rfl Try.func20 (by kernel_rfl) rfl #[.agg #[.int .i64 (wrap64 (rd t499 0)), .int .i64 (wrap64 (rd t499 1)), .slice Ao86 x509002_2.length co86]] rfl pL ?_; (with_reducible refine (garnerref27_May.calls k2 (wrap64 (rd t499 0)) (wrap64 (rd t499 1)) _ _ x509002_2 false _ ?side1 ?side2 A62.out).mono ?_); (case side1 => exact pC (Kd.N_reads' HO_509002.out).2.2); (case side2 => exact (Kd.N_reads' HO_509002.out).2.1); rintro e w87 ⟨rfl, hb⟩; refine ⟨_, rfl, ?_⟩; have n0_ := Aside0.mk (Kd.N_below (pN HO_4.out) hb); have n1_ := Aside0.mk (Kd.N_below (pN HO_509002.out) hb); have n2_ := Aside0.mk (blk_below (g := gb490) (o := .cells #[.int .i64 x491000_2, .int .i64 x491001_2, .slice none 0 0] 29 (0, 0)) (pK BK490.out) hb); have n3_ := Aside0.mk (blk_below (g := gb508) (o := .cells #[.int .i64 (wrap64 (rd t499 0)), .int .i64 (wrap64 (rd t499 1)), .slice Ao86 x509002_2.length co86] 29 (0, 0)) (pK BK508.out) hb); have n4_ := Aside0.mk (below_step (by repeat (first | (with_reducible first | exact HB.out | apply below_alloc | apply pw_below_drewN | apply below_drew1 | refine below_set ?_ GE490.out | refine below_set ?_ GE508.out) | exact HB.out)) hb); clear HO_4 HO_509002 BK490 BK508 HB; have HO_4 := n0_; have HO_509002 := n1_; have BK490 := n2_; have BK508 := n3_; have HB := n4_; clear n0_ n1_ n2_ n3_ n4_; (try clear hb); (try clear hb2); (try clear hk); (try clear hi); have hcz88_0 : w87.cell? ⟨gb490, 0, none⟩ = some (.int .i64 x491000_2) := (blk_cell BK490.out 0).trans rfl; have hcz88_1 : w87.cell? ⟨gb490, 1, none⟩ = some (.int .i64 x491001_2) := (blk_cell BK490.out 1).trans rfl; have hcz88_2 : w87.cell? ⟨gb490, 2, none⟩ = some (.slice none 0 0) := (blk_cell BK490.out 2).trans rfl; have hfz88_0 := blk_frozen BK490.out 0; have hfz88_1 := blk_frozen BK490.out 1; have hfz88_2 := blk_frozen BK490.out 2))
            refine bodyPost_ret (results_ct rfl _ _ gb490 29 #[.int .i64 0, .int .i64 0, .slice none 0 0] (0, 0) _ rfl (by (with_reducible repeat (first | refine blk_drewN ?_ _ | refine blk_drew ?_ | refine blk_alloc ?_ _)); refine blk_put (cs := #[.int .i64 0, .int .i64 0, .slice none 0 0]) ?_ 2 _ rfl; (with_reducible repeat (first | refine blk_drewN ?_ _ | refine blk_drew ?_ | refine blk_alloc ?_ _)); refine blk_put (cs := #[.int .i64 0, .int .i64 x491001_2, .slice none 0 0]) ?_ 1 _ rfl; (with_reducible repeat (first | refine blk_drewN ?_ _ | refine blk_drew ?_ | refine blk_alloc ?_ _)); refine blk_put (cs := #[.int .i64 x491000_2, .int .i64 x491001_2, .slice none 0 0]) ?_ 0 _ rfl; (with_reducible repeat (first | refine blk_drewN ?_ _ | refine blk_drew ?_ | refine blk_alloc ?_ _)); exact BK490.out) Try.underlying29 rfl (by kernel_rfl)) rfl ?_
            exact ⟨_, by first | rfl | (simp [errW_none, errW_some] <;> rfl) | (simp [*, errW_none, errW_some] <;> rfl), by first | exact Kd.S_nil _ _ _ _ _ | exact Kd.N_nil _ _ _ _ _ | exact Kd.V_nil _ _ _ _ _ | exact Kd.Q_nil _ _ _ _ _ | exact Kd.R_nil _ _ _ _ _, by repeat (first | (with_reducible first | exact HB.out | apply below_alloc | apply pw_below_drewN | apply below_drew1 | refine below_set ?_ GE490.out | refine below_set ?_ GE508.out) | exact HB.out)⟩
       ·rw [if_neg c24] at H
        exact absurd H (by simp)
      ·rw [if_neg c23] at H
       exact absurd H (by simp)
  ·rw [if_neg c8] at H
   exact absurd H (by simp)
end Go.Proofs.Ytapamplgajkjlaa.PExportGets
