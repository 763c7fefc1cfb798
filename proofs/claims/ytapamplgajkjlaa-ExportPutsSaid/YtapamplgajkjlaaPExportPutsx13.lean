/- What the law reaches, as plain Lean functions, and that the machine's calls answer just that. -/
import Derived.Test.YtapamplgajkjlaaPExportPutsx0
import Derived.Test.YtapamplgajkjlaaPExportPutsx1
import Derived.Test.YtapamplgajkjlaaPExportPutsx2
import Derived.Test.YtapamplgajkjlaaPExportPutsx6
import Derived.Test.YtapamplgajkjlaaPExportPutsx7
import Derived.Test.YtapamplgajkjlaaPExportPutsx10
import Derived.Test.YtapamplgajkjlaaPExportPutsx11
import Derived.Test.YtapamplgajkjlaaPExportPutsx12
namespace Go.Proofs.Ytapamplgajkjlaa.PExportPuts
open Go.RowKit Go.Proofs.YtapamplgajkjlaaW.PrintWords Go.Proofs.YtapamplgajkjlaaW.PrintLast Go.Proofs.YtapamplgajkjlaaW.PrintMore
attribute [local go_sem] max2_int min2_int max_two min_two max_three min_three max_four min_four
set_option linter.unusedVariables false
set_option linter.unusedSimpArgs false
attribute [local go_sem] wrap64_l1 wrap64_l2 wrap64_l3 wrap64_l4 wrap64_l5 str_leq str_gtr str_geq
mutual
def garnerlaw27_ExportPuts.j0 : Nat → List (S135) → Bool → Int → Int → List (S135) → Option (Bool)
 | 0, _, _, _, _, _ => none
 | k + 1, x1, x19, x498000, x498001, x498002 => if x19 = true then ((garnerlaw27_awake.f k).bind fun t500 => (some t500)) else ((export_Put.f k x498000 x498001 x498002).bind fun bt501 => ((export_Sorted.f k x1).bind fun t505 => ((garnerref27_Sorted.f k x1).bind fun t506 => (if (t505 != t506) = true then (garnerlaw27_ExportPuts.j1 k bt501.1 bt501.2 true x498000 x498001 x498002) else ((export_Same.f k x498002 x1).bind fun t507 => ((garnerref27_Same.f k x498002 x1).bind fun t508 => (if (t507 != t508) = true then (garnerlaw27_ExportPuts.j1 k bt501.1 bt501.2 true x498000 x498001 x498002) else ((export_Same.f k x1 x1).bind fun t509 => (garnerlaw27_ExportPuts.j1 k bt501.1 bt501.2 (!t509) x498000 x498001 x498002)))))))))
def garnerlaw27_ExportPuts.j1 : Nat → List Int → Int → Bool → Int → Int → List (S135) → Option (Bool)
 | 0, _, _, _, _, _, _ => none
 | k + 1, x5, x6, x52, x498000, x498001, x498002 => if x52 = true then (some false) else ((garnerref27_May.f k x498000 x498001 x498002).bind fun t510 => (if t510 = true then ((export_Get.f k x5).bind fun bt512 => (if x6 = 0 then ((garnerref27_Put.f k x498000 x498001 x498002).bind fun t518 => ((garnerref02_Bytes.f k x5 t518).bind fun t521 => (if t521 = true then (if bt512.2.2.2 = 0 then (if bt512.1 = x498000 then (if bt512.2.1 = x498001 then ((garnerref27_Same.f k bt512.2.2.1 x498002).bind fun t522 => (if t522 = true then ((garnerlaw27_awake.f k).bind fun t523 => (some t523)) else (some false))) else (some false)) else (some false)) else (some false)) else (some false)))) else (some false))) else (if x6 = 1 then (if (x5.length : Int) = 0 then ((garnerlaw27_awake.f k).bind fun t511 => (some t511)) else (some false)) else (some false))))
end
def garnerlaw27_ExportPuts.f (k : Nat) (a0_0 : Int) (a0_1 : Int) (l0_2 : List (S135)) (l1 : List (S135)) : Option (Bool) := (garnerlaw27_Light.f k l0_2).bind fun t498 => (if t498 = true then ((garnerlaw27_Light.f k l1).bind fun t499 => (garnerlaw27_ExportPuts.j0 k l1 (!t499) a0_0 a0_1 l0_2)) else (garnerlaw27_ExportPuts.j0 k l1 true a0_0 a0_1 l0_2))
theorem garnerlaw27_ExportPuts.mono_l : ∀ k, (∀ y0 y1 y2 y3 y4, LeO (garnerlaw27_ExportPuts.j0 k y0 y1 y2 y3 y4) (garnerlaw27_ExportPuts.j0 (k + 1) y0 y1 y2 y3 y4)) ∧ (∀ y0 y1 y2 y3 y4 y5, LeO (garnerlaw27_ExportPuts.j1 k y0 y1 y2 y3 y4 y5) (garnerlaw27_ExportPuts.j1 (k + 1) y0 y1 y2 y3 y4 y5))
 | 0 => ⟨fun _ _ _ _ _ r h => by simp [garnerlaw27_ExportPuts.j0] at h, fun _ _ _ _ _ _ r h => by simp [garnerlaw27_ExportPuts.j1] at h⟩
 | k + 1 => by
  obtain ⟨ih0, ih1⟩ := garnerlaw27_ExportPuts.mono_l k
  refine ⟨?_, ?_⟩
  ·intro y0 y1 y2 y3 y4
   unfold garnerlaw27_ExportPuts.j0
   repeat' first
   | (with_reducible exact ih0 _ _ _ _ _)
   | (with_reducible exact ih1 _ _ _ _ _ _)
   | (with_reducible exact export_Get.mono _ _)
   | (with_reducible exact export_Put.mono _ _ _ _)
   | (with_reducible exact export_Same.mono _ _ _)
   | (with_reducible exact export_Sorted.mono _ _)
   | (with_reducible exact garnerlaw27_Light.mono _ _)
   | (with_reducible exact garnerlaw27_awake.mono _)
   | (with_reducible exact garnerref02_Bytes.mono _ _ _)
   | (with_reducible exact garnerref27_May.mono _ _ _ _)
   | (with_reducible exact garnerref27_Put.mono _ _ _ _)
   | (with_reducible exact garnerref27_Same.mono _ _ _)
   | (with_reducible exact garnerref27_Sorted.mono _ _)
   | (with_reducible exact LeO.refl _)
   | (with_reducible exact LeO.none _)
   | (with_reducible refine LeO.ite ?_ ?_)
   | (with_reducible refine LeO.bind ?_ (fun _ => ?_))
   | exact ih0 _ _ _ _ _
   | exact ih1 _ _ _ _ _ _
   | exact export_Get.mono _ _
   | exact export_Put.mono _ _ _ _
   | exact export_Same.mono _ _ _
   | exact export_Sorted.mono _ _
   | exact garnerlaw27_Light.mono _ _
   | exact garnerlaw27_awake.mono _
   | exact garnerref02_Bytes.mono _ _ _
   | exact garnerref27_May.mono _ _ _ _
   | exact garnerref27_Put.mono _ _ _ _
   | exact garnerref27_Same.mono _ _ _
   | exact garnerref27_Sorted.mono _ _
   | exact LeO.none _
   | refine LeO.ite ?_ ?_
   | refine LeO.bind ?_ (fun _ => ?_)
  ·intro y0 y1 y2 y3 y4 y5
   unfold garnerlaw27_ExportPuts.j1
   repeat' first
   | (with_reducible exact ih0 _ _ _ _ _)
   | (with_reducible exact ih1 _ _ _ _ _ _)
   | (with_reducible exact export_Get.mono _ _)
   | (with_reducible exact export_Put.mono _ _ _ _)
   | (with_reducible exact export_Same.mono _ _ _)
   | (with_reducible exact export_Sorted.mono _ _)
   | (with_reducible exact garnerlaw27_Light.mono _ _)
   | (with_reducible exact garnerlaw27_awake.mono _)
   | (with_reducible exact garnerref02_Bytes.mono _ _ _)
   | (with_reducible exact garnerref27_May.mono _ _ _ _)
   | (with_reducible exact garnerref27_Put.mono _ _ _ _)
   | (with_reducible exact garnerref27_Same.mono _ _ _)
   | (with_reducible exact garnerref27_Sorted.mono _ _)
   | (with_reducible exact LeO.refl _)
   | (with_reducible exact LeO.none _)
   | (with_reducible refine LeO.ite ?_ ?_)
   | (with_reducible refine LeO.bind ?_ (fun _ => ?_))
   | exact ih0 _ _ _ _ _
   | exact ih1 _ _ _ _ _ _
   | exact export_Get.mono _ _
   | exact export_Put.mono _ _ _ _
   | exact export_Same.mono _ _ _
   | exact export_Sorted.mono _ _
   | exact garnerlaw27_Light.mono _ _
   | exact garnerlaw27_awake.mono _
   | exact garnerref02_Bytes.mono _ _ _
   | exact garnerref27_May.mono _ _ _ _
   | exact garnerref27_Put.mono _ _ _ _
   | exact garnerref27_Same.mono _ _ _
   | exact garnerref27_Sorted.mono _ _
   | exact LeO.none _
   | refine LeO.ite ?_ ?_
   | refine LeO.bind ?_ (fun _ => ?_)
theorem garnerlaw27_ExportPuts.mono : ∀ a0 a1 a2 a3 k, LeO (garnerlaw27_ExportPuts.f k a0 a1 a2 a3) (garnerlaw27_ExportPuts.f (k + 1) a0 a1 a2 a3) := by
 intro a0 a1 a2 a3 k
 obtain ⟨ih0, ih1⟩ := garnerlaw27_ExportPuts.mono_l k
 unfold garnerlaw27_ExportPuts.f
 repeat' first
   | (with_reducible exact ih0 _ _ _ _ _)
   | (with_reducible exact ih1 _ _ _ _ _ _)
   | (with_reducible exact export_Get.mono _ _)
   | (with_reducible exact export_Put.mono _ _ _ _)
   | (with_reducible exact export_Same.mono _ _ _)
   | (with_reducible exact export_Sorted.mono _ _)
   | (with_reducible exact garnerlaw27_Light.mono _ _)
   | (with_reducible exact garnerlaw27_awake.mono _)
   | (with_reducible exact garnerref02_Bytes.mono _ _ _)
   | (with_reducible exact garnerref27_May.mono _ _ _ _)
   | (with_reducible exact garnerref27_Put.mono _ _ _ _)
   | (with_reducible exact garnerref27_Same.mono _ _ _)
   | (with_reducible exact garnerref27_Sorted.mono _ _)
   | (with_reducible exact LeO.refl _)
   | (with_reducible exact LeO.none _)
   | (with_reducible refine LeO.ite ?_ ?_)
   | (with_reducible refine LeO.bind ?_ (fun _ => ?_))
   | exact ih0 _ _ _ _ _
   | exact ih1 _ _ _ _ _ _
   | exact export_Get.mono _ _
   | exact export_Put.mono _ _ _ _
   | exact export_Same.mono _ _ _
   | exact export_Sorted.mono _ _
   | exact garnerlaw27_Light.mono _ _
   | exact garnerlaw27_awake.mono _
   | exact garnerref02_Bytes.mono _ _ _
   | exact garnerref27_May.mono _ _ _ _
   | exact garnerref27_Put.mono _ _ _ _
   | exact garnerref27_Same.mono _ _ _
   | exact garnerref27_Sorted.mono _ _
   | exact LeO.none _
   | refine LeO.ite ?_ ?_
   | refine LeO.bind ?_ (fun _ => ?_)
def garnerlaw27_ExportPuts.T4 : Bool × List (List Nat × List Nat) := (true, [([], []), ([0], [0]), ([], []), ([2, 1], [2]), ([1, 3], [1, 3]), ([4, 3], [4]), ([5], [5]), ([6, 5], [5, 6]), ([5], [5]), ([7, 8, 5, 5], [5, 7, 8]), ([5], [5]), ([10, 5], [5, 10]), ([5], [5]), ([11, 12, 9, 5], [5, 11, 12]), ([9, 13, 5], [5, 9, 13]), ([5, 14], [5, 14]), ([15, 13], [15]), ([16], [16]), ([16], [16]), ([17, 18, 16, 16], [16, 17, 18]), ([19, 16], [16, 19]), ([16, 20], [16, 20])])
def garnerlaw27_ExportPuts.B4 : List Nat := [0, 1, 0, 7, 15, 31, 63, 127, 63, 511, 63, 1087, 63, 8191, 16383, 32767, 65535, 131071, 131071, 524287, 1048575, 2097151]
theorem garnerlaw27_ExportPuts.tab4 : rtab .any (opsOf Try.f5 4) = garnerlaw27_ExportPuts.T4 := by kernel_rfl
theorem garnerlaw27_ExportPuts.bits4 : waitsOk garnerlaw27_ExportPuts.T4.2 garnerlaw27_ExportPuts.B4 = true := by kernel_rfl
set_option maxHeartbeats 8000000 in
set_option maxRecDepth 100000 in
theorem garnerlaw27_ExportPuts.calls (k : Nat) (a0_0 : Int) (a0_1 : Int) (A0_2 : Option Addr) (c0_2 : Nat) (l0_2 : List (S135)) (A1 : Option Addr) (c1 : Nat) (l1 : List (S135)) (r : Bool) (w : World) (hr0_2 : Kd.C k135 w A0_2 l0_2.length l0_2) (hc0_2 : l0_2.length ≤ c0_2) (hr1 : Kd.C k135 w A1 l1.length l1) (hc1 : l1.length ≤ c1) (h : garnerlaw27_ExportPuts.f k a0_0 a0_1 l0_2 l1 = some r) :
  Calls Try.prog 5 #[.agg #[.int .i64 a0_0, .int .i64 a0_1, .slice A0_2 l0_2.length c0_2], .slice A1 l1.length c1] w fun e w' => e = .returned (.bool r) ∧ Below w.heap.size w w' := by
 have hu29 := Try.underlying29
 have HR0_2 := Aside0.mk hr0_2
 have HC0_2 := Aside0.mk hc0_2
 clear hr0_2 hc0_2
 have HR1 := Aside0.mk hr1
 have HC1 := Aside0.mk hc1
 clear hr1 hc1
 have HB := Aside0.mk (Below.refl w.heap.size w)
 have H : ((garnerlaw27_Light.f k l0_2).bind fun t498 => (if t498 = true then ((garnerlaw27_Light.f k l1).bind fun t499 => (garnerlaw27_ExportPuts.j0 k l1 (!t499) a0_0 a0_1 l0_2)) else (garnerlaw27_ExportPuts.j0 k l1 true a0_0 a0_1 l0_2))) = some r := h
 clear h
 have HC3 := Aside0.mk H
 clear H
 go_enter Try.func5, Try.ntmps5
 go_upto_region 1 with (first | ((with_reducible refine gate_dst (N := 2) rfl ?_); (try (refine gate_guard (by rfl) ?_; dsimp only)); refine box_event ?hg (N := 2) ?hd (cs := #[.int .i64 a0_0, .int .i64 a0_1, .slice A0_2 l0_2.length c0_2]) (t := 29) ?hr ?_; (case hd => rfl); (case hg => rfl); (case hr => first | (go_simp; done) | (go_simp; rfl)); intro gb497 hg w4 hbox hb; have n0_ := Aside0.mk (below_step (pB HB.out) hb); have n1_ := Aside0.mk (hbox); have n2_ := Aside0.mk ((by rw [hg]; exact (below_size (pB HB.out)) : w.heap.size ≤ gb497)); have n3_ := Aside0.mk ((by rw [hg]; exact (below_size (pB HB.out)) : w.heap.size ≤ gb497)); clear HB; have HB := n0_; have BK497 := n1_; have GW497 := n2_; have GE497 := n3_; clear n0_ n1_ n2_ n3_ hb hbox hg))
 (try simp only [Act.put, List.setIfInBounds_toArray, List.set_cons_zero, List.set_cons_succ])
 go_cut [19] (fun v19 wc => ∃ (kq : Nat) (x19_2 : Bool), v19 = .bool x19_2 ∧ Aside0 (garnerlaw27_ExportPuts.j0 kq l1 x19_2 a0_0 a0_1 l0_2 = some r) ∧ Aside0 (kq ≤ k) ∧ Aside0 (wc.heap[gb497]? = some (.cells #[.int .i64 a0_0, .int .i64 a0_1, (.slice A0_2 l0_2.length c0_2)] 29 (0, 0))) ∧ Aside0 (Below w.heap.size w wc))
 case first =>
  have H := HC3.out
  clear HC3
  replace H := Option.bind_eq_some_iff.mp H
  obtain ⟨t498, A50, H⟩ := H
  replace H : (if t498 = true then ((garnerlaw27_Light.f k l1).bind fun t499 => (garnerlaw27_ExportPuts.j0 k l1 (!t499) a0_0 a0_1 l0_2)) else (garnerlaw27_ExportPuts.j0 k l1 true a0_0 a0_1 l0_2)) = some r := H
  have A5 := Aside0.mk A50
  clear A50
  by_cases c6 : t498 = true
  ·subst c6
   have H1 : ((garnerlaw27_Light.f k l1).bind fun t499 => (garnerlaw27_ExportPuts.j0 k l1 (!t499) a0_0 a0_1 l0_2)) = some r := by rw [if_pos rfl] at H; exact H
   clear H
   have H := H1
   clear H1
   replace H := Option.bind_eq_some_iff.mp H
   obtain ⟨t499, A70, H⟩ := H
   replace H : (garnerlaw27_ExportPuts.j0 k l1 (!t499) a0_0 a0_1 l0_2) = some r := H
   have A7 := Aside0.mk A70
   clear A70
   have H' := Aside0.mk H
   clear H
   have hcz8_0 : w4.cell? ⟨gb497, 0, none⟩ = some (.int .i64 a0_0) := (blk_cell BK497.out 0).trans rfl
   have hcz8_1 : w4.cell? ⟨gb497, 1, none⟩ = some (.int .i64 a0_1) := (blk_cell BK497.out 1).trans rfl
   have hcz8_2 : w4.cell? ⟨gb497, 2, none⟩ = some (.slice A0_2 l0_2.length c0_2) := (blk_cell BK497.out 2).trans rfl
   have hfz8_0 := blk_frozen BK497.out 0
   have hfz8_1 := blk_frozen BK497.out 1
   have hfz8_2 := blk_frozen BK497.out 2
   go_wp2_with (first | ((with_reducible refine gate_callee (f := 19) rfl ?_); refine goesL_ (some 13) rfl rfl Try.func19 (by kernel_rfl) rfl #[.slice A0_2 l0_2.length c0_2] rfl pL ?_; (with_reducible refine (garnerlaw27_Light.calls k _ _ l0_2 true _ ?side1 ?side2 A5.out).mono ?_); (case side1 => exact pC (Kd.C_below HR0_2.out HB.out)); (case side2 => exact HC0_2.out); rintro e w' ⟨rfl, ⟨nd, rfl⟩⟩; refine ⟨_, rfl, ?_⟩) | (go_at_call 19; (with_reducible refine (garnerlaw27_Light.calls k _ _ l1 t499 _ ?side1 ?side2 A7.out).mono ?_); (case side1 => repeat (first | exact (Kd.C_below HR1.out (pE HB.out GE497.out)) | (with_reducible refine Kd.C_alloc ?_ _) | (with_reducible refine Kd.C_drewN ?_ _) | (with_reducible refine Kd.C_drew ?_))); (case side2 => exact HC1.out); rintro e w' ⟨rfl, ⟨nd, rfl⟩⟩))
   go_meet
   case rel => exact ⟨_, (!t499), (by first | rfl | (simp; done) | (simp [*]; done)), H', ⟨by first | omega | exact Nat.le_refl _⟩, ⟨by (with_reducible repeat (first | refine blk_drewN ?_ _ | refine blk_drew ?_ | refine blk_alloc ?_ _)); exact BK497.out⟩, ⟨by repeat (first | (with_reducible first | exact HB.out | apply below_alloc | apply pw_below_drewN | apply below_drew1 | refine below_set ?_ GE497.out) | exact HB.out)⟩⟩
  ·replace c6 := Bool.eq_false_iff.mpr c6
   subst c6
   have H1 : (garnerlaw27_ExportPuts.j0 k l1 true a0_0 a0_1 l0_2) = some r := by rw [if_neg (show ¬ (false = true) by decide)] at H; exact H
   clear H
   have H := H1
   clear H1
   have H' := Aside0.mk H
   clear H
   have hcz9_0 : w4.cell? ⟨gb497, 0, none⟩ = some (.int .i64 a0_0) := (blk_cell BK497.out 0).trans rfl
   have hcz9_1 : w4.cell? ⟨gb497, 1, none⟩ = some (.int .i64 a0_1) := (blk_cell BK497.out 1).trans rfl
   have hcz9_2 : w4.cell? ⟨gb497, 2, none⟩ = some (.slice A0_2 l0_2.length c0_2) := (blk_cell BK497.out 2).trans rfl
   have hfz9_0 := blk_frozen BK497.out 0
   have hfz9_1 := blk_frozen BK497.out 1
   have hfz9_2 := blk_frozen BK497.out 2
   go_wp2_with (first | ((with_reducible refine gate_callee (f := 19) rfl ?_); refine goesL_ (some 13) rfl rfl Try.func19 (by kernel_rfl) rfl #[.slice A0_2 l0_2.length c0_2] rfl pL ?_; (with_reducible refine (garnerlaw27_Light.calls k _ _ l0_2 false _ ?side1 ?side2 A5.out).mono ?_); (case side1 => exact pC (Kd.C_below HR0_2.out HB.out)); (case side2 => exact HC0_2.out); rintro e w' ⟨rfl, ⟨nd, rfl⟩⟩; refine ⟨_, rfl, ?_⟩))
   go_meet
   case rel => exact ⟨_, (true), (by first | rfl | (simp; done) | (simp [*]; done)), H', ⟨by first | omega | exact Nat.le_refl _⟩, ⟨by (with_reducible repeat (first | refine blk_drewN ?_ _ | refine blk_drew ?_ | refine blk_alloc ?_ _)); exact BK497.out⟩, ⟨by repeat (first | (with_reducible first | exact HB.out | apply below_alloc | apply pw_below_drewN | apply below_drew1 | refine below_set ?_ GE497.out) | exact HB.out)⟩⟩
 case rest =>
  clear HC3
  try clear c1
  try clear p2
  try clear c5
  try clear c6
  try clear hcz8_0
  try clear hcz8_1
  try clear hcz8_2
  try clear hcz9_0
  try clear hcz9_1
  try clear hcz9_2
  try clear hfz8_0
  try clear hfz8_1
  try clear hfz8_2
  try clear hfz9_0
  try clear hfz9_1
  try clear hfz9_2
  obtain ⟨kq, x19_2, rfl, HA, HJ2, BK497, HB⟩ := hcut
  cases kq with
  | zero => exact absurd HA.out (by simp [garnerlaw27_ExportPuts.j0])
  | succ kj2 =>
   have H := HA.out
   clear HA
   simp only [garnerlaw27_ExportPuts.j0] at H
   by_cases c10 : x19_2 = true
   ·subst c10
    have H1 : ((garnerlaw27_awake.f kj2).bind fun t500 => (some t500)) = some r := by rw [if_pos rfl] at H; exact H
    clear H
    have H := H1
    clear H1
    replace H := Option.bind_eq_some_iff.mp H
    obtain ⟨t500, A110, H⟩ := H
    replace H : (some t500) = some r := H
    have A11 := Aside0.mk A110
    clear A110
    obtain rfl := Option.some.inj H
    go_wp2_with (first | ((with_reducible refine gate_callee (f := 15) rfl ?_); refine goesL_ (some 20) rfl rfl Try.func15 (by kernel_rfl) rfl #[] rfl pL ?_; (with_reducible refine (garnerlaw27_awake.calls kj2  t500 _ A11.out).mono ?_); rintro e w12 ⟨rfl, hb⟩; refine ⟨_, rfl, ?_⟩; have n0_ := Aside0.mk (blk_below (g := gb497) (o := .cells #[.int .i64 a0_0, .int .i64 a0_1, .slice A0_2 l0_2.length c0_2] 29 (0, 0)) (pK BK497.out) hb); have n1_ := Aside0.mk (below_step (pE HB.out GE497.out) hb); clear BK497 HB; have BK497 := n0_; have HB := n1_; clear n0_ n1_; (try clear hb); (try clear hb2); (try clear hk); (try clear hi)))
    go_ret
    exact ⟨by first | rfl | (simp [errW_none, errW_some] <;> rfl) | (simp [*, errW_none, errW_some] <;> rfl), by repeat (first | (with_reducible first | exact HB.out | apply below_alloc | apply pw_below_drewN | apply below_drew1 | refine below_set ?_ GE497.out) | exact HB.out)⟩
   ·replace c10 := Bool.eq_false_iff.mpr c10
    subst c10
    have H1 : ((export_Put.f kj2 a0_0 a0_1 l0_2).bind fun bt501 => ((export_Sorted.f kj2 l1).bind fun t505 => ((garnerref27_Sorted.f kj2 l1).bind fun t506 => (if (t505 != t506) = true then (garnerlaw27_ExportPuts.j1 kj2 bt501.1 bt501.2 true a0_0 a0_1 l0_2) else ((export_Same.f kj2 l0_2 l1).bind fun t507 => ((garnerref27_Same.f kj2 l0_2 l1).bind fun t508 => (if (t507 != t508) = true then (garnerlaw27_ExportPuts.j1 kj2 bt501.1 bt501.2 true a0_0 a0_1 l0_2) else ((export_Same.f kj2 l1 l1).bind fun t509 => (garnerlaw27_ExportPuts.j1 kj2 bt501.1 bt501.2 (!t509) a0_0 a0_1 l0_2))))))))) = some r := by rw [if_neg (show ¬ (false = true) by decide)] at H; exact H
    clear H
    have H := H1
    clear H1
    replace H := Option.bind_eq_some_iff.mp H
    obtain ⟨⟨t501, t502⟩, A130, H⟩ := H
    replace H : ((export_Sorted.f kj2 l1).bind fun t505 => ((garnerref27_Sorted.f kj2 l1).bind fun t506 => (if (t505 != t506) = true then (garnerlaw27_ExportPuts.j1 kj2 t501 t502 true a0_0 a0_1 l0_2) else ((export_Same.f kj2 l0_2 l1).bind fun t507 => ((garnerref27_Same.f kj2 l0_2 l1).bind fun t508 => (if (t507 != t508) = true then (garnerlaw27_ExportPuts.j1 kj2 t501 t502 true a0_0 a0_1 l0_2) else ((export_Same.f kj2 l1 l1).bind fun t509 => (garnerlaw27_ExportPuts.j1 kj2 t501 t502 (!t509) a0_0 a0_1 l0_2)))))))) = some r := H
    have A13 := Aside0.mk A130
    clear A130
    have HC14 := Aside0.mk H
    clear H
    have hcz15_0 : wc.cell? ⟨gb497, 0, none⟩ = some (.int .i64 a0_0) := (blk_cell BK497.out 0).trans rfl
    have hcz15_1 : wc.cell? ⟨gb497, 1, none⟩ = some (.int .i64 a0_1) := (blk_cell BK497.out 1).trans rfl
    have hcz15_2 : wc.cell? ⟨gb497, 2, none⟩ = some (.slice A0_2 l0_2.length c0_2) := (blk_cell BK497.out 2).trans rfl
    have hfz15_0 := blk_frozen BK497.out 0
    have hfz15_1 := blk_frozen BK497.out 1
    have hfz15_2 := blk_frozen BK497.out 2
    go_upto_region 4 with (first | ((with_reducible refine gate_callee (f := 21) rfl ?_); refine goesL_ (some 28) rfl rfl Try.func21 (by kernel_rfl) rfl #[.int .i64 a0_0, .int .i64 a0_1, .slice A0_2 l0_2.length c0_2] rfl pL ?_; (with_reducible refine (export_Put.calls kj2 a0_0 a0_1 _ _ l0_2 t501 t502 _ ?side1 ?side2 A13.out).mono ?_); (case side1 => exact pC (Kd.C_below HR0_2.out HB.out)); (case side2 => exact HC0_2.out); rintro e w16 ⟨v503, rfl, ho0, hb⟩; refine ⟨_, rfl, ?_⟩; have n0_ := Aside0.mk (Kd.R_lower ho0 (below_size (pE HB.out GE497.out))); have n1_ := Aside0.mk (blk_below (g := gb497) (o := .cells #[.int .i64 a0_0, .int .i64 a0_1, .slice A0_2 l0_2.length c0_2] 29 (0, 0)) (pK BK497.out) hb); have n2_ := Aside0.mk (below_step (pE HB.out GE497.out) hb); clear BK497 HB; have HO504 := n0_; have BK497 := n1_; have HB := n2_; clear n0_ n1_ n2_; (try clear hb); (try clear hb2); (try clear hk); (try clear hi); (try clear ho0)))
    (try simp only [Act.put, List.setIfInBounds_toArray, List.set_cons_zero, List.set_cons_succ])
    go_cut [52] (fun v52 wc => ∃ (kq : Nat) (x52_13 : Bool), v52 = .bool x52_13 ∧ Aside0 (garnerlaw27_ExportPuts.j1 kq t501 t502 x52_13 a0_0 a0_1 l0_2 = some r) ∧ Aside0 (kq ≤ kj2) ∧ Aside0 (Kd.R (Kd.int .u8) 5 wc w.heap.size (fun _ => True) v503 t501) ∧ Aside0 (wc.heap[gb497]? = some (.cells #[.int .i64 a0_0, .int .i64 a0_1, (.slice A0_2 l0_2.length c0_2)] 29 (0, 0))) ∧ Aside0 (Below w.heap.size w wc))
    case first =>
     have H := HC14.out
     clear HC14
     replace H := Option.bind_eq_some_iff.mp H
     obtain ⟨t505, A170, H⟩ := H
     replace H : ((garnerref27_Sorted.f kj2 l1).bind fun t506 => (if (t505 != t506) = true then (garnerlaw27_ExportPuts.j1 kj2 t501 t502 true a0_0 a0_1 l0_2) else ((export_Same.f kj2 l0_2 l1).bind fun t507 => ((garnerref27_Same.f kj2 l0_2 l1).bind fun t508 => (if (t507 != t508) = true then (garnerlaw27_ExportPuts.j1 kj2 t501 t502 true a0_0 a0_1 l0_2) else ((export_Same.f kj2 l1 l1).bind fun t509 => (garnerlaw27_ExportPuts.j1 kj2 t501 t502 (!t509) a0_0 a0_1 l0_2))))))) = some r := H
     have A17 := Aside0.mk A170
     clear A170
     replace H := Option.bind_eq_some_iff.mp H
     obtain ⟨t506, A180, H⟩ := H
     replace H : (if (t505 != t506) = true then (garnerlaw27_ExportPuts.j1 kj2 t501 t502 true a0_0 a0_1 l0_2) else ((export_Same.f kj2 l0_2 l1).bind fun t507 => ((garnerref27_Same.f kj2 l0_2 l1).bind fun t508 => (if (t507 != t508) = true then (garnerlaw27_ExportPuts.j1 kj2 t501 t502 true a0_0 a0_1 l0_2) else ((export_Same.f kj2 l1 l1).bind fun t509 => (garnerlaw27_ExportPuts.j1 kj2 t501 t502 (!t509) a0_0 a0_1 l0_2)))))) = some r := H
     have A18 := Aside0.mk A180
     clear A180
     by_cases c19 : (t505 != t506) = true
     ·rw [if_pos c19] at H
      have c19b0 : (t505 != t506) = true := c19
      (try (have c19b1 : decide (t505 = t506) = false := by simpa using c19))
      (try (have c19b2 : (t505 == t506) = false := by simpa using c19))
      (try (have c19b3 : ¬ (t505 = t506) := by simpa using c19))
      clear c19
      (first | rw [c19b0] | (simp only [i64_w, i32_w]; rw [c19b0]) | skip)
      have H' := Aside0.mk H
      clear H
      try go_wp2
      have n0_ := Aside0.mk (Kd.R_drew HO504.out)
      have n1_ := Aside0.mk (blk_drew BK497.out)
      have n2_ := Aside0.mk (below_drew1 HB.out)
      clear HO504
      clear BK497
      clear HB
      have HO504 := n0_
      have BK497 := n1_
      have HB := n2_
      clear n0_ n1_ n2_
      refine start_ (n := 22) (S := fun w' => True) (ds := []) #[false, false, false, false, false, false, false, false, false, false, false, false, false, false, false, false, false, false, false, false, false, false] (by kernel_rfl) rfl rfl trivial (fun hHeld => ?_); refine with_tabW garnerlaw27_ExportPuts.tab4 garnerlaw27_ExportPuts.bits4 (fun HT_ HW_ => ?_)
      generalize w16.drew = w20 at HO504 BK497 HB hHeld ⊢
      refine pure_ (i := 0) (N := some 31) (v := ?_) (a' := ?_) #[true, false, false, false, false, false, false, false, false, false, false, false, false, false, false, false, false, false, false, false, false, false] rfl rfl (any_of HT_.out (by kernel_rfl)) (fun _ _ _ h => h) (Or.inl ⟨by rfl, ?_⟩) ?_ ?_
      rotate_left
      ·intro w'
       go_simp
       with_reducible rfl
      rotate_left
      ·simp only [Act.put, List.setIfInBounds_toArray, List.set_cons_zero, List.set_cons_succ, i64_w, i32_w]
       rfl
      refine pure_ (i := 2) (N := some 33) (v := ?_) (a' := ?_) #[true, false, true, false, false, false, false, false, false, false, false, false, false, false, false, false, false, false, false, false, false, false] rfl rfl (any_of HT_.out (by kernel_rfl)) (fun _ _ _ h => h) (Or.inl ⟨by rfl, ?_⟩) ?_ ?_
      rotate_left
      ·intro w'
       go_simp
       with_reducible rfl
      rotate_left
      ·simp only [Act.put, List.setIfInBounds_toArray, List.set_cons_zero, List.set_cons_succ, i64_w, i32_w]
       rfl
      refine one_ (i := 1) (N := some 32) #[true, true, true, false, false, false, false, false, false, false, false, false, false, false, false, false, false, false, false, false, false, false] rfl rfl (one_of HT_.out (by kernel_rfl)) (by decide) (fun K hK => ?_)
      refine goes_ Try.func23 (by kernel_rfl) rfl #[.slice A1 l1.length c1] (by rfl) rfl rfl pL ?_
      with_reducible refine (export_Sorted.calls kj2 _ _ l1 t505 _ ?side1 ?side2 A17.out).mono ?_
      (case side1 => exact pC (Kd.C_below HR1.out HB.out))
      (case side2 => exact HC1.out)
      rintro e w21 ⟨rfl, hb⟩
      refine ⟨_, rfl, ?_⟩
      have n0_ := Aside0.mk (Kd.R_below (pR HO504.out) hb)
      have n1_ := Aside0.mk (blk_below (g := gb497) (o := .cells #[.int .i64 a0_0, .int .i64 a0_1, .slice A0_2 l0_2.length c0_2] 29 (0, 0)) (pK BK497.out) hb)
      have n2_ := Aside0.mk (below_step (pE HB.out GE497.out) hb)
      clear HO504
      clear BK497
      clear HB
      have HO504 := n0_
      have BK497 := n1_
      have HB := n2_
      clear n0_ n1_ n2_
      (try clear hb)
      (try clear hb2)
      (try clear hk)
      (try clear hi)
      refine hK.out _ _ trivial (fun hHeld => ?_)
      clear hK K
      refine norm_ (a' := ?_) ?_ ?_
      rotate_left
      ·show Act.put _ (some 32) _ = _
       simp only [Act.put, List.setIfInBounds_toArray, List.set_cons_zero, List.set_cons_succ, i64_w, i32_w]
       rfl
      refine one_ (i := 3) (N := some 34) #[true, true, true, true, false, false, false, false, false, false, false, false, false, false, false, false, false, false, false, false, false, false] rfl rfl (one_of HT_.out (by kernel_rfl)) (by decide) (fun K hK => ?_)
      refine goes_ Try.func24 (by kernel_rfl) rfl #[.slice A1 l1.length c1] (by rfl) rfl rfl pL ?_
      with_reducible refine (garnerref27_Sorted.calls kj2 _ _ l1 t506 _ ?side1 ?side2 A18.out).mono ?_
      (case side1 => exact pC (Kd.C_below HR1.out HB.out))
      (case side2 => exact HC1.out)
      rintro e w' ⟨rfl, ⟨nd, rfl⟩⟩
      refine ⟨_, rfl, ?_⟩
      refine hK.out _ _ trivial (fun hHeld => ?_)
      clear hK K
      refine norm_ (a' := ?_) ?_ ?_
      rotate_left
      ·show Act.put _ (some 34) _ = _
       simp only [Act.put, List.setIfInBounds_toArray, List.set_cons_zero, List.set_cons_succ, i64_w, i32_w]
       rfl
      refine pure_ (i := 4) (N := some 35) (v := ?_) (a' := ?_) #[true, true, true, true, true, false, false, false, false, false, false, false, false, false, false, false, false, false, false, false, false, false] rfl rfl (any_of HT_.out (by kernel_rfl)) (fun _ _ _ h => h) (Or.inl ⟨by rfl, ?_⟩) ?_ ?_
      rotate_left
      ·intro w'
       go_simp
       with_reducible rfl
      rotate_left
      ·simp only [Act.put, List.setIfInBounds_toArray, List.set_cons_zero, List.set_cons_succ, i64_w, i32_w]
       rfl
      refine pure_ (i := 5) (N := some 36) (v := ?_) (a' := ?_) #[true, true, true, true, true, true, false, false, false, false, false, false, false, false, false, false, false, false, false, false, false, false] rfl rfl (any_of HT_.out (by kernel_rfl)) (fun _ _ _ h => h) (Or.inl ⟨by rfl, ?_⟩) ?_ ?_
      rotate_left
      ·intro w'
       go_simp
       with_reducible rfl
      rotate_left
      ·simp only [Act.put, List.setIfInBounds_toArray, List.set_cons_zero, List.set_cons_succ, i64_w, i32_w]
       rfl
      refine pure_ (i := 6) (N := some 37) (v := undef) (a' := ?_) #[true, true, true, true, true, true, true, false, false, false, false, false, false, false, false, false, false, false, false, false, false, false] rfl rfl (any_of HT_.out (by kernel_rfl)) (fun _ _ _ h => h) (Or.inr ⟨by rfl, rfl⟩) ?_ ?_
      rotate_left
      ·simp only [Act.put, List.setIfInBounds_toArray, List.set_cons_zero, List.set_cons_succ, i64_w, i32_w]
       rfl
      refine pure_ (i := 7) (N := some 38) (v := undef) (a' := ?_) #[true, true, true, true, true, true, true, true, false, false, false, false, false, false, false, false, false, false, false, false, false, false] rfl rfl (any_of HT_.out (by kernel_rfl)) (fun _ _ _ h => h) (Or.inr ⟨by rfl, rfl⟩) ?_ ?_
      rotate_left
      ·simp only [Act.put, List.setIfInBounds_toArray, List.set_cons_zero, List.set_cons_succ, i64_w, i32_w]
       rfl
      refine pure_ (i := 8) (N := some 39) (v := undef) (a' := ?_) #[true, true, true, true, true, true, true, true, true, false, false, false, false, false, false, false, false, false, false, false, false, false] rfl rfl (any_of HT_.out (by kernel_rfl)) (fun _ _ _ h => h) (Or.inr ⟨by rfl, rfl⟩) ?_ ?_
      rotate_left
      ·simp only [Act.put, List.setIfInBounds_toArray, List.set_cons_zero, List.set_cons_succ, i64_w, i32_w]
       rfl
      refine pure_ (i := 9) (N := some 40) (v := undef) (a' := ?_) #[true, true, true, true, true, true, true, true, true, true, false, false, false, false, false, false, false, false, false, false, false, false] rfl rfl (any_of HT_.out (by kernel_rfl)) (fun _ _ _ h => h) (Or.inr ⟨by rfl, rfl⟩) ?_ ?_
      rotate_left
      ·simp only [Act.put, List.setIfInBounds_toArray, List.set_cons_zero, List.set_cons_succ, i64_w, i32_w]
       rfl
      refine pure_ (i := 10) (N := some 41) (v := undef) (a' := ?_) #[true, true, true, true, true, true, true, true, true, true, true, false, false, false, false, false, false, false, false, false, false, false] rfl rfl (any_of HT_.out (by kernel_rfl)) (fun _ _ _ h => h) (Or.inr ⟨by rfl, rfl⟩) ?_ ?_
      rotate_left
      ·simp only [Act.put, List.setIfInBounds_toArray, List.set_cons_zero, List.set_cons_succ, i64_w, i32_w]
       rfl
      refine pure_ (i := 11) (N := some 42) (v := undef) (a' := ?_) #[true, true, true, true, true, true, true, true, true, true, true, true, false, false, false, false, false, false, false, false, false, false] rfl rfl (any_of HT_.out (by kernel_rfl)) (fun _ _ _ h => h) (Or.inr ⟨by rfl, rfl⟩) ?_ ?_
      rotate_left
      ·simp only [Act.put, List.setIfInBounds_toArray, List.set_cons_zero, List.set_cons_succ, i64_w, i32_w]
       rfl
      refine pure_ (i := 12) (N := some 43) (v := undef) (a' := ?_) #[true, true, true, true, true, true, true, true, true, true, true, true, true, false, false, false, false, false, false, false, false, false] rfl rfl (any_of HT_.out (by kernel_rfl)) (fun _ _ _ h => h) (Or.inr ⟨by rfl, rfl⟩) ?_ ?_
      rotate_left
      ·simp only [Act.put, List.setIfInBounds_toArray, List.set_cons_zero, List.set_cons_succ, i64_w, i32_w]
       rfl
      refine pure_ (i := 13) (N := some 44) (v := undef) (a' := ?_) #[true, true, true, true, true, true, true, true, true, true, true, true, true, true, false, false, false, false, false, false, false, false] rfl rfl (any_of HT_.out (by kernel_rfl)) (fun _ _ _ h => h) (Or.inr ⟨by rfl, rfl⟩) ?_ ?_
      rotate_left
      ·simp only [Act.put, List.setIfInBounds_toArray, List.set_cons_zero, List.set_cons_succ, i64_w, i32_w]
       rfl
      refine pure_ (i := 14) (N := some 45) (v := undef) (a' := ?_) #[true, true, true, true, true, true, true, true, true, true, true, true, true, true, true, false, false, false, false, false, false, false] rfl rfl (any_of HT_.out (by kernel_rfl)) (fun _ _ _ h => h) (Or.inr ⟨by rfl, rfl⟩) ?_ ?_
      rotate_left
      ·simp only [Act.put, List.setIfInBounds_toArray, List.set_cons_zero, List.set_cons_succ, i64_w, i32_w]
       rfl
      refine pure_ (i := 15) (N := some 46) (v := ?_) (a' := ?_) #[true, true, true, true, true, true, true, true, true, true, true, true, true, true, true, true, false, false, false, false, false, false] rfl rfl (any_of HT_.out (by kernel_rfl)) (fun _ _ _ h => h) (Or.inl ⟨by rfl, ?_⟩) ?_ ?_
      rotate_left
      ·intro w'
       go_simp
       with_reducible rfl
      rotate_left
      ·simp only [Act.put, List.setIfInBounds_toArray, List.set_cons_zero, List.set_cons_succ, i64_w, i32_w]
       rfl
      refine pure_ (i := 16) (N := some 47) (v := ?_) (a' := ?_) #[true, true, true, true, true, true, true, true, true, true, true, true, true, true, true, true, true, false, false, false, false, false] rfl rfl (any_of HT_.out (by kernel_rfl)) (fun _ _ _ h => h) (Or.inl ⟨by rfl, ?_⟩) ?_ ?_
      rotate_left
      ·intro w'
       go_simp
       with_reducible rfl
      rotate_left
      ·simp only [Act.put, List.setIfInBounds_toArray, List.set_cons_zero, List.set_cons_succ, i64_w, i32_w]
       rfl
      refine pure_ (i := 17) (N := some 48) (v := undef) (a' := ?_) #[true, true, true, true, true, true, true, true, true, true, true, true, true, true, true, true, true, true, false, false, false, false] rfl rfl (any_of HT_.out (by kernel_rfl)) (fun _ _ _ h => h) (Or.inr ⟨by rfl, rfl⟩) ?_ ?_
      rotate_left
      ·simp only [Act.put, List.setIfInBounds_toArray, List.set_cons_zero, List.set_cons_succ, i64_w, i32_w]
       rfl
      refine pure_ (i := 18) (N := some 49) (v := undef) (a' := ?_) #[true, true, true, true, true, true, true, true, true, true, true, true, true, true, true, true, true, true, true, false, false, false] rfl rfl (any_of HT_.out (by kernel_rfl)) (fun _ _ _ h => h) (Or.inr ⟨by rfl, rfl⟩) ?_ ?_
      rotate_left
      ·simp only [Act.put, List.setIfInBounds_toArray, List.set_cons_zero, List.set_cons_succ, i64_w, i32_w]
       rfl
      refine pure_ (i := 19) (N := some 50) (v := undef) (a' := ?_) #[true, true, true, true, true, true, true, true, true, true, true, true, true, true, true, true, true, true, true, true, false, false] rfl rfl (any_of HT_.out (by kernel_rfl)) (fun _ _ _ h => h) (Or.inr ⟨by rfl, rfl⟩) ?_ ?_
      rotate_left
      ·simp only [Act.put, List.setIfInBounds_toArray, List.set_cons_zero, List.set_cons_succ, i64_w, i32_w]
       rfl
      refine pure_ (i := 20) (N := some 51) (v := undef) (a' := ?_) #[true, true, true, true, true, true, true, true, true, true, true, true, true, true, true, true, true, true, true, true, true, false] rfl rfl (any_of HT_.out (by kernel_rfl)) (fun _ _ _ h => h) (Or.inr ⟨by rfl, rfl⟩) ?_ ?_
      rotate_left
      ·simp only [Act.put, List.setIfInBounds_toArray, List.set_cons_zero, List.set_cons_succ, i64_w, i32_w]
       rfl
      refine pure_ (i := 21) (N := some 52) (v := ?_) (a' := ?_) #[true, true, true, true, true, true, true, true, true, true, true, true, true, true, true, true, true, true, true, true, true, true] rfl rfl (any_of HT_.out (by kernel_rfl)) (fun _ _ _ h => h) (Or.inl ⟨by rfl, ?_⟩) ?_ ?_
      rotate_left
      ·intro w'
       go_simp
       with_reducible rfl
      rotate_left
      ·simp only [Act.put, List.setIfInBounds_toArray, List.set_cons_zero, List.set_cons_succ, i64_w, i32_w]
       rfl
      refine done_ (done_of HT_.out (by kernel_rfl)) ?_
      try go_wp2
      go_meet
      case rel => exact ⟨_, (true), (by first | rfl | (simp; done) | (simp [*]; done)), H', ⟨by have := HJ2.out; first | omega | exact Nat.le_refl _⟩, ⟨by (with_reducible repeat (first | apply Kd.R_alloc | apply Kd.R_drewN | apply Kd.R_drew)); exact HO504.out⟩, ⟨by (with_reducible repeat (first | refine blk_drewN ?_ _ | refine blk_drew ?_ | refine blk_alloc ?_ _)); exact BK497.out⟩, ⟨by repeat (first | (with_reducible first | exact HB.out | apply below_alloc | apply pw_below_drewN | apply below_drew1 | refine below_set ?_ GE497.out) | exact HB.out)⟩⟩
     ·rw [if_neg c19] at H
      have c19b0 : (t505 != t506) = false := by simpa using c19
      (try (have c19b1 : decide (t505 = t506) = true := by simpa using c19))
      (try (have c19b2 : (t505 == t506) = true := by simpa using c19))
      clear c19
      (first | rw [c19b0] | (simp only [i64_w, i32_w]; rw [c19b0]) | skip)
      replace H := Option.bind_eq_some_iff.mp H
      obtain ⟨t507, A220, H⟩ := H
      replace H : ((garnerref27_Same.f kj2 l0_2 l1).bind fun t508 => (if (t507 != t508) = true then (garnerlaw27_ExportPuts.j1 kj2 t501 t502 true a0_0 a0_1 l0_2) else ((export_Same.f kj2 l1 l1).bind fun t509 => (garnerlaw27_ExportPuts.j1 kj2 t501 t502 (!t509) a0_0 a0_1 l0_2)))) = some r := H
      have A22 := Aside0.mk A220
      clear A220
      replace H := Option.bind_eq_some_iff.mp H
      obtain ⟨t508, A230, H⟩ := H
      replace H : (if (t507 != t508) = true then (garnerlaw27_ExportPuts.j1 kj2 t501 t502 true a0_0 a0_1 l0_2) else ((export_Same.f kj2 l1 l1).bind fun t509 => (garnerlaw27_ExportPuts.j1 kj2 t501 t502 (!t509) a0_0 a0_1 l0_2))) = some r := H
      have A23 := Aside0.mk A230
      clear A230
      by_cases c24 : (t507 != t508) = true
      ·rw [if_pos c24] at H
       have c24b0 : (t507 != t508) = true := c24
       (try (have c24b1 : decide (t507 = t508) = false := by simpa using c24))
       (try (have c24b2 : (t507 == t508) = false := by simpa using c24))
       (try (have c24b3 : ¬ (t507 = t508) := by simpa using c24))
       clear c24
       have H' := Aside0.mk H
       clear H
       try go_wp2
       have n0_ := Aside0.mk (Kd.R_drew HO504.out)
       have n1_ := Aside0.mk (blk_drew BK497.out)
       have n2_ := Aside0.mk (below_drew1 HB.out)
       clear HO504
       clear BK497
       clear HB
       have HO504 := n0_
       have BK497 := n1_
       have HB := n2_
       clear n0_ n1_ n2_
       refine start_ (n := 22) (S := fun w' => w'.cell? ⟨gb497, 0, none⟩ = some (.int .i64 a0_0) ∧ w'.cell? ⟨gb497, 1, none⟩ = some (.int .i64 a0_1) ∧ w'.cell? ⟨gb497, 2, none⟩ = some (.slice A0_2 l0_2.length c0_2)) (ds := []) #[false, false, false, false, false, false, false, false, false, false, false, false, false, false, false, false, false, false, false, false, false, false] (by kernel_rfl) rfl rfl ⟨(blk_cell BK497.out 0).trans rfl, (blk_cell BK497.out 1).trans rfl, (blk_cell BK497.out 2).trans rfl⟩ (fun hHeld => ?_); refine with_tabW garnerlaw27_ExportPuts.tab4 garnerlaw27_ExportPuts.bits4 (fun HT_ HW_ => ?_)
       generalize w16.drew = w25 at HO504 BK497 HB hHeld ⊢
       refine pure_ (i := 0) (N := some 31) (v := ?_) (a' := ?_) #[true, false, false, false, false, false, false, false, false, false, false, false, false, false, false, false, false, false, false, false, false, false] rfl rfl (any_of HT_.out (by kernel_rfl)) (fun _ _ _ h => h) (Or.inl ⟨by rfl, ?_⟩) ?_ ?_
       rotate_left
       ·intro w'
        go_simp
        with_reducible rfl
       rotate_left
       ·simp only [Act.put, List.setIfInBounds_toArray, List.set_cons_zero, List.set_cons_succ, i64_w, i32_w]
        rfl
       refine pure_ (i := 2) (N := some 33) (v := ?_) (a' := ?_) #[true, false, true, false, false, false, false, false, false, false, false, false, false, false, false, false, false, false, false, false, false, false] rfl rfl (any_of HT_.out (by kernel_rfl)) (fun _ _ _ h => h) (Or.inl ⟨by rfl, ?_⟩) ?_ ?_
       rotate_left
       ·intro w'
        go_simp
        with_reducible rfl
       rotate_left
       ·simp only [Act.put, List.setIfInBounds_toArray, List.set_cons_zero, List.set_cons_succ, i64_w, i32_w]
        rfl
       refine one_ (i := 1) (N := some 32) #[true, true, true, false, false, false, false, false, false, false, false, false, false, false, false, false, false, false, false, false, false, false] rfl rfl (one_of HT_.out (by kernel_rfl)) (by decide) (fun K hK => ?_)
       refine goes_ Try.func23 (by kernel_rfl) rfl #[.slice A1 l1.length c1] (by rfl) rfl rfl pL ?_
       with_reducible refine (export_Sorted.calls kj2 _ _ l1 t505 _ ?side1 ?side2 A17.out).mono ?_
       (case side1 => exact pC (Kd.C_below HR1.out HB.out))
       (case side2 => exact HC1.out)
       rintro e w26 ⟨rfl, hb⟩
       refine ⟨_, rfl, ?_⟩
       have n0_ := Aside0.mk (Kd.R_below (pR HO504.out) hb)
       have n1_ := Aside0.mk (blk_below (g := gb497) (o := .cells #[.int .i64 a0_0, .int .i64 a0_1, .slice A0_2 l0_2.length c0_2] 29 (0, 0)) (pK BK497.out) hb)
       have n2_ := Aside0.mk (below_step (pE HB.out GE497.out) hb)
       clear HO504
       clear BK497
       clear HB
       have HO504 := n0_
       have BK497 := n1_
       have HB := n2_
       clear n0_ n1_ n2_
       (try clear hb)
       (try clear hb2)
       (try clear hk)
       (try clear hi)
       refine hK.out _ _ ⟨(blk_cell BK497.out 0).trans rfl, (blk_cell BK497.out 1).trans rfl, (blk_cell BK497.out 2).trans rfl⟩ (fun hHeld => ?_)
       clear hK K
       refine norm_ (a' := ?_) ?_ ?_
       rotate_left
       ·show Act.put _ (some 32) _ = _
        simp only [Act.put, List.setIfInBounds_toArray, List.set_cons_zero, List.set_cons_succ, i64_w, i32_w]
        rfl
       refine one_ (i := 3) (N := some 34) #[true, true, true, true, false, false, false, false, false, false, false, false, false, false, false, false, false, false, false, false, false, false] rfl rfl (one_of HT_.out (by kernel_rfl)) (by decide) (fun K hK => ?_)
       refine goes_ Try.func24 (by kernel_rfl) rfl #[.slice A1 l1.length c1] (by rfl) rfl rfl pL ?_
       with_reducible refine (garnerref27_Sorted.calls kj2 _ _ l1 t506 _ ?side1 ?side2 A18.out).mono ?_
       (case side1 => exact pC (Kd.C_below HR1.out HB.out))
       (case side2 => exact HC1.out)
       rintro e w' ⟨rfl, ⟨nd, rfl⟩⟩
       refine ⟨_, rfl, ?_⟩
       refine hK.out _ _ ⟨(blk_cell BK497.out 0).trans rfl, (blk_cell BK497.out 1).trans rfl, (blk_cell BK497.out 2).trans rfl⟩ (fun hHeld => ?_)
       clear hK K
       refine norm_ (a' := ?_) ?_ ?_
       rotate_left
       ·show Act.put _ (some 34) _ = _
        simp only [Act.put, List.setIfInBounds_toArray, List.set_cons_zero, List.set_cons_succ, i64_w, i32_w]
        rfl
       refine pure_ (i := 4) (N := some 35) (v := ?_) (a' := ?_) #[true, true, true, true, true, false, false, false, false, false, false, false, false, false, false, false, false, false, false, false, false, false] rfl rfl (any_of HT_.out (by kernel_rfl)) (fun _ _ _ h => h) (Or.inl ⟨by rfl, ?_⟩) ?_ ?_
       rotate_left
       ·intro w'
        go_simp
        with_reducible rfl
       rotate_left
       ·simp only [Act.put, List.setIfInBounds_toArray, List.set_cons_zero, List.set_cons_succ, i64_w, i32_w]
        rfl
       refine pure_ (i := 5) (N := some 36) (v := ?_) (a' := ?_) #[true, true, true, true, true, true, false, false, false, false, false, false, false, false, false, false, false, false, false, false, false, false] rfl rfl (any_of HT_.out (by kernel_rfl)) (fun _ _ _ h => h) (Or.inl ⟨by rfl, ?_⟩) ?_ ?_
       rotate_left
       ·intro w'
        go_simp
        with_reducible rfl
       rotate_left
       ·simp only [Act.put, List.setIfInBounds_toArray, List.set_cons_zero, List.set_cons_succ, i64_w, i32_w]
        rfl
       refine pure_ (i := 6) (N := some 37) (v := ?_) (a' := ?_) #[true, true, true, true, true, true, true, false, false, false, false, false, false, false, false, false, false, false, false, false, false, false] rfl rfl (any_of HT_.out (by kernel_rfl)) (fun _ _ _ h => h) (Or.inl ⟨by rfl, ?_⟩) ?_ ?_
       rotate_left
       ·intro w'
        go_simp
        with_reducible rfl
       rotate_left
       ·simp only [Act.put, List.setIfInBounds_toArray, List.set_cons_zero, List.set_cons_succ, i64_w, i32_w]
        rfl
       refine pure_ (i := 8) (N := some 39) (v := ?_) (a' := ?_) #[true, true, true, true, true, true, true, false, true, false, false, false, false, false, false, false, false, false, false, false, false, false] rfl rfl (any_of HT_.out (by kernel_rfl)) (fun _ _ _ h => h) (Or.inl ⟨by rfl, ?_⟩) ?_ ?_
       rotate_left
       ·intro w'
        go_simp
        with_reducible rfl
       rotate_left
       ·simp only [Act.put, List.setIfInBounds_toArray, List.set_cons_zero, List.set_cons_succ, i64_w, i32_w]
        rfl
       refine pure_ (i := 10) (N := some 41) (v := ?_) (a' := ?_) #[true, true, true, true, true, true, true, false, true, false, true, false, false, false, false, false, false, false, false, false, false, false] rfl rfl (any_of HT_.out (by kernel_rfl)) (fun _ _ _ h => h) (Or.inl ⟨by rfl, ?_⟩) ?_ ?_
       rotate_left
       ·intro w'
        go_simp
        with_reducible rfl
       rotate_left
       ·simp only [Act.put, List.setIfInBounds_toArray, List.set_cons_zero, List.set_cons_succ, i64_w, i32_w]
        rfl
       refine pure_ (i := 12) (N := some 43) (v := ?_) (a' := ?_) #[true, true, true, true, true, true, true, false, true, false, true, false, true, false, false, false, false, false, false, false, false, false] rfl rfl (any_of HT_.out (by kernel_rfl)) (fun _ _ _ h => h) (Or.inl ⟨by rfl, ?_⟩) ?_ ?_
       rotate_left
       ·intro w'
        go_simp
        with_reducible rfl
       rotate_left
       ·simp only [Act.put, List.setIfInBounds_toArray, List.set_cons_zero, List.set_cons_succ, i64_w, i32_w]
        rfl
       refine take_ (i := 7) (N := some 38) (v := ?_) (a' := ?_) #[true, true, true, true, true, true, true, true, true, false, true, false, true, false, false, false, false, false, false, false, false, false] rfl rfl (take_ofW HT_.out HW_.out (by kernel_rfl)) (fun _ _ _ h => h) (Or.inl ⟨by rfl, ?_⟩) hHeld ?_ ?_
       rotate_left
       ·rintro w' ⟨s0, s1, s2⟩
        go_simp
        with_reducible rfl
       rotate_left
       ·simp only [Act.put, List.setIfInBounds_toArray, List.set_cons_zero, List.set_cons_succ, i64_w, i32_w]
        rfl
       refine take_ (i := 11) (N := some 42) (v := ?_) (a' := ?_) #[true, true, true, true, true, true, true, true, true, false, true, true, true, false, false, false, false, false, false, false, false, false] rfl rfl (take_ofW HT_.out HW_.out (by kernel_rfl)) (fun _ _ _ h => h) (Or.inl ⟨by rfl, ?_⟩) hHeld ?_ ?_
       rotate_left
       ·rintro w' ⟨s0, s1, s2⟩
        go_simp
        with_reducible rfl
       rotate_left
       ·simp only [Act.put, List.setIfInBounds_toArray, List.set_cons_zero, List.set_cons_succ, i64_w, i32_w]
        rfl
       refine one_ (i := 9) (N := some 40) #[true, true, true, true, true, true, true, true, true, true, true, true, true, false, false, false, false, false, false, false, false, false] rfl rfl (one_of HT_.out (by kernel_rfl)) (by decide) (fun K hK => ?_)
       refine goes_ Try.func25 (by kernel_rfl) rfl #[.slice A0_2 l0_2.length c0_2, .slice A1 l1.length c1] (by rfl) rfl rfl pL ?_
       with_reducible refine (export_Same.calls kj2 _ _ l0_2 _ _ l1 t507 _ ?side1 ?side2 ?side3 ?side4 A22.out).mono ?_
       (case side1 => repeat (first | exact (Kd.C_below HR0_2.out (pE HB.out GE497.out)) | (with_reducible refine Kd.C_alloc ?_ _) | (with_reducible refine Kd.C_drewN ?_ _) | (with_reducible refine Kd.C_drew ?_)))
       (case side2 => exact HC0_2.out)
       (case side3 => repeat (first | exact (Kd.C_below HR1.out (pE HB.out GE497.out)) | (with_reducible refine Kd.C_alloc ?_ _) | (with_reducible refine Kd.C_drewN ?_ _) | (with_reducible refine Kd.C_drew ?_)))
       (case side4 => exact HC1.out)
       rintro e w27 ⟨rfl, hb⟩
       refine ⟨_, rfl, ?_⟩
       have n0_ := Aside0.mk (Kd.R_below (pR HO504.out) hb)
       have n1_ := Aside0.mk (blk_below (g := gb497) (o := .cells #[.int .i64 a0_0, .int .i64 a0_1, .slice A0_2 l0_2.length c0_2] 29 (0, 0)) (pK BK497.out) hb)
       have n2_ := Aside0.mk (below_step (pE HB.out GE497.out) hb)
       clear HO504
       clear BK497
       clear HB
       have HO504 := n0_
       have BK497 := n1_
       have HB := n2_
       clear n0_ n1_ n2_
       (try clear hb)
       (try clear hb2)
       (try clear hk)
       (try clear hi)
       refine hK.out _ _ ⟨(blk_cell BK497.out 0).trans rfl, (blk_cell BK497.out 1).trans rfl, (blk_cell BK497.out 2).trans rfl⟩ (fun hHeld => ?_)
       clear hK K
       refine norm_ (a' := ?_) ?_ ?_
       rotate_left
       ·show Act.put _ (some 40) _ = _
        simp only [Act.put, List.setIfInBounds_toArray, List.set_cons_zero, List.set_cons_succ, i64_w, i32_w]
        rfl
       refine one_ (i := 13) (N := some 44) #[true, true, true, true, true, true, true, true, true, true, true, true, true, true, false, false, false, false, false, false, false, false] rfl rfl (one_of HT_.out (by kernel_rfl)) (by decide) (fun K hK => ?_)
       refine goes_ Try.func18 (by kernel_rfl) rfl #[.slice A0_2 l0_2.length c0_2, .slice A1 l1.length c1] (by rfl) rfl rfl pL ?_
       with_reducible refine (garnerref27_Same.calls kj2 _ _ l0_2 _ _ l1 t508 _ ?side1 ?side2 ?side3 ?side4 A23.out).mono ?_
       (case side1 => exact pC (Kd.C_below HR0_2.out HB.out))
       (case side2 => exact HC0_2.out)
       (case side3 => exact pC (Kd.C_below HR1.out HB.out))
       (case side4 => exact HC1.out)
       rintro e w' ⟨rfl, ⟨nd, rfl⟩⟩
       refine ⟨_, rfl, ?_⟩
       refine hK.out _ _ ⟨(blk_cell BK497.out 0).trans rfl, (blk_cell BK497.out 1).trans rfl, (blk_cell BK497.out 2).trans rfl⟩ (fun hHeld => ?_)
       clear hK K
       refine norm_ (a' := ?_) ?_ ?_
       rotate_left
       ·show Act.put _ (some 44) _ = _
        simp only [Act.put, List.setIfInBounds_toArray, List.set_cons_zero, List.set_cons_succ, i64_w, i32_w]
        rfl
       refine pure_ (i := 14) (N := some 45) (v := ?_) (a' := ?_) #[true, true, true, true, true, true, true, true, true, true, true, true, true, true, true, false, false, false, false, false, false, false] rfl rfl (any_of HT_.out (by kernel_rfl)) (fun _ _ _ h => h) (Or.inl ⟨by rfl, ?_⟩) ?_ ?_
       rotate_left
       ·intro w'
        go_simp
        with_reducible rfl
       rotate_left
       ·simp only [Act.put, List.setIfInBounds_toArray, List.set_cons_zero, List.set_cons_succ, i64_w, i32_w]
        rfl
       refine pure_ (i := 15) (N := some 46) (v := ?_) (a' := ?_) #[true, true, true, true, true, true, true, true, true, true, true, true, true, true, true, true, false, false, false, false, false, false] rfl rfl (any_of HT_.out (by kernel_rfl)) (fun _ _ _ h => h) (Or.inl ⟨by rfl, ?_⟩) ?_ ?_
       rotate_left
       ·intro w'
        go_simp
        with_reducible rfl
       rotate_left
       ·simp only [Act.put, List.setIfInBounds_toArray, List.set_cons_zero, List.set_cons_succ, i64_w, i32_w]
        rfl
       refine pure_ (i := 16) (N := some 47) (v := ?_) (a' := ?_) #[true, true, true, true, true, true, true, true, true, true, true, true, true, true, true, true, true, false, false, false, false, false] rfl rfl (any_of HT_.out (by kernel_rfl)) (fun _ _ _ h => h) (Or.inl ⟨by rfl, ?_⟩) ?_ ?_
       rotate_left
       ·intro w'
        go_simp
        with_reducible rfl
       rotate_left
       ·simp only [Act.put, List.setIfInBounds_toArray, List.set_cons_zero, List.set_cons_succ, i64_w, i32_w]
        rfl
       refine pure_ (i := 17) (N := some 48) (v := undef) (a' := ?_) #[true, true, true, true, true, true, true, true, true, true, true, true, true, true, true, true, true, true, false, false, false, false] rfl rfl (any_of HT_.out (by kernel_rfl)) (fun _ _ _ h => h) (Or.inr ⟨by rfl, rfl⟩) ?_ ?_
       rotate_left
       ·simp only [Act.put, List.setIfInBounds_toArray, List.set_cons_zero, List.set_cons_succ, i64_w, i32_w]
        rfl
       refine pure_ (i := 18) (N := some 49) (v := undef) (a' := ?_) #[true, true, true, true, true, true, true, true, true, true, true, true, true, true, true, true, true, true, true, false, false, false] rfl rfl (any_of HT_.out (by kernel_rfl)) (fun _ _ _ h => h) (Or.inr ⟨by rfl, rfl⟩) ?_ ?_
       rotate_left
       ·simp only [Act.put, List.setIfInBounds_toArray, List.set_cons_zero, List.set_cons_succ, i64_w, i32_w]
        rfl
       refine pure_ (i := 19) (N := some 50) (v := undef) (a' := ?_) #[true, true, true, true, true, true, true, true, true, true, true, true, true, true, true, true, true, true, true, true, false, false] rfl rfl (any_of HT_.out (by kernel_rfl)) (fun _ _ _ h => h) (Or.inr ⟨by rfl, rfl⟩) ?_ ?_
       rotate_left
       ·simp only [Act.put, List.setIfInBounds_toArray, List.set_cons_zero, List.set_cons_succ, i64_w, i32_w]
        rfl
       refine pure_ (i := 20) (N := some 51) (v := undef) (a' := ?_) #[true, true, true, true, true, true, true, true, true, true, true, true, true, true, true, true, true, true, true, true, true, false] rfl rfl (any_of HT_.out (by kernel_rfl)) (fun _ _ _ h => h) (Or.inr ⟨by rfl, rfl⟩) ?_ ?_
       rotate_left
       ·simp only [Act.put, List.setIfInBounds_toArray, List.set_cons_zero, List.set_cons_succ, i64_w, i32_w]
        rfl
       refine pure_ (i := 21) (N := some 52) (v := ?_) (a' := ?_) #[true, true, true, true, true, true, true, true, true, true, true, true, true, true, true, true, true, true, true, true, true, true] rfl rfl (any_of HT_.out (by kernel_rfl)) (fun _ _ _ h => h) (Or.inl ⟨by rfl, ?_⟩) ?_ ?_
       rotate_left
       ·intro w'
        go_simp
        with_reducible rfl
       rotate_left
       ·simp only [Act.put, List.setIfInBounds_toArray, List.set_cons_zero, List.set_cons_succ, i64_w, i32_w]
        rfl
       refine done_ (done_of HT_.out (by kernel_rfl)) ?_
       try go_wp2
       go_meet
       case rel => exact ⟨_, (true), (by first | rfl | (simp; done) | (simp [*]; done)), H', ⟨by have := HJ2.out; first | omega | exact Nat.le_refl _⟩, ⟨by (with_reducible repeat (first | apply Kd.R_alloc | apply Kd.R_drewN | apply Kd.R_drew)); exact HO504.out⟩, ⟨by (with_reducible repeat (first | refine blk_drewN ?_ _ | refine blk_drew ?_ | refine blk_alloc ?_ _)); exact BK497.out⟩, ⟨by repeat (first | (with_reducible first | exact HB.out | apply below_alloc | apply pw_below_drewN | apply below_drew1 | refine below_set ?_ GE497.out) | exact HB.out)⟩⟩
      ·rw [if_neg c24] at H
       have c24b0 : (t507 != t508) = false := by simpa using c24
       (try (have c24b1 : decide (t507 = t508) = true := by simpa using c24))
       (try (have c24b2 : (t507 == t508) = true := by simpa using c24))
       clear c24
       replace H := Option.bind_eq_some_iff.mp H
       obtain ⟨t509, A280, H⟩ := H
       replace H : (garnerlaw27_ExportPuts.j1 kj2 t501 t502 (!t509) a0_0 a0_1 l0_2) = some r := H
       have A28 := Aside0.mk A280
       clear A280
       have H' := Aside0.mk H
       clear H
       try go_wp2
       have n0_ := Aside0.mk (Kd.R_drew HO504.out)
       have n1_ := Aside0.mk (blk_drew BK497.out)
       have n2_ := Aside0.mk (below_drew1 HB.out)
       clear HO504
       clear BK497
       clear HB
       have HO504 := n0_
       have BK497 := n1_
       have HB := n2_
       clear n0_ n1_ n2_
       refine start_ (n := 22) (S := fun w' => w'.cell? ⟨gb497, 0, none⟩ = some (.int .i64 a0_0) ∧ w'.cell? ⟨gb497, 1, none⟩ = some (.int .i64 a0_1) ∧ w'.cell? ⟨gb497, 2, none⟩ = some (.slice A0_2 l0_2.length c0_2)) (ds := []) #[false, false, false, false, false, false, false, false, false, false, false, false, false, false, false, false, false, false, false, false, false, false] (by kernel_rfl) rfl rfl ⟨(blk_cell BK497.out 0).trans rfl, (blk_cell BK497.out 1).trans rfl, (blk_cell BK497.out 2).trans rfl⟩ (fun hHeld => ?_); refine with_tabW garnerlaw27_ExportPuts.tab4 garnerlaw27_ExportPuts.bits4 (fun HT_ HW_ => ?_)
       generalize w16.drew = w29 at HO504 BK497 HB hHeld ⊢
       refine pure_ (i := 0) (N := some 31) (v := ?_) (a' := ?_) #[true, false, false, false, false, false, false, false, false, false, false, false, false, false, false, false, false, false, false, false, false, false] rfl rfl (any_of HT_.out (by kernel_rfl)) (fun _ _ _ h => h) (Or.inl ⟨by rfl, ?_⟩) ?_ ?_
       rotate_left
       ·intro w'
        go_simp
        with_reducible rfl
       rotate_left
       ·simp only [Act.put, List.setIfInBounds_toArray, List.set_cons_zero, List.set_cons_succ, i64_w, i32_w]
        rfl
       refine pure_ (i := 2) (N := some 33) (v := ?_) (a' := ?_) #[true, false, true, false, false, false, false, false, false, false, false, false, false, false, false, false, false, false, false, false, false, false] rfl rfl (any_of HT_.out (by kernel_rfl)) (fun _ _ _ h => h) (Or.inl ⟨by rfl, ?_⟩) ?_ ?_
       rotate_left
       ·intro w'
        go_simp
        with_reducible rfl
       rotate_left
       ·simp only [Act.put, List.setIfInBounds_toArray, List.set_cons_zero, List.set_cons_succ, i64_w, i32_w]
        rfl
       refine one_ (i := 1) (N := some 32) #[true, true, true, false, false, false, false, false, false, false, false, false, false, false, false, false, false, false, false, false, false, false] rfl rfl (one_of HT_.out (by kernel_rfl)) (by decide) (fun K hK => ?_)
       refine goes_ Try.func23 (by kernel_rfl) rfl #[.slice A1 l1.length c1] (by rfl) rfl rfl pL ?_
       with_reducible refine (export_Sorted.calls kj2 _ _ l1 t505 _ ?side1 ?side2 A17.out).mono ?_
       (case side1 => exact pC (Kd.C_below HR1.out HB.out))
       (case side2 => exact HC1.out)
       rintro e w30 ⟨rfl, hb⟩
       refine ⟨_, rfl, ?_⟩
       have n0_ := Aside0.mk (Kd.R_below (pR HO504.out) hb)
       have n1_ := Aside0.mk (blk_below (g := gb497) (o := .cells #[.int .i64 a0_0, .int .i64 a0_1, .slice A0_2 l0_2.length c0_2] 29 (0, 0)) (pK BK497.out) hb)
       have n2_ := Aside0.mk (below_step (pE HB.out GE497.out) hb)
       clear HO504
       clear BK497
       clear HB
       have HO504 := n0_
       have BK497 := n1_
       have HB := n2_
       clear n0_ n1_ n2_
       (try clear hb)
       (try clear hb2)
       (try clear hk)
       (try clear hi)
       refine hK.out _ _ ⟨(blk_cell BK497.out 0).trans rfl, (blk_cell BK497.out 1).trans rfl, (blk_cell BK497.out 2).trans rfl⟩ (fun hHeld => ?_)
       clear hK K
       refine norm_ (a' := ?_) ?_ ?_
       rotate_left
       ·show Act.put _ (some 32) _ = _
        simp only [Act.put, List.setIfInBounds_toArray, List.set_cons_zero, List.set_cons_succ, i64_w, i32_w]
        rfl
       refine one_ (i := 3) (N := some 34) #[true, true, true, true, false, false, false, false, false, false, false, false, false, false, false, false, false, false, false, false, false, false] rfl rfl (one_of HT_.out (by kernel_rfl)) (by decide) (fun K hK => ?_)
       refine goes_ Try.func24 (by kernel_rfl) rfl #[.slice A1 l1.length c1] (by rfl) rfl rfl pL ?_
       with_reducible refine (garnerref27_Sorted.calls kj2 _ _ l1 t506 _ ?side1 ?side2 A18.out).mono ?_
       (case side1 => exact pC (Kd.C_below HR1.out HB.out))
       (case side2 => exact HC1.out)
       rintro e w' ⟨rfl, ⟨nd, rfl⟩⟩
       refine ⟨_, rfl, ?_⟩
       refine hK.out _ _ ⟨(blk_cell BK497.out 0).trans rfl, (blk_cell BK497.out 1).trans rfl, (blk_cell BK497.out 2).trans rfl⟩ (fun hHeld => ?_)
       clear hK K
       refine norm_ (a' := ?_) ?_ ?_
       rotate_left
       ·show Act.put _ (some 34) _ = _
        simp only [Act.put, List.setIfInBounds_toArray, List.set_cons_zero, List.set_cons_succ, i64_w, i32_w]
        rfl
       refine pure_ (i := 4) (N := some 35) (v := ?_) (a' := ?_) #[true, true, true, true, true, false, false, false, false, false, false, false, false, false, false, false, false, false, false, false, false, false] rfl rfl (any_of HT_.out (by kernel_rfl)) (fun _ _ _ h => h) (Or.inl ⟨by rfl, ?_⟩) ?_ ?_
       rotate_left
       ·intro w'
        go_simp
        with_reducible rfl
       rotate_left
       ·simp only [Act.put, List.setIfInBounds_toArray, List.set_cons_zero, List.set_cons_succ, i64_w, i32_w]
        rfl
       refine pure_ (i := 5) (N := some 36) (v := ?_) (a' := ?_) #[true, true, true, true, true, true, false, false, false, false, false, false, false, false, false, false, false, false, false, false, false, false] rfl rfl (any_of HT_.out (by kernel_rfl)) (fun _ _ _ h => h) (Or.inl ⟨by rfl, ?_⟩) ?_ ?_
       rotate_left
       ·intro w'
        go_simp
        with_reducible rfl
       rotate_left
       ·simp only [Act.put, List.setIfInBounds_toArray, List.set_cons_zero, List.set_cons_succ, i64_w, i32_w]
        rfl
       refine pure_ (i := 6) (N := some 37) (v := ?_) (a' := ?_) #[true, true, true, true, true, true, true, false, false, false, false, false, false, false, false, false, false, false, false, false, false, false] rfl rfl (any_of HT_.out (by kernel_rfl)) (fun _ _ _ h => h) (Or.inl ⟨by rfl, ?_⟩) ?_ ?_
       rotate_left
       ·intro w'
        go_simp
        with_reducible rfl
       rotate_left
       ·simp only [Act.put, List.setIfInBounds_toArray, List.set_cons_zero, List.set_cons_succ, i64_w, i32_w]
        rfl
       refine pure_ (i := 8) (N := some 39) (v := ?_) (a' := ?_) #[true, true, true, true, true, true, true, false, true, false, false, false, false, false, false, false, false, false, false, false, false, false] rfl rfl (any_of HT_.out (by kernel_rfl)) (fun _ _ _ h => h) (Or.inl ⟨by rfl, ?_⟩) ?_ ?_
       rotate_left
       ·intro w'
        go_simp
        with_reducible rfl
       rotate_left
       ·simp only [Act.put, List.setIfInBounds_toArray, List.set_cons_zero, List.set_cons_succ, i64_w, i32_w]
        rfl
       refine pure_ (i := 10) (N := some 41) (v := ?_) (a' := ?_) #[true, true, true, true, true, true, true, false, true, false, true, false, false, false, false, false, false, false, false, false, false, false] rfl rfl (any_of HT_.out (by kernel_rfl)) (fun _ _ _ h => h) (Or.inl ⟨by rfl, ?_⟩) ?_ ?_
       rotate_left
       ·intro w'
        go_simp
        with_reducible rfl
       rotate_left
       ·simp only [Act.put, List.setIfInBounds_toArray, List.set_cons_zero, List.set_cons_succ, i64_w, i32_w]
        rfl
       refine pure_ (i := 12) (N := some 43) (v := ?_) (a' := ?_) #[true, true, true, true, true, true, true, false, true, false, true, false, true, false, false, false, false, false, false, false, false, false] rfl rfl (any_of HT_.out (by kernel_rfl)) (fun _ _ _ h => h) (Or.inl ⟨by rfl, ?_⟩) ?_ ?_
       rotate_left
       ·intro w'
        go_simp
        with_reducible rfl
       rotate_left
       ·simp only [Act.put, List.setIfInBounds_toArray, List.set_cons_zero, List.set_cons_succ, i64_w, i32_w]
        rfl
       refine take_ (i := 7) (N := some 38) (v := ?_) (a' := ?_) #[true, true, true, true, true, true, true, true, true, false, true, false, true, false, false, false, false, false, false, false, false, false] rfl rfl (take_ofW HT_.out HW_.out (by kernel_rfl)) (fun _ _ _ h => h) (Or.inl ⟨by rfl, ?_⟩) hHeld ?_ ?_
       rotate_left
       ·rintro w' ⟨s0, s1, s2⟩
        go_simp
        with_reducible rfl
       rotate_left
       ·simp only [Act.put, List.setIfInBounds_toArray, List.set_cons_zero, List.set_cons_succ, i64_w, i32_w]
        rfl
       refine take_ (i := 11) (N := some 42) (v := ?_) (a' := ?_) #[true, true, true, true, true, true, true, true, true, false, true, true, true, false, false, false, false, false, false, false, false, false] rfl rfl (take_ofW HT_.out HW_.out (by kernel_rfl)) (fun _ _ _ h => h) (Or.inl ⟨by rfl, ?_⟩) hHeld ?_ ?_
       rotate_left
       ·rintro w' ⟨s0, s1, s2⟩
        go_simp
        with_reducible rfl
       rotate_left
       ·simp only [Act.put, List.setIfInBounds_toArray, List.set_cons_zero, List.set_cons_succ, i64_w, i32_w]
        rfl
       refine one_ (i := 9) (N := some 40) #[true, true, true, true, true, true, true, true, true, true, true, true, true, false, false, false, false, false, false, false, false, false] rfl rfl (one_of HT_.out (by kernel_rfl)) (by decide) (fun K hK => ?_)
       refine goes_ Try.func25 (by kernel_rfl) rfl #[.slice A0_2 l0_2.length c0_2, .slice A1 l1.length c1] (by rfl) rfl rfl pL ?_
       with_reducible refine (export_Same.calls kj2 _ _ l0_2 _ _ l1 t507 _ ?side1 ?side2 ?side3 ?side4 A22.out).mono ?_
       (case side1 => repeat (first | exact (Kd.C_below HR0_2.out (pE HB.out GE497.out)) | (with_reducible refine Kd.C_alloc ?_ _) | (with_reducible refine Kd.C_drewN ?_ _) | (with_reducible refine Kd.C_drew ?_)))
       (case side2 => exact HC0_2.out)
       (case side3 => repeat (first | exact (Kd.C_below HR1.out (pE HB.out GE497.out)) | (with_reducible refine Kd.C_alloc ?_ _) | (with_reducible refine Kd.C_drewN ?_ _) | (with_reducible refine Kd.C_drew ?_)))
       (case side4 => exact HC1.out)
       rintro e w31 ⟨rfl, hb⟩
       refine ⟨_, rfl, ?_⟩
       have n0_ := Aside0.mk (Kd.R_below (pR HO504.out) hb)
       have n1_ := Aside0.mk (blk_below (g := gb497) (o := .cells #[.int .i64 a0_0, .int .i64 a0_1, .slice A0_2 l0_2.length c0_2] 29 (0, 0)) (pK BK497.out) hb)
       have n2_ := Aside0.mk (below_step (pE HB.out GE497.out) hb)
       clear HO504
       clear BK497
       clear HB
       have HO504 := n0_
       have BK497 := n1_
       have HB := n2_
       clear n0_ n1_ n2_
       (try clear hb)
       (try clear hb2)
       (try clear hk)
       (try clear hi)
       refine hK.out _ _ ⟨(blk_cell BK497.out 0).trans rfl, (blk_cell BK497.out 1).trans rfl, (blk_cell BK497.out 2).trans rfl⟩ (fun hHeld => ?_)
       clear hK K
       refine norm_ (a' := ?_) ?_ ?_
       rotate_left
       ·show Act.put _ (some 40) _ = _
        simp only [Act.put, List.setIfInBounds_toArray, List.set_cons_zero, List.set_cons_succ, i64_w, i32_w]
        rfl
       refine one_ (i := 13) (N := some 44) #[true, true, true, true, true, true, true, true, true, true, true, true, true, true, false, false, false, false, false, false, false, false] rfl rfl (one_of HT_.out (by kernel_rfl)) (by decide) (fun K hK => ?_)
       refine goes_ Try.func18 (by kernel_rfl) rfl #[.slice A0_2 l0_2.length c0_2, .slice A1 l1.length c1] (by rfl) rfl rfl pL ?_
       with_reducible refine (garnerref27_Same.calls kj2 _ _ l0_2 _ _ l1 t508 _ ?side1 ?side2 ?side3 ?side4 A23.out).mono ?_
       (case side1 => exact pC (Kd.C_below HR0_2.out HB.out))
       (case side2 => exact HC0_2.out)
       (case side3 => exact pC (Kd.C_below HR1.out HB.out))
       (case side4 => exact HC1.out)
       rintro e w' ⟨rfl, ⟨nd, rfl⟩⟩
       refine ⟨_, rfl, ?_⟩
       refine hK.out _ _ ⟨(blk_cell BK497.out 0).trans rfl, (blk_cell BK497.out 1).trans rfl, (blk_cell BK497.out 2).trans rfl⟩ (fun hHeld => ?_)
       clear hK K
       refine norm_ (a' := ?_) ?_ ?_
       rotate_left
       ·show Act.put _ (some 44) _ = _
        simp only [Act.put, List.setIfInBounds_toArray, List.set_cons_zero, List.set_cons_succ, i64_w, i32_w]
        rfl
       refine pure_ (i := 14) (N := some 45) (v := ?_) (a' := ?_) #[true, true, true, true, true, true, true, true, true, true, true, true, true, true, true, false, false, false, false, false, false, false] rfl rfl (any_of HT_.out (by kernel_rfl)) (fun _ _ _ h => h) (Or.inl ⟨by rfl, ?_⟩) ?_ ?_
       rotate_left
       ·intro w'
        go_simp
        with_reducible rfl
       rotate_left
       ·simp only [Act.put, List.setIfInBounds_toArray, List.set_cons_zero, List.set_cons_succ, i64_w, i32_w]
        rfl
       refine pure_ (i := 15) (N := some 46) (v := ?_) (a' := ?_) #[true, true, true, true, true, true, true, true, true, true, true, true, true, true, true, true, false, false, false, false, false, false] rfl rfl (any_of HT_.out (by kernel_rfl)) (fun _ _ _ h => h) (Or.inl ⟨by rfl, ?_⟩) ?_ ?_
       rotate_left
       ·intro w'
        go_simp
        with_reducible rfl
       rotate_left
       ·simp only [Act.put, List.setIfInBounds_toArray, List.set_cons_zero, List.set_cons_succ, i64_w, i32_w]
        rfl
       refine pure_ (i := 16) (N := some 47) (v := ?_) (a' := ?_) #[true, true, true, true, true, true, true, true, true, true, true, true, true, true, true, true, true, false, false, false, false, false] rfl rfl (any_of HT_.out (by kernel_rfl)) (fun _ _ _ h => h) (Or.inl ⟨by rfl, ?_⟩) ?_ ?_
       rotate_left
       ·intro w'
        go_simp
        with_reducible rfl
       rotate_left
       ·simp only [Act.put, List.setIfInBounds_toArray, List.set_cons_zero, List.set_cons_succ, i64_w, i32_w]
        rfl
       refine pure_ (i := 17) (N := some 48) (v := ?_) (a' := ?_) #[true, true, true, true, true, true, true, true, true, true, true, true, true, true, true, true, true, true, false, false, false, false] rfl rfl (any_of HT_.out (by kernel_rfl)) (fun _ _ _ h => h) (Or.inl ⟨by rfl, ?_⟩) ?_ ?_
       rotate_left
       ·intro w'
        go_simp
        with_reducible rfl
       rotate_left
       ·simp only [Act.put, List.setIfInBounds_toArray, List.set_cons_zero, List.set_cons_succ, i64_w, i32_w]
        rfl
       refine pure_ (i := 18) (N := some 49) (v := ?_) (a' := ?_) #[true, true, true, true, true, true, true, true, true, true, true, true, true, true, true, true, true, true, true, false, false, false] rfl rfl (any_of HT_.out (by kernel_rfl)) (fun _ _ _ h => h) (Or.inl ⟨by rfl, ?_⟩) ?_ ?_
       rotate_left
       ·intro w'
        go_simp
        with_reducible rfl
       rotate_left
       ·simp only [Act.put, List.setIfInBounds_toArray, List.set_cons_zero, List.set_cons_succ, i64_w, i32_w]
        rfl
       refine one_ (i := 19) (N := some 50) #[true, true, true, true, true, true, true, true, true, true, true, true, true, true, true, true, true, true, true, true, false, false] rfl rfl (one_of HT_.out (by kernel_rfl)) (by decide) (fun K hK => ?_)
       refine goes_ Try.func25 (by kernel_rfl) rfl #[.slice A1 l1.length c1, .slice A1 l1.length c1] (by rfl) rfl rfl pL ?_
       with_reducible refine (export_Same.calls kj2 _ _ l1 _ _ l1 t509 _ ?side1 ?side2 ?side3 ?side4 A28.out).mono ?_
       (case side1 => repeat (first | exact (Kd.C_below HR1.out (pE HB.out GE497.out)) | (with_reducible refine Kd.C_alloc ?_ _) | (with_reducible refine Kd.C_drewN ?_ _) | (with_reducible refine Kd.C_drew ?_)))
       (case side2 => exact HC1.out)
       (case side3 => repeat (first | exact (Kd.C_below HR1.out (pE HB.out GE497.out)) | (with_reducible refine Kd.C_alloc ?_ _) | (with_reducible refine Kd.C_drewN ?_ _) | (with_reducible refine Kd.C_drew ?_)))
       (case side4 => exact HC1.out)
       rintro e w32 ⟨rfl, hb⟩
       refine ⟨_, rfl, ?_⟩
       have n0_ := Aside0.mk (Kd.R_below (pR HO504.out) hb)
       have n1_ := Aside0.mk (blk_below (g := gb497) (o := .cells #[.int .i64 a0_0, .int .i64 a0_1, .slice A0_2 l0_2.length c0_2] 29 (0, 0)) (pK BK497.out) hb)
       have n2_ := Aside0.mk (below_step (pE HB.out GE497.out) hb)
       clear HO504
       clear BK497
       clear HB
       have HO504 := n0_
       have BK497 := n1_
       have HB := n2_
       clear n0_ n1_ n2_
       (try clear hb)
       (try clear hb2)
       (try clear hk)
       (try clear hi)
       refine hK.out _ _ ⟨(blk_cell BK497.out 0).trans rfl, (blk_cell BK497.out 1).trans rfl, (blk_cell BK497.out 2).trans rfl⟩ (fun hHeld => ?_)
       clear hK K
       refine norm_ (a' := ?_) ?_ ?_
       rotate_left
       ·show Act.put _ (some 50) _ = _
        simp only [Act.put, List.setIfInBounds_toArray, List.set_cons_zero, List.set_cons_succ, i64_w, i32_w]
        rfl
       refine pure_ (i := 20) (N := some 51) (v := ?_) (a' := ?_) #[true, true, true, true, true, true, true, true, true, true, true, true, true, true, true, true, true, true, true, true, true, false] rfl rfl (any_of HT_.out (by kernel_rfl)) (fun _ _ _ h => h) (Or.inl ⟨by rfl, ?_⟩) ?_ ?_
       rotate_left
       ·intro w'
        go_simp
        with_reducible rfl
       rotate_left
       ·simp only [Act.put, List.setIfInBounds_toArray, List.set_cons_zero, List.set_cons_succ, i64_w, i32_w]
        rfl
       refine pure_ (i := 21) (N := some 52) (v := ?_) (a' := ?_) #[true, true, true, true, true, true, true, true, true, true, true, true, true, true, true, true, true, true, true, true, true, true] rfl rfl (any_of HT_.out (by kernel_rfl)) (fun _ _ _ h => h) (Or.inl ⟨by rfl, ?_⟩) ?_ ?_
       rotate_left
       ·intro w'
        go_simp
        with_reducible rfl
       rotate_left
       ·simp only [Act.put, List.setIfInBounds_toArray, List.set_cons_zero, List.set_cons_succ, i64_w, i32_w]
        rfl
       refine done_ (done_of HT_.out (by kernel_rfl)) ?_
       try go_wp2
       go_meet
       case rel => exact ⟨_, (!t509), (by first | rfl | (simp; done) | (simp [*]; done)), H', ⟨by have := HJ2.out; first | omega | exact Nat.le_refl _⟩, ⟨by (with_reducible repeat (first | apply Kd.R_alloc | apply Kd.R_drewN | apply Kd.R_drew)); exact HO504.out⟩, ⟨by (with_reducible repeat (first | refine blk_drewN ?_ _ | refine blk_drew ?_ | refine blk_alloc ?_ _)); exact BK497.out⟩, ⟨by repeat (first | (with_reducible first | exact HB.out | apply below_alloc | apply pw_below_drewN | apply below_drew1 | refine below_set ?_ GE497.out) | exact HB.out)⟩⟩
    case rest =>
     clear HC14
     try clear c1
     try clear c2
     try clear p2
     try clear c18
     try clear c19
     try clear c19b0
     try clear c19b1
     try clear c19b2
     try clear c23
     try clear c24
     try clear c24b0
     try clear c24b1
     try clear c24b2
     try clear c25
     obtain ⟨kq, x52_13, rfl, HA, HJ13, HO_5, BK497, HB⟩ := hcut
     cases kq with
     | zero => exact absurd HA.out (by simp [garnerlaw27_ExportPuts.j1])
     | succ kj13 =>
      have H := HA.out
      clear HA
      simp only [garnerlaw27_ExportPuts.j1] at H
      by_cases c33 : x52_13 = true
      ·subst c33
       have H1 : (some false) = some r := by rw [if_pos rfl] at H; exact H
       clear H
       have H := H1
       clear H1
       obtain rfl := Option.some.inj H
       go_wp2
       go_ret
       exact ⟨by first | rfl | (simp [errW_none, errW_some] <;> rfl) | (simp [*, errW_none, errW_some] <;> rfl), by repeat (first | (with_reducible first | exact HB.out | apply below_alloc | apply pw_below_drewN | apply below_drew1 | refine below_set ?_ GE497.out) | exact HB.out)⟩
      ·replace c33 := Bool.eq_false_iff.mpr c33
       subst c33
       have H1 : ((garnerref27_May.f kj13 a0_0 a0_1 l0_2).bind fun t510 => (if t510 = true then ((export_Get.f kj13 t501).bind fun bt512 => (if t502 = 0 then ((garnerref27_Put.f kj13 a0_0 a0_1 l0_2).bind fun t518 => ((garnerref02_Bytes.f kj13 t501 t518).bind fun t521 => (if t521 = true then (if bt512.2.2.2 = 0 then (if bt512.1 = a0_0 then (if bt512.2.1 = a0_1 then ((garnerref27_Same.f kj13 bt512.2.2.1 l0_2).bind fun t522 => (if t522 = true then ((garnerlaw27_awake.f kj13).bind fun t523 => (some t523)) else (some false))) else (some false)) else (some false)) else (some false)) else (some false)))) else (some false))) else (if t502 = 1 then (if (t501.length : Int) = 0 then ((garnerlaw27_awake.f kj13).bind fun t511 => (some t511)) else (some false)) else (some false)))) = some r := by rw [if_neg (show ¬ (false = true) by decide)] at H; exact H
       clear H
       have H := H1
       clear H1
       replace H := Option.bind_eq_some_iff.mp H
       obtain ⟨t510, A340, H⟩ := H
       replace H : (if t510 = true then ((export_Get.f kj13 t501).bind fun bt512 => (if t502 = 0 then ((garnerref27_Put.f kj13 a0_0 a0_1 l0_2).bind fun t518 => ((garnerref02_Bytes.f kj13 t501 t518).bind fun t521 => (if t521 = true then (if bt512.2.2.2 = 0 then (if bt512.1 = a0_0 then (if bt512.2.1 = a0_1 then ((garnerref27_Same.f kj13 bt512.2.2.1 l0_2).bind fun t522 => (if t522 = true then ((garnerlaw27_awake.f kj13).bind fun t523 => (some t523)) else (some false))) else (some false)) else (some false)) else (some false)) else (some false)))) else (some false))) else (if t502 = 1 then (if (t501.length : Int) = 0 then ((garnerlaw27_awake.f kj13).bind fun t511 => (some t511)) else (some false)) else (some false))) = some r := H
       have A34 := Aside0.mk A340
       clear A340
       by_cases c35 : t510 = true
       ·subst c35
        have H1 : ((export_Get.f kj13 t501).bind fun bt512 => (if t502 = 0 then ((garnerref27_Put.f kj13 a0_0 a0_1 l0_2).bind fun t518 => ((garnerref02_Bytes.f kj13 t501 t518).bind fun t521 => (if t521 = true then (if bt512.2.2.2 = 0 then (if bt512.1 = a0_0 then (if bt512.2.1 = a0_1 then ((garnerref27_Same.f kj13 bt512.2.2.1 l0_2).bind fun t522 => (if t522 = true then ((garnerlaw27_awake.f kj13).bind fun t523 => (some t523)) else (some false))) else (some false)) else (some false)) else (some false)) else (some false)))) else (some false))) = some r := by rw [if_pos rfl] at H; exact H
        clear H
        have H := H1
        clear H1
        replace H := Option.bind_eq_some_iff.mp H
        obtain ⟨⟨t512, t513, t514, t517⟩, A360, H⟩ := H
        replace H : (if t502 = 0 then ((garnerref27_Put.f kj13 a0_0 a0_1 l0_2).bind fun t518 => ((garnerref02_Bytes.f kj13 t501 t518).bind fun t521 => (if t521 = true then (if t517 = 0 then (if t512 = a0_0 then (if t513 = a0_1 then ((garnerref27_Same.f kj13 t514 l0_2).bind fun t522 => (if t522 = true then ((garnerlaw27_awake.f kj13).bind fun t523 => (some t523)) else (some false))) else (some false)) else (some false)) else (some false)) else (some false)))) else (some false)) = some r := H
        have A36 := Aside0.mk A360
        clear A360
        by_cases c37 : t502 = 0
        ·rw [if_pos c37] at H
         have c37b0 : (t502 == 0) = true := beq_iff_eq.mpr c37
         have c37b1 : (t502 != 0) = false := bne_eq_false_iff_eq.mpr c37
         clear c37
         replace H := Option.bind_eq_some_iff.mp H
         obtain ⟨t518, A380, H⟩ := H
         replace H : ((garnerref02_Bytes.f kj13 t501 t518).bind fun t521 => (if t521 = true then (if t517 = 0 then (if t512 = a0_0 then (if t513 = a0_1 then ((garnerref27_Same.f kj13 t514 l0_2).bind fun t522 => (if t522 = true then ((garnerlaw27_awake.f kj13).bind fun t523 => (some t523)) else (some false))) else (some false)) else (some false)) else (some false)) else (some false))) = some r := H
         have A38 := Aside0.mk A380
         clear A380
         replace H := Option.bind_eq_some_iff.mp H
         obtain ⟨t521, A390, H⟩ := H
         replace H : (if t521 = true then (if t517 = 0 then (if t512 = a0_0 then (if t513 = a0_1 then ((garnerref27_Same.f kj13 t514 l0_2).bind fun t522 => (if t522 = true then ((garnerlaw27_awake.f kj13).bind fun t523 => (some t523)) else (some false))) else (some false)) else (some false)) else (some false)) else (some false)) = some r := H
         have A39 := Aside0.mk A390
         clear A390
         by_cases c40 : t521 = true
         ·subst c40
          have H1 : (if t517 = 0 then (if t512 = a0_0 then (if t513 = a0_1 then ((garnerref27_Same.f kj13 t514 l0_2).bind fun t522 => (if t522 = true then ((garnerlaw27_awake.f kj13).bind fun t523 => (some t523)) else (some false))) else (some false)) else (some false)) else (some false)) = some r := by rw [if_pos rfl] at H; exact H
          clear H
          have H := H1
          clear H1
          by_cases c41 : t517 = 0
          ·rw [if_pos c41] at H
           have c41b0 : (t517 == 0) = true := beq_iff_eq.mpr c41
           have c41b1 : (t517 != 0) = false := bne_eq_false_iff_eq.mpr c41
           clear c41
           by_cases c42 : t512 = a0_0
           ·rw [if_pos c42] at H
            have c42b0 : (t512 == a0_0) = true := beq_iff_eq.mpr c42
            have c42b1 : (t512 != a0_0) = false := bne_eq_false_iff_eq.mpr c42
            clear c42
            by_cases c43 : t513 = a0_1
            ·rw [if_pos c43] at H
             have c43b0 : (t513 == a0_1) = true := beq_iff_eq.mpr c43
             have c43b1 : (t513 != a0_1) = false := bne_eq_false_iff_eq.mpr c43
             clear c43
             replace H := Option.bind_eq_some_iff.mp H
             obtain ⟨t522, A440, H⟩ := H
             replace H : (if t522 = true then ((garnerlaw27_awake.f kj13).bind fun t523 => (some t523)) else (some false)) = some r := H
             have A44 := Aside0.mk A440
             clear A440
             by_cases c45 : t522 = true
             ·subst c45
              have H1 : ((garnerlaw27_awake.f kj13).bind fun t523 => (some t523)) = some r := by rw [if_pos rfl] at H; exact H
              clear H
              have H := H1
              clear H1
              replace H := Option.bind_eq_some_iff.mp H
              obtain ⟨t523, A460, H⟩ := H
              replace H : (some t523) = some r := H
              have A46 := Aside0.mk A460
              clear A460
              obtain rfl := Option.some.inj H
              have hcz47_0 : wc.cell? ⟨gb497, 0, none⟩ = some (.int .i64 a0_0) := (blk_cell BK497.out 0).trans rfl
              have hcz47_1 : wc.cell? ⟨gb497, 1, none⟩ = some (.int .i64 a0_1) := (blk_cell BK497.out 1).trans rfl
              have hcz47_2 : wc.cell? ⟨gb497, 2, none⟩ = some (.slice A0_2 l0_2.length c0_2) := (blk_cell BK497.out 2).trans rfl
              have hfz47_0 := blk_frozen BK497.out 0
              have hfz47_1 := blk_frozen BK497.out 1
              have hfz47_2 := blk_frozen BK497.out 2
              go_wp2_with (first | ((with_reducible refine gate_callee (f := 20) rfl ?_); refine goesL_ (some 54) rfl rfl Try.func20 (by kernel_rfl) rfl #[.agg #[.int .i64 a0_0, .int .i64 a0_1, .slice A0_2 l0_2.length c0_2]] rfl pL ?_; (with_reducible refine (garnerref27_May.calls kj13 a0_0 a0_1 _ _ l0_2 true _ ?side1 ?side2 A34.out).mono ?_); (case side1 => exact pC (Kd.C_below HR0_2.out HB.out)); (case side2 => exact HC0_2.out); rintro e w48 ⟨rfl, hb⟩; refine ⟨_, rfl, ?_⟩; have n0_ := Aside0.mk (Kd.R_below (pR HO_5.out) hb); have n1_ := Aside0.mk (blk_below (g := gb497) (o := .cells #[.int .i64 a0_0, .int .i64 a0_1, .slice A0_2 l0_2.length c0_2] 29 (0, 0)) (pK BK497.out) hb); have n2_ := Aside0.mk (below_step (pE HB.out GE497.out) hb); clear HO_5 BK497 HB; have HO_5 := n0_; have BK497 := n1_; have HB := n2_; clear n0_ n1_ n2_; (try clear hb); (try clear hb2); (try clear hk); (try clear hi); obtain ⟨Ao49, co49, eo49⟩ := Kd.R_slice HO_5.out; subst eo49) | ((with_reducible refine gate_callee (f := 16) rfl ?_); refine goesL_ (some 68) rfl rfl Try.func16 (by kernel_rfl) rfl #[.slice Ao49 t501.length co49] rfl pL ?_; (with_reducible refine (export_Get.calls kj13 _ _ t501 t512 t513 t514 t517 _ ?side1 ?side2 A36.out).mono ?_); (case side1 => exact pC (Kd.R_reads' HO_5.out).2.2); (case side2 => exact (Kd.R_reads' HO_5.out).2.1); rintro e w50 ⟨v515, rfl, ho0, hb⟩; refine ⟨_, rfl, ?_⟩; have n0_ := Aside0.mk (Kd.R_below (pR HO_5.out) hb); have n1_ := Aside0.mk (Kd.N_lower (Kd.N_mono (ok' := fun k_ => some k_ ≠ (.slice Ao49 t501.length co49 : Value).ownBlock ∧ k_ ≠ gb497) ho0 (fun k_ hk_ => ⟨(Kd.fresh' (Kd.R_lt (pR HO_5.out)) k_ hk_), (Kd.freshB (g := gb497) (o := .cells #[.int .i64 a0_0, .int .i64 a0_1, .slice A0_2 l0_2.length c0_2] 29 (0, 0)) (pK BK497.out) k_ hk_)⟩)) (below_size (pE HB.out GE497.out))); have n2_ := Aside0.mk (blk_below (g := gb497) (o := .cells #[.int .i64 a0_0, .int .i64 a0_1, .slice A0_2 l0_2.length c0_2] 29 (0, 0)) (pK BK497.out) hb); have n3_ := Aside0.mk (below_step (pE HB.out GE497.out) hb); clear HO_5 BK497 HB; have HO_5 := n0_; have HO516 := n1_; have BK497 := n2_; have HB := n3_; clear n0_ n1_ n2_ n3_; (try clear hb); (try clear hb2); (try clear hk); (try clear hi); (try clear ho0); have hcz51_0 : w50.cell? ⟨gb497, 0, none⟩ = some (.int .i64 a0_0) := (blk_cell BK497.out 0).trans rfl; have hcz51_1 : w50.cell? ⟨gb497, 1, none⟩ = some (.int .i64 a0_1) := (blk_cell BK497.out 1).trans rfl; have hcz51_2 : w50.cell? ⟨gb497, 2, none⟩ = some (.slice A0_2 l0_2.length c0_2) := (blk_cell BK497.out 2).trans rfl; have hfz51_0 := blk_frozen BK497.out 0; have hfz51_1 := blk_frozen BK497.out 1; have hfz51_2 := blk_frozen BK497.out 2) | (go_at_call 26; (with_reducible refine (garnerref27_Put.calls kj13 a0_0 a0_1 _ _ l0_2 t518 _ ?side1 ?side2 A38.out).mono ?_); (case side1 => exact pC (Kd.C_below HR0_2.out HB.out)); (case side2 => exact HC0_2.out); rintro e w52 ⟨v519, rfl, ho0, hb⟩; have n0_ := Aside0.mk (Kd.R_elder' (pR HO_5.out) (Kd.R_base ho0) hb); have n1_ := Aside0.mk (Kd.N_elder' (pN HO516.out) (Kd.R_base ho0) hb); have n2_ := Aside0.mk (Kd.R_lower (Kd.R_new' ho0 (Kd.R_lt (pR HO_5.out))) (below_size (pE HB.out GE497.out))); have n3_ := Aside0.mk (blk_below (g := gb497) (o := .cells #[.int .i64 a0_0, .int .i64 a0_1, .slice A0_2 l0_2.length c0_2] 29 (0, 0)) (pK BK497.out) hb); have n4_ := Aside0.mk (below_step (pE HB.out GE497.out) hb); clear HO_5 HO516 BK497 HB; have HO_5 := n0_; have HO516 := n1_; have HO520 := n2_; have BK497 := n3_; have HB := n4_; clear n0_ n1_ n2_ n3_ n4_; (try clear hb); (try clear hb2); (try clear hk); (try clear hi); (try clear ho0); obtain ⟨Ao53, co53, eo53⟩ := Kd.R_slice HO520.out; subst eo53) | (go_at_call 22; (with_reducible refine (garnerref02_Bytes.calls kj13 _ _ t501 _ _ t518 true _ ?side1 ?side2 ?side3 ?side4 A39.out).mono ?_); (case side1 => exact pC (Kd.R_reads' HO_5.out).2.2); (case side2 => exact (Kd.R_reads' HO_5.out).2.1); (case side3 => exact pC (Kd.R_reads' HO520.out).2.2); (case side4 => exact (Kd.R_reads' HO520.out).2.1); rintro e w' ⟨rfl, ⟨nd, rfl⟩⟩; have hcz54_0 : w52.cell? ⟨gb497, 0, none⟩ = some (.int .i64 a0_0) := (blk_cell BK497.out 0).trans rfl; have hcz54_1 : w52.cell? ⟨gb497, 1, none⟩ = some (.int .i64 a0_1) := (blk_cell BK497.out 1).trans rfl; have hcz54_2 : w52.cell? ⟨gb497, 2, none⟩ = some (.slice A0_2 l0_2.length c0_2) := (blk_cell BK497.out 2).trans rfl; have hfz54_0 := blk_frozen BK497.out 0; have hfz54_1 := blk_frozen BK497.out 1; have hfz54_2 := blk_frozen BK497.out 2; obtain ⟨Ao55, co55, eo55⟩ := Kd.N_slice HO516.out; subst eo55) | (go_at_call 18; (with_reducible refine (garnerref27_Same.calls kj13 _ _ t514 _ _ l0_2 true _ ?side1 ?side2 ?side3 ?side4 A44.out).mono ?_); (case side1 => exact pC (Kd.N_reads' HO516.out).2.2); (case side2 => exact (Kd.N_reads' HO516.out).2.1); (case side3 => repeat (first | exact (Kd.C_below HR0_2.out (pE HB.out GE497.out)) | (with_reducible refine Kd.C_alloc ?_ _) | (with_reducible refine Kd.C_drewN ?_ _) | (with_reducible refine Kd.C_drew ?_))); (case side4 => exact HC0_2.out); rintro e w' ⟨rfl, ⟨nd, rfl⟩⟩) | (go_at_call 15; (with_reducible refine (garnerlaw27_awake.calls kj13  t523 _ A46.out).mono ?_); rintro e w56 ⟨rfl, hb⟩; have n0_ := Aside0.mk (Kd.R_below (pR HO_5.out) hb); have n1_ := Aside0.mk (Kd.N_below (pN HO516.out) hb); have n2_ := Aside0.mk (Kd.R_below (pR HO520.out) hb); have n3_ := Aside0.mk (blk_below (g := gb497) (o := .cells #[.int .i64 a0_0, .int .i64 a0_1, .slice A0_2 l0_2.length c0_2] 29 (0, 0)) (pK BK497.out) hb); have n4_ := Aside0.mk (below_step (pE HB.out GE497.out) hb); clear HO_5 HO516 HO520 BK497 HB; have HO_5 := n0_; have HO516 := n1_; have HO520 := n2_; have BK497 := n3_; have HB := n4_; clear n0_ n1_ n2_ n3_ n4_; (try clear hb); (try clear hb2); (try clear hk); (try clear hi)))
              go_ret
              exact ⟨by first | rfl | (simp [errW_none, errW_some] <;> rfl) | (simp [*, errW_none, errW_some] <;> rfl), by repeat (first | (with_reducible first | exact HB.out | apply below_alloc | apply pw_below_drewN | apply below_drew1 | refine below_set ?_ GE497.out) | exact HB.out)⟩
             ·replace c45 := Bool.eq_false_iff.mpr c45
              subst c45
              have H1 : (some false) = some r := by rw [if_neg (show ¬ (false = true) by decide)] at H; exact H
              clear H
              have H := H1
              clear H1
              obtain rfl := Option.some.inj H
              have hcz57_0 : wc.cell? ⟨gb497, 0, none⟩ = some (.int .i64 a0_0) := (blk_cell BK497.out 0).trans rfl
              have hcz57_1 : wc.cell? ⟨gb497, 1, none⟩ = some (.int .i64 a0_1) := (blk_cell BK497.out 1).trans rfl
              have hcz57_2 : wc.cell? ⟨gb497, 2, none⟩ = some (.slice A0_2 l0_2.length c0_2) := (blk_cell BK497.out 2).trans rfl
              have hfz57_0 := blk_frozen BK497.out 0
              have hfz57_1 := blk_frozen BK497.out 1
              have hfz57_2 := blk_frozen BK497.out 2
              go_wp2_with (first | ((with_reducible refine gate_callee (f := 20) rfl ?_); refine goesL_ (some 54) rfl rfl Try.func20 (by kernel_rfl) rfl #[.agg #[.int .i64 a0_0, .int .i64 a0_1, .slice A0_2 l0_2.length c0_2]] rfl pL ?_; (with_reducible refine (garnerref27_May.calls kj13 a0_0 a0_1 _ _ l0_2 true _ ?side1 ?side2 A34.out).mono ?_); (case side1 => exact pC (Kd.C_below HR0_2.out HB.out)); (case side2 => exact HC0_2.out); rintro e w58 ⟨rfl, hb⟩; refine ⟨_, rfl, ?_⟩; have n0_ := Aside0.mk (Kd.R_below (pR HO_5.out) hb); have n1_ := Aside0.mk (blk_below (g := gb497) (o := .cells #[.int .i64 a0_0, .int .i64 a0_1, .slice A0_2 l0_2.length c0_2] 29 (0, 0)) (pK BK497.out) hb); have n2_ := Aside0.mk (below_step (pE HB.out GE497.out) hb); clear HO_5 BK497 HB; have HO_5 := n0_; have BK497 := n1_; have HB := n2_; clear n0_ n1_ n2_; (try clear hb); (try clear hb2); (try clear hk); (try clear hi); obtain ⟨Ao59, co59, eo59⟩ := Kd.R_slice HO_5.out; subst eo59) | ((with_reducible refine gate_callee (f := 16) rfl ?_); refine goesL_ (some 68) rfl rfl Try.func16 (by kernel_rfl) rfl #[.slice Ao59 t501.length co59] rfl pL ?_; (with_reducible refine (export_Get.calls kj13 _ _ t501 t512 t513 t514 t517 _ ?side1 ?side2 A36.out).mono ?_); (case side1 => exact pC (Kd.R_reads' HO_5.out).2.2); (case side2 => exact (Kd.R_reads' HO_5.out).2.1); rintro e w60 ⟨v515, rfl, ho0, hb⟩; refine ⟨_, rfl, ?_⟩; have n0_ := Aside0.mk (Kd.R_below (pR HO_5.out) hb); have n1_ := Aside0.mk (Kd.N_lower (Kd.N_mono (ok' := fun k_ => some k_ ≠ (.slice Ao59 t501.length co59 : Value).ownBlock ∧ k_ ≠ gb497) ho0 (fun k_ hk_ => ⟨(Kd.fresh' (Kd.R_lt (pR HO_5.out)) k_ hk_), (Kd.freshB (g := gb497) (o := .cells #[.int .i64 a0_0, .int .i64 a0_1, .slice A0_2 l0_2.length c0_2] 29 (0, 0)) (pK BK497.out) k_ hk_)⟩)) (below_size (pE HB.out GE497.out))); have n2_ := Aside0.mk (blk_below (g := gb497) (o := .cells #[.int .i64 a0_0, .int .i64 a0_1, .slice A0_2 l0_2.length c0_2] 29 (0, 0)) (pK BK497.out) hb); have n3_ := Aside0.mk (below_step (pE HB.out GE497.out) hb); clear HO_5 BK497 HB; have HO_5 := n0_; have HO516 := n1_; have BK497 := n2_; have HB := n3_; clear n0_ n1_ n2_ n3_; (try clear hb); (try clear hb2); (try clear hk); (try clear hi); (try clear ho0); have hcz61_0 : w60.cell? ⟨gb497, 0, none⟩ = some (.int .i64 a0_0) := (blk_cell BK497.out 0).trans rfl; have hcz61_1 : w60.cell? ⟨gb497, 1, none⟩ = some (.int .i64 a0_1) := (blk_cell BK497.out 1).trans rfl; have hcz61_2 : w60.cell? ⟨gb497, 2, none⟩ = some (.slice A0_2 l0_2.length c0_2) := (blk_cell BK497.out 2).trans rfl; have hfz61_0 := blk_frozen BK497.out 0; have hfz61_1 := blk_frozen BK497.out 1; have hfz61_2 := blk_frozen BK497.out 2) | (go_at_call 26; (with_reducible refine (garnerref27_Put.calls kj13 a0_0 a0_1 _ _ l0_2 t518 _ ?side1 ?side2 A38.out).mono ?_); (case side1 => exact pC (Kd.C_below HR0_2.out HB.out)); (case side2 => exact HC0_2.out); rintro e w62 ⟨v519, rfl, ho0, hb⟩; have n0_ := Aside0.mk (Kd.R_elder' (pR HO_5.out) (Kd.R_base ho0) hb); have n1_ := Aside0.mk (Kd.N_elder' (pN HO516.out) (Kd.R_base ho0) hb); have n2_ := Aside0.mk (Kd.R_lower (Kd.R_new' ho0 (Kd.R_lt (pR HO_5.out))) (below_size (pE HB.out GE497.out))); have n3_ := Aside0.mk (blk_below (g := gb497) (o := .cells #[.int .i64 a0_0, .int .i64 a0_1, .slice A0_2 l0_2.length c0_2] 29 (0, 0)) (pK BK497.out) hb); have n4_ := Aside0.mk (below_step (pE HB.out GE497.out) hb); clear HO_5 HO516 BK497 HB; have HO_5 := n0_; have HO516 := n1_; have HO520 := n2_; have BK497 := n3_; have HB := n4_; clear n0_ n1_ n2_ n3_ n4_; (try clear hb); (try clear hb2); (try clear hk); (try clear hi); (try clear ho0); obtain ⟨Ao63, co63, eo63⟩ := Kd.R_slice HO520.out; subst eo63) | (go_at_call 22; (with_reducible refine (garnerref02_Bytes.calls kj13 _ _ t501 _ _ t518 true _ ?side1 ?side2 ?side3 ?side4 A39.out).mono ?_); (case side1 => exact pC (Kd.R_reads' HO_5.out).2.2); (case side2 => exact (Kd.R_reads' HO_5.out).2.1); (case side3 => exact pC (Kd.R_reads' HO520.out).2.2); (case side4 => exact (Kd.R_reads' HO520.out).2.1); rintro e w' ⟨rfl, ⟨nd, rfl⟩⟩; have hcz64_0 : w62.cell? ⟨gb497, 0, none⟩ = some (.int .i64 a0_0) := (blk_cell BK497.out 0).trans rfl; have hcz64_1 : w62.cell? ⟨gb497, 1, none⟩ = some (.int .i64 a0_1) := (blk_cell BK497.out 1).trans rfl; have hcz64_2 : w62.cell? ⟨gb497, 2, none⟩ = some (.slice A0_2 l0_2.length c0_2) := (blk_cell BK497.out 2).trans rfl; have hfz64_0 := blk_frozen BK497.out 0; have hfz64_1 := blk_frozen BK497.out 1; have hfz64_2 := blk_frozen BK497.out 2; obtain ⟨Ao65, co65, eo65⟩ := Kd.N_slice HO516.out; subst eo65) | (go_at_call 18; (with_reducible refine (garnerref27_Same.calls kj13 _ _ t514 _ _ l0_2 false _ ?side1 ?side2 ?side3 ?side4 A44.out).mono ?_); (case side1 => exact pC (Kd.N_reads' HO516.out).2.2); (case side2 => exact (Kd.N_reads' HO516.out).2.1); (case side3 => repeat (first | exact (Kd.C_below HR0_2.out (pE HB.out GE497.out)) | (with_reducible refine Kd.C_alloc ?_ _) | (with_reducible refine Kd.C_drewN ?_ _) | (with_reducible refine Kd.C_drew ?_))); (case side4 => exact HC0_2.out); rintro e w' ⟨rfl, ⟨nd, rfl⟩⟩))
              go_ret
              exact ⟨by first | rfl | (simp [errW_none, errW_some] <;> rfl) | (simp [*, errW_none, errW_some] <;> rfl), by repeat (first | (with_reducible first | exact HB.out | apply below_alloc | apply pw_below_drewN | apply below_drew1 | refine below_set ?_ GE497.out) | exact HB.out)⟩
            ·rw [if_neg c43] at H
             have c43b0 : (t513 == a0_1) = false := beq_eq_false_iff_ne.mpr c43
             have c43b1 : (t513 != a0_1) = true := bne_iff_ne.mpr c43
             obtain rfl := Option.some.inj H
             have hcz66_0 : wc.cell? ⟨gb497, 0, none⟩ = some (.int .i64 a0_0) := (blk_cell BK497.out 0).trans rfl
             have hcz66_1 : wc.cell? ⟨gb497, 1, none⟩ = some (.int .i64 a0_1) := (blk_cell BK497.out 1).trans rfl
             have hcz66_2 : wc.cell? ⟨gb497, 2, none⟩ = some (.slice A0_2 l0_2.length c0_2) := (blk_cell BK497.out 2).trans rfl
             have hfz66_0 := blk_frozen BK497.out 0
             have hfz66_1 := blk_frozen BK497.out 1
             have hfz66_2 := blk_frozen BK497.out 2
             go_wp2_with (first | ((with_reducible refine gate_callee (f := 20) rfl ?_); refine goesL_ (some 54) rfl rfl Try.func20 (by kernel_rfl) rfl #[.agg #[.int .i64 a0_0, .int .i64 a0_1, .slice A0_2 l0_2.length c0_2]] rfl pL ?_; (with_reducible refine (garnerref27_May.calls kj13 a0_0 a0_1 _ _ l0_2 true _ ?side1 ?side2 A34.out).mono ?_); (case side1 => exact pC (Kd.C_below HR0_2.out HB.out)); (case side2 => exact HC0_2.out); rintro e w67 ⟨rfl, hb⟩; refine ⟨_, rfl, ?_⟩; have n0_ := Aside0.mk (Kd.R_below (pR HO_5.out) hb); have n1_ := Aside0.mk (blk_below (g := gb497) (o := .cells #[.int .i64 a0_0, .int .i64 a0_1, .slice A0_2 l0_2.length c0_2] 29 (0, 0)) (pK BK497.out) hb); have n2_ := Aside0.mk (below_step (pE HB.out GE497.out) hb); clear HO_5 BK497 HB; have HO_5 := n0_; have BK497 := n1_; have HB := n2_; clear n0_ n1_ n2_; (try clear hb); (try clear hb2); (try clear hk); (try clear hi); obtain ⟨Ao68, co68, eo68⟩ := Kd.R_slice HO_5.out; subst eo68) | ((with_reducible refine gate_callee (f := 16) rfl ?_); refine goesL_ (some 68) rfl rfl Try.func16 (by kernel_rfl) rfl #[.slice Ao68 t501.length co68] rfl pL ?_; (with_reducible refine (export_Get.calls kj13 _ _ t501 t512 t513 t514 t517 _ ?side1 ?side2 A36.out).mono ?_); (case side1 => exact pC (Kd.R_reads' HO_5.out).2.2); (case side2 => exact (Kd.R_reads' HO_5.out).2.1); rintro e w69 ⟨v515, rfl, ho0, hb⟩; refine ⟨_, rfl, ?_⟩; have n0_ := Aside0.mk (Kd.R_below (pR HO_5.out) hb); have n1_ := Aside0.mk (Kd.N_lower (Kd.N_mono (ok' := fun k_ => some k_ ≠ (.slice Ao68 t501.length co68 : Value).ownBlock ∧ k_ ≠ gb497) ho0 (fun k_ hk_ => ⟨(Kd.fresh' (Kd.R_lt (pR HO_5.out)) k_ hk_), (Kd.freshB (g := gb497) (o := .cells #[.int .i64 a0_0, .int .i64 a0_1, .slice A0_2 l0_2.length c0_2] 29 (0, 0)) (pK BK497.out) k_ hk_)⟩)) (below_size (pE HB.out GE497.out))); have n2_ := Aside0.mk (blk_below (g := gb497) (o := .cells #[.int .i64 a0_0, .int .i64 a0_1, .slice A0_2 l0_2.length c0_2] 29 (0, 0)) (pK BK497.out) hb); have n3_ := Aside0.mk (below_step (pE HB.out GE497.out) hb); clear HO_5 BK497 HB; have HO_5 := n0_; have HO516 := n1_; have BK497 := n2_; have HB := n3_; clear n0_ n1_ n2_ n3_; (try clear hb); (try clear hb2); (try clear hk); (try clear hi); (try clear ho0); have hcz70_0 : w69.cell? ⟨gb497, 0, none⟩ = some (.int .i64 a0_0) := (blk_cell BK497.out 0).trans rfl; have hcz70_1 : w69.cell? ⟨gb497, 1, none⟩ = some (.int .i64 a0_1) := (blk_cell BK497.out 1).trans rfl; have hcz70_2 : w69.cell? ⟨gb497, 2, none⟩ = some (.slice A0_2 l0_2.length c0_2) := (blk_cell BK497.out 2).trans rfl; have hfz70_0 := blk_frozen BK497.out 0; have hfz70_1 := blk_frozen BK497.out 1; have hfz70_2 := blk_frozen BK497.out 2) | (go_at_call 26; (with_reducible refine (garnerref27_Put.calls kj13 a0_0 a0_1 _ _ l0_2 t518 _ ?side1 ?side2 A38.out).mono ?_); (case side1 => exact pC (Kd.C_below HR0_2.out HB.out)); (case side2 => exact HC0_2.out); rintro e w71 ⟨v519, rfl, ho0, hb⟩; have n0_ := Aside0.mk (Kd.R_elder' (pR HO_5.out) (Kd.R_base ho0) hb); have n1_ := Aside0.mk (Kd.N_elder' (pN HO516.out) (Kd.R_base ho0) hb); have n2_ := Aside0.mk (Kd.R_lower (Kd.R_new' ho0 (Kd.R_lt (pR HO_5.out))) (below_size (pE HB.out GE497.out))); have n3_ := Aside0.mk (blk_below (g := gb497) (o := .cells #[.int .i64 a0_0, .int .i64 a0_1, .slice A0_2 l0_2.length c0_2] 29 (0, 0)) (pK BK497.out) hb); have n4_ := Aside0.mk (below_step (pE HB.out GE497.out) hb); clear HO_5 HO516 BK497 HB; have HO_5 := n0_; have HO516 := n1_; have HO520 := n2_; have BK497 := n3_; have HB := n4_; clear n0_ n1_ n2_ n3_ n4_; (try clear hb); (try clear hb2); (try clear hk); (try clear hi); (try clear ho0); obtain ⟨Ao72, co72, eo72⟩ := Kd.R_slice HO520.out; subst eo72) | (go_at_call 22; (with_reducible refine (garnerref02_Bytes.calls kj13 _ _ t501 _ _ t518 true _ ?side1 ?side2 ?side3 ?side4 A39.out).mono ?_); (case side1 => exact pC (Kd.R_reads' HO_5.out).2.2); (case side2 => exact (Kd.R_reads' HO_5.out).2.1); (case side3 => exact pC (Kd.R_reads' HO520.out).2.2); (case side4 => exact (Kd.R_reads' HO520.out).2.1); rintro e w' ⟨rfl, ⟨nd, rfl⟩⟩; have hcz73_0 : w71.cell? ⟨gb497, 0, none⟩ = some (.int .i64 a0_0) := (blk_cell BK497.out 0).trans rfl; have hcz73_1 : w71.cell? ⟨gb497, 1, none⟩ = some (.int .i64 a0_1) := (blk_cell BK497.out 1).trans rfl; have hcz73_2 : w71.cell? ⟨gb497, 2, none⟩ = some (.slice A0_2 l0_2.length c0_2) := (blk_cell BK497.out 2).trans rfl; have hfz73_0 := blk_frozen BK497.out 0; have hfz73_1 := blk_frozen BK497.out 1; have hfz73_2 := blk_frozen BK497.out 2))
             go_ret
             exact ⟨by first | rfl | (simp [errW_none, errW_some] <;> rfl) | (simp [*, errW_none, errW_some] <;> rfl), by repeat (first | (with_reducible first | exact HB.out | apply below_alloc | apply pw_below_drewN | apply below_drew1 | refine below_set ?_ GE497.out) | exact HB.out)⟩
           ·rw [if_neg c42] at H
            have c42b0 : (t512 == a0_0) = false := beq_eq_false_iff_ne.mpr c42
            have c42b1 : (t512 != a0_0) = true := bne_iff_ne.mpr c42
            obtain rfl := Option.some.inj H
            have hcz74_0 : wc.cell? ⟨gb497, 0, none⟩ = some (.int .i64 a0_0) := (blk_cell BK497.out 0).trans rfl
            have hcz74_1 : wc.cell? ⟨gb497, 1, none⟩ = some (.int .i64 a0_1) := (blk_cell BK497.out 1).trans rfl
            have hcz74_2 : wc.cell? ⟨gb497, 2, none⟩ = some (.slice A0_2 l0_2.length c0_2) := (blk_cell BK497.out 2).trans rfl
            have hfz74_0 := blk_frozen BK497.out 0
            have hfz74_1 := blk_frozen BK497.out 1
            have hfz74_2 := blk_frozen BK497.out 2
            go_wp2_with (first | ((with_reducible refine gate_callee (f := 20) rfl ?_); refine goesL_ (some 54) rfl rfl Try.func20 (by kernel_rfl) rfl #[.agg #[.int .i64 a0_0, .int .i64 a0_1, .slice A0_2 l0_2.length c0_2]] rfl pL ?_; (with_reducible refine (garnerref27_May.calls kj13 a0_0 a0_1 _ _ l0_2 true _ ?side1 ?side2 A34.out).mono ?_); (case side1 => exact pC (Kd.C_below HR0_2.out HB.out)); (case side2 => exact HC0_2.out); rintro e w75 ⟨rfl, hb⟩; refine ⟨_, rfl, ?_⟩; have n0_ := Aside0.mk (Kd.R_below (pR HO_5.out) hb); have n1_ := Aside0.mk (blk_below (g := gb497) (o := .cells #[.int .i64 a0_0, .int .i64 a0_1, .slice A0_2 l0_2.length c0_2] 29 (0, 0)) (pK BK497.out) hb); have n2_ := Aside0.mk (below_step (pE HB.out GE497.out) hb); clear HO_5 BK497 HB; have HO_5 := n0_; have BK497 := n1_; have HB := n2_; clear n0_ n1_ n2_; (try clear hb); (try clear hb2); (try clear hk); (try clear hi); obtain ⟨Ao76, co76, eo76⟩ := Kd.R_slice HO_5.out; subst eo76) | ((with_reducible refine gate_callee (f := 16) rfl ?_); refine goesL_ (some 68) rfl rfl Try.func16 (by kernel_rfl) rfl #[.slice Ao76 t501.length co76] rfl pL ?_; (with_reducible refine (export_Get.calls kj13 _ _ t501 t512 t513 t514 t517 _ ?side1 ?side2 A36.out).mono ?_); (case side1 => exact pC (Kd.R_reads' HO_5.out).2.2); (case side2 => exact (Kd.R_reads' HO_5.out).2.1); rintro e w77 ⟨v515, rfl, ho0, hb⟩; refine ⟨_, rfl, ?_⟩; have n0_ := Aside0.mk (Kd.R_below (pR HO_5.out) hb); have n1_ := Aside0.mk (Kd.N_lower (Kd.N_mono (ok' := fun k_ => some k_ ≠ (.slice Ao76 t501.length co76 : Value).ownBlock ∧ k_ ≠ gb497) ho0 (fun k_ hk_ => ⟨(Kd.fresh' (Kd.R_lt (pR HO_5.out)) k_ hk_), (Kd.freshB (g := gb497) (o := .cells #[.int .i64 a0_0, .int .i64 a0_1, .slice A0_2 l0_2.length c0_2] 29 (0, 0)) (pK BK497.out) k_ hk_)⟩)) (below_size (pE HB.out GE497.out))); have n2_ := Aside0.mk (blk_below (g := gb497) (o := .cells #[.int .i64 a0_0, .int .i64 a0_1, .slice A0_2 l0_2.length c0_2] 29 (0, 0)) (pK BK497.out) hb); have n3_ := Aside0.mk (below_step (pE HB.out GE497.out) hb); clear HO_5 BK497 HB; have HO_5 := n0_; have HO516 := n1_; have BK497 := n2_; have HB := n3_; clear n0_ n1_ n2_ n3_; (try clear hb); (try clear hb2); (try clear hk); (try clear hi); (try clear ho0); have hcz78_0 : w77.cell? ⟨gb497, 0, none⟩ = some (.int .i64 a0_0) := (blk_cell BK497.out 0).trans rfl; have hcz78_1 : w77.cell? ⟨gb497, 1, none⟩ = some (.int .i64 a0_1) := (blk_cell BK497.out 1).trans rfl; have hcz78_2 : w77.cell? ⟨gb497, 2, none⟩ = some (.slice A0_2 l0_2.length c0_2) := (blk_cell BK497.out 2).trans rfl; have hfz78_0 := blk_frozen BK497.out 0; have hfz78_1 := blk_frozen BK497.out 1; have hfz78_2 := blk_frozen BK497.out 2) | (go_at_call 26; (with_reducible refine (garnerref27_Put.calls kj13 a0_0 a0_1 _ _ l0_2 t518 _ ?side1 ?side2 A38.out).mono ?_); (case side1 => exact pC (Kd.C_below HR0_2.out HB.out)); (case side2 => exact HC0_2.out); rintro e w79 ⟨v519, rfl, ho0, hb⟩; have n0_ := Aside0.mk (Kd.R_elder' (pR HO_5.out) (Kd.R_base ho0) hb); have n1_ := Aside0.mk (Kd.N_elder' (pN HO516.out) (Kd.R_base ho0) hb); have n2_ := Aside0.mk (Kd.R_lower (Kd.R_new' ho0 (Kd.R_lt (pR HO_5.out))) (below_size (pE HB.out GE497.out))); have n3_ := Aside0.mk (blk_below (g := gb497) (o := .cells #[.int .i64 a0_0, .int .i64 a0_1, .slice A0_2 l0_2.length c0_2] 29 (0, 0)) (pK BK497.out) hb); have n4_ := Aside0.mk (below_step (pE HB.out GE497.out) hb); clear HO_5 HO516 BK497 HB; have HO_5 := n0_; have HO516 := n1_; have HO520 := n2_; have BK497 := n3_; have HB := n4_; clear n0_ n1_ n2_ n3_ n4_; (try clear hb); (try clear hb2); (try clear hk); (try clear hi); (try clear ho0); obtain ⟨Ao80, co80, eo80⟩ := Kd.R_slice HO520.out; subst eo80) | (go_at_call 22; (with_reducible refine (garnerref02_Bytes.calls kj13 _ _ t501 _ _ t518 true _ ?side1 ?side2 ?side3 ?side4 A39.out).mono ?_); (case side1 => exact pC (Kd.R_reads' HO_5.out).2.2); (case side2 => exact (Kd.R_reads' HO_5.out).2.1); (case side3 => exact pC (Kd.R_reads' HO520.out).2.2); (case side4 => exact (Kd.R_reads' HO520.out).2.1); rintro e w' ⟨rfl, ⟨nd, rfl⟩⟩; have hcz81_0 : w79.cell? ⟨gb497, 0, none⟩ = some (.int .i64 a0_0) := (blk_cell BK497.out 0).trans rfl; have hcz81_1 : w79.cell? ⟨gb497, 1, none⟩ = some (.int .i64 a0_1) := (blk_cell BK497.out 1).trans rfl; have hcz81_2 : w79.cell? ⟨gb497, 2, none⟩ = some (.slice A0_2 l0_2.length c0_2) := (blk_cell BK497.out 2).trans rfl; have hfz81_0 := blk_frozen BK497.out 0; have hfz81_1 := blk_frozen BK497.out 1; have hfz81_2 := blk_frozen BK497.out 2))
            go_ret
            exact ⟨by first | rfl | (simp [errW_none, errW_some] <;> rfl) | (simp [*, errW_none, errW_some] <;> rfl), by repeat (first | (with_reducible first | exact HB.out | apply below_alloc | apply pw_below_drewN | apply below_drew1 | refine below_set ?_ GE497.out) | exact HB.out)⟩
          ·rw [if_neg c41] at H
           have c41b0 : (t517 == 0) = false := beq_eq_false_iff_ne.mpr c41
           have c41b1 : (t517 != 0) = true := bne_iff_ne.mpr c41
           obtain rfl := Option.some.inj H
           have hcz82_0 : wc.cell? ⟨gb497, 0, none⟩ = some (.int .i64 a0_0) := (blk_cell BK497.out 0).trans rfl
           have hcz82_1 : wc.cell? ⟨gb497, 1, none⟩ = some (.int .i64 a0_1) := (blk_cell BK497.out 1).trans rfl
           have hcz82_2 : wc.cell? ⟨gb497, 2, none⟩ = some (.slice A0_2 l0_2.length c0_2) := (blk_cell BK497.out 2).trans rfl
           have hfz82_0 := blk_frozen BK497.out 0
           have hfz82_1 := blk_frozen BK497.out 1
           have hfz82_2 := blk_frozen BK497.out 2
           go_wp2_with (first | ((with_reducible refine gate_callee (f := 20) rfl ?_); refine goesL_ (some 54) rfl rfl Try.func20 (by kernel_rfl) rfl #[.agg #[.int .i64 a0_0, .int .i64 a0_1, .slice A0_2 l0_2.length c0_2]] rfl pL ?_; (with_reducible refine (garnerref27_May.calls kj13 a0_0 a0_1 _ _ l0_2 true _ ?side1 ?side2 A34.out).mono ?_); (case side1 => exact pC (Kd.C_below HR0_2.out HB.out)); (case side2 => exact HC0_2.out); rintro e w83 ⟨rfl, hb⟩; refine ⟨_, rfl, ?_⟩; have n0_ := Aside0.mk (Kd.R_below (pR HO_5.out) hb); have n1_ := Aside0.mk (blk_below (g := gb497) (o := .cells #[.int .i64 a0_0, .int .i64 a0_1, .slice A0_2 l0_2.length c0_2] 29 (0, 0)) (pK BK497.out) hb); have n2_ := Aside0.mk (below_step (pE HB.out GE497.out) hb); clear HO_5 BK497 HB; have HO_5 := n0_; have BK497 := n1_; have HB := n2_; clear n0_ n1_ n2_; (try clear hb); (try clear hb2); (try clear hk); (try clear hi); obtain ⟨Ao84, co84, eo84⟩ := Kd.R_slice HO_5.out; subst eo84) | ((with_reducible refine gate_callee (f := 16) rfl ?_); refine goesL_ (some 68) rfl rfl Try.func16 (by kernel_rfl) rfl #[.slice Ao84 t501.length co84] rfl pL ?_; (with_reducible refine (export_Get.calls kj13 _ _ t501 t512 t513 t514 t517 _ ?side1 ?side2 A36.out).mono ?_); (case side1 => exact pC (Kd.R_reads' HO_5.out).2.2); (case side2 => exact (Kd.R_reads' HO_5.out).2.1); rintro e w85 ⟨v515, rfl, ho0, hb⟩; refine ⟨_, rfl, ?_⟩; have n0_ := Aside0.mk (Kd.R_below (pR HO_5.out) hb); have n1_ := Aside0.mk (Kd.N_lower (Kd.N_mono (ok' := fun k_ => some k_ ≠ (.slice Ao84 t501.length co84 : Value).ownBlock ∧ k_ ≠ gb497) ho0 (fun k_ hk_ => ⟨(Kd.fresh' (Kd.R_lt (pR HO_5.out)) k_ hk_), (Kd.freshB (g := gb497) (o := .cells #[.int .i64 a0_0, .int .i64 a0_1, .slice A0_2 l0_2.length c0_2] 29 (0, 0)) (pK BK497.out) k_ hk_)⟩)) (below_size (pE HB.out GE497.out))); have n2_ := Aside0.mk (blk_below (g := gb497) (o := .cells #[.int .i64 a0_0, .int .i64 a0_1, .slice A0_2 l0_2.length c0_2] 29 (0, 0)) (pK BK497.out) hb); have n3_ := Aside0.mk (below_step (pE HB.out GE497.out) hb); clear HO_5 BK497 HB; have HO_5 := n0_; have HO516 := n1_; have BK497 := n2_; have HB := n3_; clear n0_ n1_ n2_ n3_; (try clear hb); (try clear hb2); (try clear hk); (try clear hi); (try clear ho0); have hcz86_0 : w85.cell? ⟨gb497, 0, none⟩ = some (.int .i64 a0_0) := (blk_cell BK497.out 0).trans rfl; have hcz86_1 : w85.cell? ⟨gb497, 1, none⟩ = some (.int .i64 a0_1) := (blk_cell BK497.out 1).trans rfl; have hcz86_2 : w85.cell? ⟨gb497, 2, none⟩ = some (.slice A0_2 l0_2.length c0_2) := (blk_cell BK497.out 2).trans rfl; have hfz86_0 := blk_frozen BK497.out 0; have hfz86_1 := blk_frozen BK497.out 1; have hfz86_2 := blk_frozen BK497.out 2) | (go_at_call 26; (with_reducible refine (garnerref27_Put.calls kj13 a0_0 a0_1 _ _ l0_2 t518 _ ?side1 ?side2 A38.out).mono ?_); (case side1 => exact pC (Kd.C_below HR0_2.out HB.out)); (case side2 => exact HC0_2.out); rintro e w87 ⟨v519, rfl, ho0, hb⟩; have n0_ := Aside0.mk (Kd.R_elder' (pR HO_5.out) (Kd.R_base ho0) hb); have n1_ := Aside0.mk (Kd.N_elder' (pN HO516.out) (Kd.R_base ho0) hb); have n2_ := Aside0.mk (Kd.R_lower (Kd.R_new' ho0 (Kd.R_lt (pR HO_5.out))) (below_size (pE HB.out GE497.out))); have n3_ := Aside0.mk (blk_below (g := gb497) (o := .cells #[.int .i64 a0_0, .int .i64 a0_1, .slice A0_2 l0_2.length c0_2] 29 (0, 0)) (pK BK497.out) hb); have n4_ := Aside0.mk (below_step (pE HB.out GE497.out) hb); clear HO_5 HO516 BK497 HB; have HO_5 := n0_; have HO516 := n1_; have HO520 := n2_; have BK497 := n3_; have HB := n4_; clear n0_ n1_ n2_ n3_ n4_; (try clear hb); (try clear hb2); (try clear hk); (try clear hi); (try clear ho0); obtain ⟨Ao88, co88, eo88⟩ := Kd.R_slice HO520.out; subst eo88) | (go_at_call 22; (with_reducible refine (garnerref02_Bytes.calls kj13 _ _ t501 _ _ t518 true _ ?side1 ?side2 ?side3 ?side4 A39.out).mono ?_); (case side1 => exact pC (Kd.R_reads' HO_5.out).2.2); (case side2 => exact (Kd.R_reads' HO_5.out).2.1); (case side3 => exact pC (Kd.R_reads' HO520.out).2.2); (case side4 => exact (Kd.R_reads' HO520.out).2.1); rintro e w' ⟨rfl, ⟨nd, rfl⟩⟩))
           go_ret
           exact ⟨by first | rfl | (simp [errW_none, errW_some] <;> rfl) | (simp [*, errW_none, errW_some] <;> rfl), by repeat (first | (with_reducible first | exact HB.out | apply below_alloc | apply pw_below_drewN | apply below_drew1 | refine below_set ?_ GE497.out) | exact HB.out)⟩
         ·replace c40 := Bool.eq_false_iff.mpr c40
          subst c40
          have H1 : (some false) = some r := by rw [if_neg (show ¬ (false = true) by decide)] at H; exact H
          clear H
          have H := H1
          clear H1
          obtain rfl := Option.some.inj H
          have hcz89_0 : wc.cell? ⟨gb497, 0, none⟩ = some (.int .i64 a0_0) := (blk_cell BK497.out 0).trans rfl
          have hcz89_1 : wc.cell? ⟨gb497, 1, none⟩ = some (.int .i64 a0_1) := (blk_cell BK497.out 1).trans rfl
          have hcz89_2 : wc.cell? ⟨gb497, 2, none⟩ = some (.slice A0_2 l0_2.length c0_2) := (blk_cell BK497.out 2).trans rfl
          have hfz89_0 := blk_frozen BK497.out 0
          have hfz89_1 := blk_frozen BK497.out 1
          have hfz89_2 := blk_frozen BK497.out 2
          go_wp2_with (first | ((with_reducible refine gate_callee (f := 20) rfl ?_); refine goesL_ (some 54) rfl rfl Try.func20 (by kernel_rfl) rfl #[.agg #[.int .i64 a0_0, .int .i64 a0_1, .slice A0_2 l0_2.length c0_2]] rfl pL ?_; (with_reducible refine (garnerref27_May.calls kj13 a0_0 a0_1 _ _ l0_2 true _ ?side1 ?side2 A34.out).mono ?_); (case side1 => exact pC (Kd.C_below HR0_2.out HB.out)); (case side2 => exact HC0_2.out); rintro e w90 ⟨rfl, hb⟩; refine ⟨_, rfl, ?_⟩; have n0_ := Aside0.mk (Kd.R_below (pR HO_5.out) hb); have n1_ := Aside0.mk (blk_below (g := gb497) (o := .cells #[.int .i64 a0_0, .int .i64 a0_1, .slice A0_2 l0_2.length c0_2] 29 (0, 0)) (pK BK497.out) hb); have n2_ := Aside0.mk (below_step (pE HB.out GE497.out) hb); clear HO_5 BK497 HB; have HO_5 := n0_; have BK497 := n1_; have HB := n2_; clear n0_ n1_ n2_; (try clear hb); (try clear hb2); (try clear hk); (try clear hi); obtain ⟨Ao91, co91, eo91⟩ := Kd.R_slice HO_5.out; subst eo91) | ((with_reducible refine gate_callee (f := 16) rfl ?_); refine goesL_ (some 68) rfl rfl Try.func16 (by kernel_rfl) rfl #[.slice Ao91 t501.length co91] rfl pL ?_; (with_reducible refine (export_Get.calls kj13 _ _ t501 t512 t513 t514 t517 _ ?side1 ?side2 A36.out).mono ?_); (case side1 => exact pC (Kd.R_reads' HO_5.out).2.2); (case side2 => exact (Kd.R_reads' HO_5.out).2.1); rintro e w92 ⟨v515, rfl, ho0, hb⟩; refine ⟨_, rfl, ?_⟩; have n0_ := Aside0.mk (Kd.R_below (pR HO_5.out) hb); have n1_ := Aside0.mk (Kd.N_lower (Kd.N_mono (ok' := fun k_ => some k_ ≠ (.slice Ao91 t501.length co91 : Value).ownBlock ∧ k_ ≠ gb497) ho0 (fun k_ hk_ => ⟨(Kd.fresh' (Kd.R_lt (pR HO_5.out)) k_ hk_), (Kd.freshB (g := gb497) (o := .cells #[.int .i64 a0_0, .int .i64 a0_1, .slice A0_2 l0_2.length c0_2] 29 (0, 0)) (pK BK497.out) k_ hk_)⟩)) (below_size (pE HB.out GE497.out))); have n2_ := Aside0.mk (blk_below (g := gb497) (o := .cells #[.int .i64 a0_0, .int .i64 a0_1, .slice A0_2 l0_2.length c0_2] 29 (0, 0)) (pK BK497.out) hb); have n3_ := Aside0.mk (below_step (pE HB.out GE497.out) hb); clear HO_5 BK497 HB; have HO_5 := n0_; have HO516 := n1_; have BK497 := n2_; have HB := n3_; clear n0_ n1_ n2_ n3_; (try clear hb); (try clear hb2); (try clear hk); (try clear hi); (try clear ho0); have hcz93_0 : w92.cell? ⟨gb497, 0, none⟩ = some (.int .i64 a0_0) := (blk_cell BK497.out 0).trans rfl; have hcz93_1 : w92.cell? ⟨gb497, 1, none⟩ = some (.int .i64 a0_1) := (blk_cell BK497.out 1).trans rfl; have hcz93_2 : w92.cell? ⟨gb497, 2, none⟩ = some (.slice A0_2 l0_2.length c0_2) := (blk_cell BK497.out 2).trans rfl; have hfz93_0 := blk_frozen BK497.out 0; have hfz93_1 := blk_frozen BK497.out 1; have hfz93_2 := blk_frozen BK497.out 2) | (go_at_call 26; (with_reducible refine (garnerref27_Put.calls kj13 a0_0 a0_1 _ _ l0_2 t518 _ ?side1 ?side2 A38.out).mono ?_); (case side1 => exact pC (Kd.C_below HR0_2.out HB.out)); (case side2 => exact HC0_2.out); rintro e w94 ⟨v519, rfl, ho0, hb⟩; have n0_ := Aside0.mk (Kd.R_elder' (pR HO_5.out) (Kd.R_base ho0) hb); have n1_ := Aside0.mk (Kd.N_elder' (pN HO516.out) (Kd.R_base ho0) hb); have n2_ := Aside0.mk (Kd.R_lower (Kd.R_new' ho0 (Kd.R_lt (pR HO_5.out))) (below_size (pE HB.out GE497.out))); have n3_ := Aside0.mk (blk_below (g := gb497) (o := .cells #[.int .i64 a0_0, .int .i64 a0_1, .slice A0_2 l0_2.length c0_2] 29 (0, 0)) (pK BK497.out) hb); have n4_ := Aside0.mk (below_step (pE HB.out GE497.out) hb); clear HO_5 HO516 BK497 HB; have HO_5 := n0_; have HO516 := n1_; have HO520 := n2_; have BK497 := n3_; have HB := n4_; clear n0_ n1_ n2_ n3_ n4_; (try clear hb); (try clear hb2); (try clear hk); (try clear hi); (try clear ho0); obtain ⟨Ao95, co95, eo95⟩ := Kd.R_slice HO520.out; subst eo95) | (go_at_call 22; (with_reducible refine (garnerref02_Bytes.calls kj13 _ _ t501 _ _ t518 false _ ?side1 ?side2 ?side3 ?side4 A39.out).mono ?_); (case side1 => exact pC (Kd.R_reads' HO_5.out).2.2); (case side2 => exact (Kd.R_reads' HO_5.out).2.1); (case side3 => exact pC (Kd.R_reads' HO520.out).2.2); (case side4 => exact (Kd.R_reads' HO520.out).2.1); rintro e w' ⟨rfl, ⟨nd, rfl⟩⟩))
          go_ret
          exact ⟨by first | rfl | (simp [errW_none, errW_some] <;> rfl) | (simp [*, errW_none, errW_some] <;> rfl), by repeat (first | (with_reducible first | exact HB.out | apply below_alloc | apply pw_below_drewN | apply below_drew1 | refine below_set ?_ GE497.out) | exact HB.out)⟩
        ·rw [if_neg c37] at H
         have c37b0 : (t502 == 0) = false := beq_eq_false_iff_ne.mpr c37
         have c37b1 : (t502 != 0) = true := bne_iff_ne.mpr c37
         obtain rfl := Option.some.inj H
         have hcz96_0 : wc.cell? ⟨gb497, 0, none⟩ = some (.int .i64 a0_0) := (blk_cell BK497.out 0).trans rfl
         have hcz96_1 : wc.cell? ⟨gb497, 1, none⟩ = some (.int .i64 a0_1) := (blk_cell BK497.out 1).trans rfl
         have hcz96_2 : wc.cell? ⟨gb497, 2, none⟩ = some (.slice A0_2 l0_2.length c0_2) := (blk_cell BK497.out 2).trans rfl
         have hfz96_0 := blk_frozen BK497.out 0
         have hfz96_1 := blk_frozen BK497.out 1
         have hfz96_2 := blk_frozen BK497.out 2
         go_wp2_with (first | ((with_reducible refine gate_callee (f := 20) rfl ?_); refine goesL_ (some 54) rfl rfl Try.func20 (by kernel_rfl) rfl #[.agg #[.int .i64 a0_0, .int .i64 a0_1, .slice A0_2 l0_2.length c0_2]] rfl pL ?_; (with_reducible refine (garnerref27_May.calls kj13 a0_0 a0_1 _ _ l0_2 true _ ?side1 ?side2 A34.out).mono ?_); (case side1 => exact pC (Kd.C_below HR0_2.out HB.out)); (case side2 => exact HC0_2.out); rintro e w97 ⟨rfl, hb⟩; refine ⟨_, rfl, ?_⟩; have n0_ := Aside0.mk (Kd.R_below (pR HO_5.out) hb); have n1_ := Aside0.mk (blk_below (g := gb497) (o := .cells #[.int .i64 a0_0, .int .i64 a0_1, .slice A0_2 l0_2.length c0_2] 29 (0, 0)) (pK BK497.out) hb); have n2_ := Aside0.mk (below_step (pE HB.out GE497.out) hb); clear HO_5 BK497 HB; have HO_5 := n0_; have BK497 := n1_; have HB := n2_; clear n0_ n1_ n2_; (try clear hb); (try clear hb2); (try clear hk); (try clear hi); obtain ⟨Ao98, co98, eo98⟩ := Kd.R_slice HO_5.out; subst eo98) | ((with_reducible refine gate_callee (f := 16) rfl ?_); refine goesL_ (some 68) rfl rfl Try.func16 (by kernel_rfl) rfl #[.slice Ao98 t501.length co98] rfl pL ?_; (with_reducible refine (export_Get.calls kj13 _ _ t501 t512 t513 t514 t517 _ ?side1 ?side2 A36.out).mono ?_); (case side1 => exact pC (Kd.R_reads' HO_5.out).2.2); (case side2 => exact (Kd.R_reads' HO_5.out).2.1); rintro e w99 ⟨v515, rfl, ho0, hb⟩; refine ⟨_, rfl, ?_⟩; have n0_ := Aside0.mk (Kd.R_below (pR HO_5.out) hb); have n1_ := Aside0.mk (Kd.N_lower (Kd.N_mono (ok' := fun k_ => some k_ ≠ (.slice Ao98 t501.length co98 : Value).ownBlock ∧ k_ ≠ gb497) ho0 (fun k_ hk_ => ⟨(Kd.fresh' (Kd.R_lt (pR HO_5.out)) k_ hk_), (Kd.freshB (g := gb497) (o := .cells #[.int .i64 a0_0, .int .i64 a0_1, .slice A0_2 l0_2.length c0_2] 29 (0, 0)) (pK BK497.out) k_ hk_)⟩)) (below_size (pE HB.out GE497.out))); have n2_ := Aside0.mk (blk_below (g := gb497) (o := .cells #[.int .i64 a0_0, .int .i64 a0_1, .slice A0_2 l0_2.length c0_2] 29 (0, 0)) (pK BK497.out) hb); have n3_ := Aside0.mk (below_step (pE HB.out GE497.out) hb); clear HO_5 BK497 HB; have HO_5 := n0_; have HO516 := n1_; have BK497 := n2_; have HB := n3_; clear n0_ n1_ n2_ n3_; (try clear hb); (try clear hb2); (try clear hk); (try clear hi); (try clear ho0)))
         go_ret
         exact ⟨by first | rfl | (simp [errW_none, errW_some] <;> rfl) | (simp [*, errW_none, errW_some] <;> rfl), by repeat (first | (with_reducible first | exact HB.out | apply below_alloc | apply pw_below_drewN | apply below_drew1 | refine below_set ?_ GE497.out) | exact HB.out)⟩
       ·replace c35 := Bool.eq_false_iff.mpr c35
        subst c35
        have H1 : (if t502 = 1 then (if (t501.length : Int) = 0 then ((garnerlaw27_awake.f kj13).bind fun t511 => (some t511)) else (some false)) else (some false)) = some r := by rw [if_neg (show ¬ (false = true) by decide)] at H; exact H
        clear H
        have H := H1
        clear H1
        by_cases c100 : t502 = 1
        ·rw [if_pos c100] at H
         have c100b0 : (t502 == 1) = true := beq_iff_eq.mpr c100
         have c100b1 : (t502 != 1) = false := bne_eq_false_iff_eq.mpr c100
         clear c100
         by_cases c101 : (t501.length : Int) = 0
         ·rw [if_pos c101] at H
          have c101b0 : ((t501.length : Int) == 0) = true := beq_iff_eq.mpr c101
          have c101b1 : ((t501.length : Int) != 0) = false := bne_eq_false_iff_eq.mpr c101
          clear c101
          replace H := Option.bind_eq_some_iff.mp H
          obtain ⟨t511, A1020, H⟩ := H
          replace H : (some t511) = some r := H
          have A102 := Aside0.mk A1020
          clear A1020
          obtain rfl := Option.some.inj H
          have hcz103_0 : wc.cell? ⟨gb497, 0, none⟩ = some (.int .i64 a0_0) := (blk_cell BK497.out 0).trans rfl
          have hcz103_1 : wc.cell? ⟨gb497, 1, none⟩ = some (.int .i64 a0_1) := (blk_cell BK497.out 1).trans rfl
          have hcz103_2 : wc.cell? ⟨gb497, 2, none⟩ = some (.slice A0_2 l0_2.length c0_2) := (blk_cell BK497.out 2).trans rfl
          have hfz103_0 := blk_frozen BK497.out 0
          have hfz103_1 := blk_frozen BK497.out 1
          have hfz103_2 := blk_frozen BK497.out 2
          go_wp2_with (first | ((with_reducible refine gate_callee (f := 20) rfl ?_); refine goesL_ (some 54) rfl rfl Try.func20 (by kernel_rfl) rfl #[.agg #[.int .i64 a0_0, .int .i64 a0_1, .slice A0_2 l0_2.length c0_2]] rfl pL ?_; (with_reducible refine (garnerref27_May.calls kj13 a0_0 a0_1 _ _ l0_2 false _ ?side1 ?side2 A34.out).mono ?_); (case side1 => exact pC (Kd.C_below HR0_2.out HB.out)); (case side2 => exact HC0_2.out); rintro e w104 ⟨rfl, hb⟩; refine ⟨_, rfl, ?_⟩; have n0_ := Aside0.mk (Kd.R_below (pR HO_5.out) hb); have n1_ := Aside0.mk (blk_below (g := gb497) (o := .cells #[.int .i64 a0_0, .int .i64 a0_1, .slice A0_2 l0_2.length c0_2] 29 (0, 0)) (pK BK497.out) hb); have n2_ := Aside0.mk (below_step (pE HB.out GE497.out) hb); clear HO_5 BK497 HB; have HO_5 := n0_; have BK497 := n1_; have HB := n2_; clear n0_ n1_ n2_; (try clear hb); (try clear hb2); (try clear hk); (try clear hi); obtain ⟨Ao105, co105, eo105⟩ := Kd.R_slice HO_5.out; subst eo105) | (go_at_call 15; (with_reducible refine (garnerlaw27_awake.calls kj13  t511 _ A102.out).mono ?_); rintro e w106 ⟨rfl, hb⟩; have n0_ := Aside0.mk (Kd.R_below (pR HO_5.out) hb); have n1_ := Aside0.mk (blk_below (g := gb497) (o := .cells #[.int .i64 a0_0, .int .i64 a0_1, .slice A0_2 l0_2.length c0_2] 29 (0, 0)) (pK BK497.out) hb); have n2_ := Aside0.mk (below_step (pE HB.out GE497.out) hb); clear HO_5 BK497 HB; have HO_5 := n0_; have BK497 := n1_; have HB := n2_; clear n0_ n1_ n2_; (try clear hb); (try clear hb2); (try clear hk); (try clear hi)))
          go_ret
          exact ⟨by first | rfl | (simp [errW_none, errW_some] <;> rfl) | (simp [*, errW_none, errW_some] <;> rfl), by repeat (first | (with_reducible first | exact HB.out | apply below_alloc | apply pw_below_drewN | apply below_drew1 | refine below_set ?_ GE497.out) | exact HB.out)⟩
         ·rw [if_neg c101] at H
          have c101b0 : ((t501.length : Int) == 0) = false := beq_eq_false_iff_ne.mpr c101
          have c101b1 : ((t501.length : Int) != 0) = true := bne_iff_ne.mpr c101
          have c101b2 : ¬ (t501 = []) := fun h_ => c101 (by rw [h_]; rfl)
          obtain rfl := Option.some.inj H
          have hcz107_0 : wc.cell? ⟨gb497, 0, none⟩ = some (.int .i64 a0_0) := (blk_cell BK497.out 0).trans rfl
          have hcz107_1 : wc.cell? ⟨gb497, 1, none⟩ = some (.int .i64 a0_1) := (blk_cell BK497.out 1).trans rfl
          have hcz107_2 : wc.cell? ⟨gb497, 2, none⟩ = some (.slice A0_2 l0_2.length c0_2) := (blk_cell BK497.out 2).trans rfl
          have hfz107_0 := blk_frozen BK497.out 0
          have hfz107_1 := blk_frozen BK497.out 1
          have hfz107_2 := blk_frozen BK497.out 2
          go_wp2_with (first | ((with_reducible refine gate_callee (f := 20) rfl ?_); refine goesL_ (some 54) rfl rfl Try.func20 (by kernel_rfl) rfl #[.agg #[.int .i64 a0_0, .int .i64 a0_1, .slice A0_2 l0_2.length c0_2]] rfl pL ?_; (with_reducible refine (garnerref27_May.calls kj13 a0_0 a0_1 _ _ l0_2 false _ ?side1 ?side2 A34.out).mono ?_); (case side1 => exact pC (Kd.C_below HR0_2.out HB.out)); (case side2 => exact HC0_2.out); rintro e w108 ⟨rfl, hb⟩; refine ⟨_, rfl, ?_⟩; have n0_ := Aside0.mk (Kd.R_below (pR HO_5.out) hb); have n1_ := Aside0.mk (blk_below (g := gb497) (o := .cells #[.int .i64 a0_0, .int .i64 a0_1, .slice A0_2 l0_2.length c0_2] 29 (0, 0)) (pK BK497.out) hb); have n2_ := Aside0.mk (below_step (pE HB.out GE497.out) hb); clear HO_5 BK497 HB; have HO_5 := n0_; have BK497 := n1_; have HB := n2_; clear n0_ n1_ n2_; (try clear hb); (try clear hb2); (try clear hk); (try clear hi); obtain ⟨Ao109, co109, eo109⟩ := Kd.R_slice HO_5.out; subst eo109))
          go_ret
          exact ⟨by first | rfl | (simp [errW_none, errW_some] <;> rfl) | (simp [*, errW_none, errW_some] <;> rfl), by repeat (first | (with_reducible first | exact HB.out | apply below_alloc | apply pw_below_drewN | apply below_drew1 | refine below_set ?_ GE497.out) | exact HB.out)⟩
        ·rw [if_neg c100] at H
         have c100b0 : (t502 == 1) = false := beq_eq_false_iff_ne.mpr c100
         have c100b1 : (t502 != 1) = true := bne_iff_ne.mpr c100
         obtain rfl := Option.some.inj H
         have hcz110_0 : wc.cell? ⟨gb497, 0, none⟩ = some (.int .i64 a0_0) := (blk_cell BK497.out 0).trans rfl
         have hcz110_1 : wc.cell? ⟨gb497, 1, none⟩ = some (.int .i64 a0_1) := (blk_cell BK497.out 1).trans rfl
         have hcz110_2 : wc.cell? ⟨gb497, 2, none⟩ = some (.slice A0_2 l0_2.length c0_2) := (blk_cell BK497.out 2).trans rfl
         have hfz110_0 := blk_frozen BK497.out 0
         have hfz110_1 := blk_frozen BK497.out 1
         have hfz110_2 := blk_frozen BK497.out 2
         go_wp2_with (first | ((with_reducible refine gate_callee (f := 20) rfl ?_); refine goesL_ (some 54) rfl rfl Try.func20 (by kernel_rfl) rfl #[.agg #[.int .i64 a0_0, .int .i64 a0_1, .slice A0_2 l0_2.length c0_2]] rfl pL ?_; (with_reducible refine (garnerref27_May.calls kj13 a0_0 a0_1 _ _ l0_2 false _ ?side1 ?side2 A34.out).mono ?_); (case side1 => exact pC (Kd.C_below HR0_2.out HB.out)); (case side2 => exact HC0_2.out); rintro e w111 ⟨rfl, hb⟩; refine ⟨_, rfl, ?_⟩; have n0_ := Aside0.mk (Kd.R_below (pR HO_5.out) hb); have n1_ := Aside0.mk (blk_below (g := gb497) (o := .cells #[.int .i64 a0_0, .int .i64 a0_1, .slice A0_2 l0_2.length c0_2] 29 (0, 0)) (pK BK497.out) hb); have n2_ := Aside0.mk (below_step (pE HB.out GE497.out) hb); clear HO_5 BK497 HB; have HO_5 := n0_; have BK497 := n1_; have HB := n2_; clear n0_ n1_ n2_; (try clear hb); (try clear hb2); (try clear hk); (try clear hi)))
         go_ret
         exact ⟨by first | rfl | (simp [errW_none, errW_some] <;> rfl) | (simp [*, errW_none, errW_some] <;> rfl), by repeat (first | (with_reducible first | exact HB.out | apply below_alloc | apply pw_below_drewN | apply below_drew1 | refine below_set ?_ GE497.out) | exact HB.out)⟩
end Go.Proofs.Ytapamplgajkjlaa.PExportPuts
