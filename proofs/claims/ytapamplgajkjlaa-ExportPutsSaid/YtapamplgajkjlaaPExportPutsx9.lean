/- What the law reaches, as plain Lean functions, and that the machine's calls answer just that. -/
import Derived.Test.YtapamplgajkjlaaPExportPutsx0
import Derived.Test.YtapamplgajkjlaaPExportPutsx7
import Derived.Test.YtapamplgajkjlaaPExportPutsx8
namespace Go.Proofs.Ytapamplgajkjlaa.PExportPuts
open Go.RowKit Go.Proofs.YtapamplgajkjlaaW.PrintWords Go.Proofs.YtapamplgajkjlaaW.PrintLast Go.Proofs.YtapamplgajkjlaaW.PrintMore
attribute [local go_sem] max2_int min2_int max_two min_two max_three min_three max_four min_four
set_option linter.unusedVariables false
set_option linter.unusedSimpArgs false
attribute [local go_sem] wrap64_l1 wrap64_l2 wrap64_l3 wrap64_l4 wrap64_l5 str_leq str_gtr str_geq
mutual
def garnerref03_First.j1 : Nat → List Int → Int → Option (Int × List Int × Int × Int)
 | 0, _, _ => none
 | k + 1, x0, x5 => if x5 = (x0.length : Int) then (garnerref03_First.j2 k x0 (decide (x5 < 3))) else (garnerref03_First.j2 k x0 false)
def garnerref03_First.j2 : Nat → List Int → Bool → Option (Int × List Int × Int × Int)
 | 0, _, _ => none
 | k + 1, x0, x34 => if x34 = true then (some (0, ([] : List Int), 0, 5)) else ((garnerref02_Get.f k x0).bind fun bt358 => (if bt358.2 = 0 then (garnerref03_First.j3 k x0 bt358.1 bt358.2 true) else (garnerref03_First.j3 k x0 bt358.1 bt358.2 (decide (bt358.1 > 1048576)))))
def garnerref03_First.j3 : Nat → List Int → Int → Int → Bool → Option (Int × List Int × Int × Int)
 | 0, _, _, _, _ => none
 | k + 1, x0, x6, x7, x46 => if x46 = true then (some (0, ([] : List Int), 0, 2)) else (if x7 = (x0.length : Int) then (some (0, ([] : List Int), 0, 5)) else (if 0 ≤ x7 then (if x7 < (x0.length : Int) then (if (wrap64 (rd x0 x7)) < 1 then (garnerref03_First.j4 k x0 x6 x7 true (wrap64 (rd x0 x7))) else (garnerref03_First.j4 k x0 x6 x7 (decide ((wrap64 (rd x0 x7)) > 250)) (wrap64 (rd x0 x7)))) else (none)) else (none)))
def garnerref03_First.j4 : Nat → List Int → Int → Int → Bool → Int → Option (Int × List Int × Int × Int)
 | 0, _, _, _, _, _ => none
 | k + 1, x0, x6, x7, x66, x362000 => if x66 = true then (some (0, ([] : List Int), 0, 2)) else (if (x0.length : Int) < (wrap64 ((wrap64 ((wrap64 (x7 + 1)) + (wrap64 (x6)))) + 4)) then (some (0, ([] : List Int), 0, 5)) else ((some (([] : List Int) : List Int)).bind fun y362 => (if 0 ≤ (wrap64 (x7 + 1)) then (if (wrap64 (x7 + 1)) ≤ (wrap64 ((wrap64 (x7 + 1)) + (wrap64 (x6)))) then (if (wrap64 ((wrap64 (x7 + 1)) + (wrap64 (x6)))) ≤ (x0.length : Int) then (if y362.length + ((x0.take ((wrap64 ((wrap64 (x7 + 1)) + (wrap64 (x6)))) : Int).toNat).drop ((wrap64 (x7 + 1)) : Int).toNat).length < 140737488355328 then ((some (y362 ++ ((x0.take ((wrap64 ((wrap64 (x7 + 1)) + (wrap64 (x6)))) : Int).toNat).drop ((wrap64 (x7 + 1)) : Int).toNat) : List Int)).bind fun y366 => ((garnerref03_Put.f k x362000 y366).bind fun t369 => (if 0 ≤ (wrap64 ((wrap64 ((wrap64 (x7 + 1)) + (wrap64 (x6)))) + 4)) then (if (wrap64 ((wrap64 ((wrap64 (x7 + 1)) + (wrap64 (x6)))) + 4)) ≤ (x0.length : Int) then ((garnerref02_Bytes.f k t369 (x0.take ((wrap64 ((wrap64 ((wrap64 (x7 + 1)) + (wrap64 (x6)))) + 4)) : Int).toNat)).bind fun t373 => (if t373 = true then (some (x362000, y366, wrap64 ((wrap64 ((wrap64 (x7 + 1)) + (wrap64 (x6)))) + 4), 0)) else (some (0, ([] : List Int), 0, 2)))) else (none)) else (none)))) else (none)) else (none)) else (none)) else (none))))
def garnerref03_First.l0 : Nat → List Int → Int → Option (Int × List Int × Int × Int)
 | 0, _, _ => none
 | k + 1, x0, x5 => if x5 < (x0.length : Int) then (if x5 < 3 then (if 0 ≤ x5 then (if (rd x0 x5) > 127 then (garnerref03_First.l0 k x0 (wrap64 (x5 + 1))) else (garnerref03_First.j1 k x0 x5)) else (none)) else (garnerref03_First.j1 k x0 x5)) else (garnerref03_First.j1 k x0 x5)
end
def garnerref03_First.f (k : Nat) (l0 : List Int) : Option (Int × List Int × Int × Int) := garnerref03_First.l0 k l0 0
theorem garnerref03_First.mono_l : ∀ k, (∀ y0 y1, LeO (garnerref03_First.j1 k y0 y1) (garnerref03_First.j1 (k + 1) y0 y1)) ∧ (∀ y0 y1, LeO (garnerref03_First.j2 k y0 y1) (garnerref03_First.j2 (k + 1) y0 y1)) ∧ (∀ y0 y1 y2 y3, LeO (garnerref03_First.j3 k y0 y1 y2 y3) (garnerref03_First.j3 (k + 1) y0 y1 y2 y3)) ∧ (∀ y0 y1 y2 y3 y4, LeO (garnerref03_First.j4 k y0 y1 y2 y3 y4) (garnerref03_First.j4 (k + 1) y0 y1 y2 y3 y4)) ∧ (∀ y0 y1, LeO (garnerref03_First.l0 k y0 y1) (garnerref03_First.l0 (k + 1) y0 y1))
 | 0 => ⟨fun _ _ r h => by simp [garnerref03_First.j1] at h, fun _ _ r h => by simp [garnerref03_First.j2] at h, fun _ _ _ _ r h => by simp [garnerref03_First.j3] at h, fun _ _ _ _ _ r h => by simp [garnerref03_First.j4] at h, fun _ _ r h => by simp [garnerref03_First.l0] at h⟩
 | k + 1 => by
  obtain ⟨ih0, ih1, ih2, ih3, ih4⟩ := garnerref03_First.mono_l k
  refine ⟨?_, ?_, ?_, ?_, ?_⟩
  ·intro y0 y1
   unfold garnerref03_First.j1
   repeat' first
   | (with_reducible exact ih0 _ _)
   | (with_reducible exact ih1 _ _)
   | (with_reducible exact ih2 _ _ _ _)
   | (with_reducible exact ih3 _ _ _ _ _)
   | (with_reducible exact ih4 _ _)
   | (with_reducible exact garnerref02_Bytes.mono _ _ _)
   | (with_reducible exact garnerref02_Get.mono _ _)
   | (with_reducible exact garnerref03_Put.mono _ _ _)
   | (with_reducible exact LeO.refl _)
   | (with_reducible exact LeO.none _)
   | (with_reducible refine LeO.ite ?_ ?_)
   | (with_reducible refine LeO.bind ?_ (fun _ => ?_))
   | exact ih0 _ _
   | exact ih1 _ _
   | exact ih2 _ _ _ _
   | exact ih3 _ _ _ _ _
   | exact ih4 _ _
   | exact garnerref02_Bytes.mono _ _ _
   | exact garnerref02_Get.mono _ _
   | exact garnerref03_Put.mono _ _ _
   | exact LeO.none _
   | refine LeO.ite ?_ ?_
   | refine LeO.bind ?_ (fun _ => ?_)
  ·intro y0 y1
   unfold garnerref03_First.j2
   repeat' first
   | (with_reducible exact ih0 _ _)
   | (with_reducible exact ih1 _ _)
   | (with_reducible exact ih2 _ _ _ _)
   | (with_reducible exact ih3 _ _ _ _ _)
   | (with_reducible exact ih4 _ _)
   | (with_reducible exact garnerref02_Bytes.mono _ _ _)
   | (with_reducible exact garnerref02_Get.mono _ _)
   | (with_reducible exact garnerref03_Put.mono _ _ _)
   | (with_reducible exact LeO.refl _)
   | (with_reducible exact LeO.none _)
   | (with_reducible refine LeO.ite ?_ ?_)
   | (with_reducible refine LeO.bind ?_ (fun _ => ?_))
   | exact ih0 _ _
   | exact ih1 _ _
   | exact ih2 _ _ _ _
   | exact ih3 _ _ _ _ _
   | exact ih4 _ _
   | exact garnerref02_Bytes.mono _ _ _
   | exact garnerref02_Get.mono _ _
   | exact garnerref03_Put.mono _ _ _
   | exact LeO.none _
   | refine LeO.ite ?_ ?_
   | refine LeO.bind ?_ (fun _ => ?_)
  ·intro y0 y1 y2 y3
   unfold garnerref03_First.j3
   repeat' first
   | (with_reducible exact ih0 _ _)
   | (with_reducible exact ih1 _ _)
   | (with_reducible exact ih2 _ _ _ _)
   | (with_reducible exact ih3 _ _ _ _ _)
   | (with_reducible exact ih4 _ _)
   | (with_reducible exact garnerref02_Bytes.mono _ _ _)
   | (with_reducible exact garnerref02_Get.mono _ _)
   | (with_reducible exact garnerref03_Put.mono _ _ _)
   | (with_reducible exact LeO.refl _)
   | (with_reducible exact LeO.none _)
   | (with_reducible refine LeO.ite ?_ ?_)
   | (with_reducible refine LeO.bind ?_ (fun _ => ?_))
   | exact ih0 _ _
   | exact ih1 _ _
   | exact ih2 _ _ _ _
   | exact ih3 _ _ _ _ _
   | exact ih4 _ _
   | exact garnerref02_Bytes.mono _ _ _
   | exact garnerref02_Get.mono _ _
   | exact garnerref03_Put.mono _ _ _
   | exact LeO.none _
   | refine LeO.ite ?_ ?_
   | refine LeO.bind ?_ (fun _ => ?_)
  ·intro y0 y1 y2 y3 y4
   unfold garnerref03_First.j4
   repeat' first
   | (with_reducible exact ih0 _ _)
   | (with_reducible exact ih1 _ _)
   | (with_reducible exact ih2 _ _ _ _)
   | (with_reducible exact ih3 _ _ _ _ _)
   | (with_reducible exact ih4 _ _)
   | (with_reducible exact garnerref02_Bytes.mono _ _ _)
   | (with_reducible exact garnerref02_Get.mono _ _)
   | (with_reducible exact garnerref03_Put.mono _ _ _)
   | (with_reducible exact LeO.refl _)
   | (with_reducible exact LeO.none _)
   | (with_reducible refine LeO.ite ?_ ?_)
   | (with_reducible refine LeO.bind ?_ (fun _ => ?_))
   | exact ih0 _ _
   | exact ih1 _ _
   | exact ih2 _ _ _ _
   | exact ih3 _ _ _ _ _
   | exact ih4 _ _
   | exact garnerref02_Bytes.mono _ _ _
   | exact garnerref02_Get.mono _ _
   | exact garnerref03_Put.mono _ _ _
   | exact LeO.none _
   | refine LeO.ite ?_ ?_
   | refine LeO.bind ?_ (fun _ => ?_)
  ·intro y0 y1
   unfold garnerref03_First.l0
   repeat' first
   | (with_reducible exact ih0 _ _)
   | (with_reducible exact ih1 _ _)
   | (with_reducible exact ih2 _ _ _ _)
   | (with_reducible exact ih3 _ _ _ _ _)
   | (with_reducible exact ih4 _ _)
   | (with_reducible exact garnerref02_Bytes.mono _ _ _)
   | (with_reducible exact garnerref02_Get.mono _ _)
   | (with_reducible exact garnerref03_Put.mono _ _ _)
   | (with_reducible exact LeO.refl _)
   | (with_reducible exact LeO.none _)
   | (with_reducible refine LeO.ite ?_ ?_)
   | (with_reducible refine LeO.bind ?_ (fun _ => ?_))
   | exact ih0 _ _
   | exact ih1 _ _
   | exact ih2 _ _ _ _
   | exact ih3 _ _ _ _ _
   | exact ih4 _ _
   | exact garnerref02_Bytes.mono _ _ _
   | exact garnerref02_Get.mono _ _
   | exact garnerref03_Put.mono _ _ _
   | exact LeO.none _
   | refine LeO.ite ?_ ?_
   | refine LeO.bind ?_ (fun _ => ?_)
theorem garnerref03_First.mono : ∀ a0 k, LeO (garnerref03_First.f k a0) (garnerref03_First.f (k + 1) a0) := by
 intro a0 k
 obtain ⟨ih0, ih1, ih2, ih3, ih4⟩ := garnerref03_First.mono_l k
 unfold garnerref03_First.f
 repeat' first
   | (with_reducible exact ih0 _ _)
   | (with_reducible exact ih1 _ _)
   | (with_reducible exact ih2 _ _ _ _)
   | (with_reducible exact ih3 _ _ _ _ _)
   | (with_reducible exact ih4 _ _)
   | (with_reducible exact garnerref02_Bytes.mono _ _ _)
   | (with_reducible exact garnerref02_Get.mono _ _)
   | (with_reducible exact garnerref03_Put.mono _ _ _)
   | (with_reducible exact LeO.refl _)
   | (with_reducible exact LeO.none _)
   | (with_reducible refine LeO.ite ?_ ?_)
   | (with_reducible refine LeO.bind ?_ (fun _ => ?_))
   | exact ih0 _ _
   | exact ih1 _ _
   | exact ih2 _ _ _ _
   | exact ih3 _ _ _ _ _
   | exact ih4 _ _
   | exact garnerref02_Bytes.mono _ _ _
   | exact garnerref02_Get.mono _ _
   | exact garnerref03_Put.mono _ _ _
   | exact LeO.none _
   | refine LeO.ite ?_ ?_
   | refine LeO.bind ?_ (fun _ => ?_)
def garnerref03_First.T18 : Bool × List (List Nat × List Nat) := (true, [([], []), ([0], [0]), ([], []), ([], []), ([3], [3]), ([2, 4], [2, 4]), ([1, 5, 1], [1, 5]), ([6], [6])])
def garnerref03_First.B18 : List Nat := [0, 1, 0, 0, 8, 28, 63, 127]
theorem garnerref03_First.tab18 : rtab .any (opsOf Try.f139 18) = garnerref03_First.T18 := by kernel_rfl
theorem garnerref03_First.bits18 : waitsOk garnerref03_First.T18.2 garnerref03_First.B18 = true := by kernel_rfl
set_option maxHeartbeats 8000000 in
set_option maxRecDepth 100000 in
theorem garnerref03_First.calls (k : Nat) (A0 : Option Addr) (c0 : Nat) (l0 : List Int) (r1 : Int) (r2 : List Int) (r3 : Int) (r4 : Int) (w : World) (hr0 : Kd.C (Kd.int .u8) w A0 l0.length l0) (hc0 : l0.length ≤ c0) (h : garnerref03_First.f k l0 = some (r1, r2, r3, r4)) :
  Calls Try.prog 139 #[.slice A0 l0.length c0] w fun e w' => ∃ v1_ : Value, e = .returned (.tuple #[.agg #[.int .i64 r1, v1_], .int .i64 r3, .int .i64 r4]) ∧ Kd.R (Kd.int .u8) 5 w' w.heap.size (fun _ => True) v1_ r2 ∧ Below w.heap.size w w' := by
 have hu83 := Try.underlying83
 have HR0 := Aside0.mk hr0
 have HC0 := Aside0.mk hc0
 clear hr0 hc0
 have HB := Aside0.mk (Below.refl w.heap.size w)
 have H : (garnerref03_First.l0 k l0 0) = some (r1, r2, r3, r4) := h
 clear h
 have HC2 := Aside0.mk H
 clear H
 go_enter Try.func139, Try.ntmps139
 go_upto_block 0 with (first | ((with_reducible refine gate_dst (N := 2) rfl ?_); refine box_event ?hg (N := 2) ?hd (cs := #[.int .i64 0, .slice none 0 0]) (t := 83) ?hr ?_; (case hd => rfl); (case hg => rfl); (case hr => first | (go_simp; done) | (go_simp; rfl)); intro gb356 hg w3 hbox hb; have n0_ := Aside0.mk (below_step (pB HB.out) hb); have n1_ := Aside0.mk (hbox); have n2_ := Aside0.mk ((by rw [hg]; exact (below_size (pB HB.out)) : w.heap.size ≤ gb356)); have n3_ := Aside0.mk ((by rw [hg]; exact (below_size (pB HB.out)) : w.heap.size ≤ gb356)); clear HB; have HB := n0_; have BK356 := n1_; have GW356 := n2_; have GE356 := n3_; clear n0_ n1_ n2_ n3_ hb hbox hg))
 (try simp only [Act.put, List.setIfInBounds_toArray, List.set_cons_zero, List.set_cons_succ])
 go_cut [5] (fun v5 wc => ∃ (kq : Nat) (x5_1 : Int), v5 = .int .i64 x5_1 ∧ Aside0 (garnerref03_First.j1 kq l0 x5_1 = some (r1, r2, r3, r4)) ∧ Aside0 (kq ≤ k) ∧ Aside0 (wc.heap[gb356]? = some (.cells #[.int .i64 0, (.slice none 0 0)] 83 (0, 0))) ∧ Aside0 (Below w.heap.size w wc))
 case first =>
  have H := HC2.out
  clear HC2
  have H' := Aside0.mk H
  clear H
  go_wp2
  go_loopg [5] k (fun kq v5 w' => ∃ (x5_1 : Int), v5 = .int .i64 x5_1 ∧ Aside0 (garnerref03_First.l0 kq l0 x5_1 = some (r1, r2, r3, r4)) ∧ Aside0 (kq ≤ k) ∧ Aside0 (w'.heap[gb356]? = some (.cells #[.int .i64 0, (.slice none 0 0)] 83 (0, 0))) ∧ Aside0 (Below w.heap.size w w'))
  case atStart => exact ⟨(0), (by first | rfl | (simp; done) | (simp [*]; done)), H', ⟨Nat.le_refl _⟩, ⟨by (with_reducible repeat (first | refine blk_drewN ?_ _ | refine blk_drew ?_ | refine blk_alloc ?_ _)); exact BK356.out⟩, ⟨by repeat (first | (with_reducible first | exact HB.out | apply below_alloc | apply pw_below_drewN | apply below_drew1 | refine below_set ?_ GE356.out) | exact HB.out)⟩⟩
  case round =>
   clear H'
   try clear c1
   try clear p2
   obtain ⟨x5_1, rfl, HA, HK1, BK356, HB⟩ := hrel
   cases gk with
   | zero => exact absurd HA.out (by simp [garnerref03_First.l0])
   | succ k1 =>
    have H := HA.out
    clear HA
    simp only [garnerref03_First.l0] at H
    by_cases c4 : x5_1 < (l0.length : Int)
    ·rw [if_pos c4] at H
     have c4b0 : decide (x5_1 < (l0.length : Int)) = true := decide_eq_true c4
     clear c4
     (first | rw [c4b0] | (simp only [i64_w, i32_w]; rw [c4b0]) | skip)
     by_cases c5 : x5_1 < 3
     ·rw [if_pos c5] at H
      have c5b0 : decide (x5_1 < 3) = true := decide_eq_true c5
      clear c5
      by_cases c6 : 0 ≤ x5_1
      ·rw [if_pos c6] at H
       have c6b0 : decide (0 ≤ x5_1) = true := decide_eq_true c6
       clear c6
       by_cases c7 : (rd l0 x5_1) > 127
       ·rw [if_pos c7] at H
        have c7b0 : decide (127 < (rd l0 x5_1)) = true := decide_eq_true c7
        clear c7
        have H' := Aside0.mk H
        clear H
        have p357 : 0 ≤ (x5_1 : Int) := of_decide_eq_true pS
        have q357 : x5_1 < (l0.length : Int) := of_decide_eq_true pS
        obtain ⟨ad357, e357, hx357_0⟩ := Kd.at_int HR0.out x5_1 p357 q357
        cases e357
        replace hx357_0 := (HB.out.cell (World.block_lt_of_cell? w _ hx357_0)).trans hx357_0
        replace p357 := eq_true p357
        replace q357 := eq_true q357
        go_wp2
        go_roundg k1
        case measure => have := HK1.out; omega
        case rel => exact ⟨(wrap64 (x5_1 + 1)), (by first | rfl | (simp; done) | (simp [*]; done)), H', ⟨by have := HK1.out; omega⟩, ⟨by (with_reducible repeat (first | refine blk_drewN ?_ _ | refine blk_drew ?_ | refine blk_alloc ?_ _)); exact BK356.out⟩, ⟨by repeat (first | (with_reducible first | exact HB.out | apply below_alloc | apply pw_below_drewN | apply below_drew1 | refine below_set ?_ GE356.out) | exact HB.out)⟩⟩
       ·rw [if_neg c7] at H
        have c7b0 : decide (127 < (rd l0 x5_1)) = false := decide_eq_false c7
        clear c7
        have H' := Aside0.mk H
        clear H
        have p357 : 0 ≤ (x5_1 : Int) := of_decide_eq_true pS
        have q357 : x5_1 < (l0.length : Int) := of_decide_eq_true pS
        obtain ⟨ad357, e357, hx357_0⟩ := Kd.at_int HR0.out x5_1 p357 q357
        cases e357
        replace hx357_0 := (HB.out.cell (World.block_lt_of_cell? w _ hx357_0)).trans hx357_0
        replace p357 := eq_true p357
        replace q357 := eq_true q357
        go_wp2
        go_meet
        case rel => exact ⟨_, (x5_1), (by first | rfl | (simp; done) | (simp [*]; done)), H', ⟨by have := HK1.out; first | omega | exact Nat.le_refl _⟩, ⟨by (with_reducible repeat (first | refine blk_drewN ?_ _ | refine blk_drew ?_ | refine blk_alloc ?_ _)); exact BK356.out⟩, ⟨by repeat (first | (with_reducible first | exact HB.out | apply below_alloc | apply pw_below_drewN | apply below_drew1 | refine below_set ?_ GE356.out) | exact HB.out)⟩⟩
      ·rw [if_neg c6] at H
       exact absurd H (by simp)
     ·rw [if_neg c5] at H
      have c5b0 : decide (x5_1 < 3) = false := decide_eq_false c5
      clear c5
      have H' := Aside0.mk H
      clear H
      go_wp2
      go_meet
      case rel => exact ⟨_, (x5_1), (by first | rfl | (simp; done) | (simp [*]; done)), H', ⟨by have := HK1.out; first | omega | exact Nat.le_refl _⟩, ⟨by (with_reducible repeat (first | refine blk_drewN ?_ _ | refine blk_drew ?_ | refine blk_alloc ?_ _)); exact BK356.out⟩, ⟨by repeat (first | (with_reducible first | exact HB.out | apply below_alloc | apply pw_below_drewN | apply below_drew1 | refine below_set ?_ GE356.out) | exact HB.out)⟩⟩
    ·rw [if_neg c4] at H
     have c4b0 : decide (x5_1 < (l0.length : Int)) = false := decide_eq_false c4
     clear c4
     (first | rw [c4b0] | (simp only [i64_w, i32_w]; rw [c4b0]) | skip)
     have H' := Aside0.mk H
     clear H
     go_wp2
     go_meet
     case rel => exact ⟨_, (x5_1), (by first | rfl | (simp; done) | (simp [*]; done)), H', ⟨by have := HK1.out; first | omega | exact Nat.le_refl _⟩, ⟨by (with_reducible repeat (first | refine blk_drewN ?_ _ | refine blk_drew ?_ | refine blk_alloc ?_ _)); exact BK356.out⟩, ⟨by repeat (first | (with_reducible first | exact HB.out | apply below_alloc | apply pw_below_drewN | apply below_drew1 | refine below_set ?_ GE356.out) | exact HB.out)⟩⟩
 case rest =>
  clear HC2
  try clear c1
  try clear p2
  try clear p3
  try clear q3
  try clear hx3
  try clear c4
  try clear c4b0
  try clear c5
  try clear c5b0
  try clear c6
  try clear c6b0
  try clear p6
  try clear c7
  try clear c7b0
  try clear hx357_0
  try clear p2
  try clear p357
  try clear q357
  obtain ⟨kq, x5_1, rfl, HA, HJ1, BK356, HB⟩ := hcut
  cases kq with
  | zero => exact absurd HA.out (by simp [garnerref03_First.j1])
  | succ kj1 =>
   have H := HA.out
   clear HA
   simp only [garnerref03_First.j1] at H
   have HC8 := Aside0.mk H
   clear H
   go_upto_region 4 with (fail)
   go_cut [34] (fun v34 wc => ∃ (kq : Nat) (x34_7 : Bool), v34 = .bool x34_7 ∧ Aside0 (garnerref03_First.j2 kq l0 x34_7 = some (r1, r2, r3, r4)) ∧ Aside0 (kq ≤ kj1) ∧ Aside0 (wc.heap[gb356]? = some (.cells #[.int .i64 0, (.slice none 0 0)] 83 (0, 0))) ∧ Aside0 (Below w.heap.size w wc))
   case first =>
    have H := HC8.out
    clear HC8
    by_cases c9 : x5_1 = (l0.length : Int)
    ·rw [if_pos c9] at H
     have c9b0 : (x5_1 == (l0.length : Int)) = true := beq_iff_eq.mpr c9
     have c9b1 : (x5_1 != (l0.length : Int)) = false := bne_eq_false_iff_eq.mpr c9
     clear c9
     (first | rw [c9b0] | (simp only [i64_w, i32_w]; rw [c9b0]) | skip)
     have H' := Aside0.mk H
     clear H
     go_wp2
     go_meet
     case rel => exact ⟨_, (decide (x5_1 < 3)), (by first | rfl | (simp; done) | (simp [*]; done)), H', ⟨by have := HJ1.out; first | omega | exact Nat.le_refl _⟩, ⟨by (with_reducible repeat (first | refine blk_drewN ?_ _ | refine blk_drew ?_ | refine blk_alloc ?_ _)); exact BK356.out⟩, ⟨by repeat (first | (with_reducible first | exact HB.out | apply below_alloc | apply pw_below_drewN | apply below_drew1 | refine below_set ?_ GE356.out) | exact HB.out)⟩⟩
    ·rw [if_neg c9] at H
     have c9b0 : (x5_1 == (l0.length : Int)) = false := beq_eq_false_iff_ne.mpr c9
     have c9b1 : (x5_1 != (l0.length : Int)) = true := bne_iff_ne.mpr c9
     (first | rw [c9b0] | (simp only [i64_w, i32_w]; rw [c9b0]) | skip)
     have H' := Aside0.mk H
     clear H
     go_wp2
     go_meet
     case rel => exact ⟨_, (false), (by first | rfl | (simp; done) | (simp [*]; done)), H', ⟨by have := HJ1.out; first | omega | exact Nat.le_refl _⟩, ⟨by (with_reducible repeat (first | refine blk_drewN ?_ _ | refine blk_drew ?_ | refine blk_alloc ?_ _)); exact BK356.out⟩, ⟨by repeat (first | (with_reducible first | exact HB.out | apply below_alloc | apply pw_below_drewN | apply below_drew1 | refine below_set ?_ GE356.out) | exact HB.out)⟩⟩
   case rest =>
    clear HC8
    try clear c1
    try clear p2
    try clear p3
    try clear q3
    try clear hx3
    try clear c4
    try clear c4b0
    try clear c5
    try clear c5b0
    try clear c6
    try clear c6b0
    try clear p6
    try clear c7
    try clear c7b0
    try clear c9
    try clear c9b0
    try clear c9b1
    try clear hx357_0
    try clear p2
    try clear p3
    try clear p357
    try clear p6
    try clear q3
    try clear q357
    obtain ⟨kq, x34_7, rfl, HA, HJ7, BK356, HB⟩ := hcut
    cases kq with
    | zero => exact absurd HA.out (by simp [garnerref03_First.j2])
    | succ kj7 =>
     have H := HA.out
     clear HA
     simp only [garnerref03_First.j2] at H
     by_cases c10 : x34_7 = true
     ·subst c10
      have H1 : (some (0, ([] : List Int), 0, 5)) = some (r1, r2, r3, r4) := by rw [if_pos rfl] at H; exact H
      clear H
      have H := H1
      clear H1
      simp only [Option.some.injEq, Prod.mk.injEq] at H
      obtain ⟨rfl, rfl, rfl, rfl⟩ := H
      have hcz11_0 : wc.cell? ⟨gb356, 0, none⟩ = some (.int .i64 0) := (blk_cell BK356.out 0).trans rfl
      have hcz11_1 : wc.cell? ⟨gb356, 1, none⟩ = some (.slice none 0 0) := (blk_cell BK356.out 1).trans rfl
      have hfz11_0 := blk_frozen BK356.out 0
      have hfz11_1 := blk_frozen BK356.out 1
      go_wp2
      refine bodyPost_ret (results_ctt rfl _ _ gb356 83 #[.int .i64 0, .slice none 0 0] (0, 0) _ rfl (by (with_reducible repeat (first | refine blk_drewN ?_ _ | refine blk_drew ?_ | refine blk_alloc ?_ _)); refine blk_put (cs := #[.int .i64 0, .slice none 0 0]) ?_ 1 _ rfl; (with_reducible repeat (first | refine blk_drewN ?_ _ | refine blk_drew ?_ | refine blk_alloc ?_ _)); refine blk_put (cs := #[.int .i64 0, .slice none 0 0]) ?_ 0 _ rfl; (with_reducible repeat (first | refine blk_drewN ?_ _ | refine blk_drew ?_ | refine blk_alloc ?_ _)); exact BK356.out) Try.underlying83 rfl (by kernel_rfl)) rfl ?_
      exact ⟨_, by first | rfl | (simp [errW_none, errW_some] <;> rfl) | (simp [*, errW_none, errW_some] <;> rfl), by first | exact Kd.R_nil _ _ _ _ _ | exact Kd.N_nil _ _ _ _ _ | exact Kd.V_nil _ _ _ _ _ | exact Kd.Q_nil _ _ _ _ _ | exact Kd.S_nil _ _ _ _ _, by repeat (first | (with_reducible first | exact HB.out | apply below_alloc | apply pw_below_drewN | apply below_drew1 | refine below_set ?_ GE356.out) | exact HB.out)⟩
     ·replace c10 := Bool.eq_false_iff.mpr c10
      subst c10
      have H1 : ((garnerref02_Get.f kj7 l0).bind fun bt358 => (if bt358.2 = 0 then (garnerref03_First.j3 kj7 l0 bt358.1 bt358.2 true) else (garnerref03_First.j3 kj7 l0 bt358.1 bt358.2 (decide (bt358.1 > 1048576))))) = some (r1, r2, r3, r4) := by rw [if_neg (show ¬ (false = true) by decide)] at H; exact H
      clear H
      have H := H1
      clear H1
      replace H := Option.bind_eq_some_iff.mp H
      obtain ⟨⟨t358, t359⟩, A120, H⟩ := H
      replace H : (if t359 = 0 then (garnerref03_First.j3 kj7 l0 t358 t359 true) else (garnerref03_First.j3 kj7 l0 t358 t359 (decide (t358 > 1048576)))) = some (r1, r2, r3, r4) := H
      have A12 := Aside0.mk A120
      clear A120
      have HC13 := Aside0.mk H
      clear H
      go_upto_region 7 with (first | ((with_reducible refine gate_callee (f := 72) rfl ?_); refine goesL_ (some 38) rfl rfl Try.func72 (by kernel_rfl) rfl #[.slice A0 l0.length c0] rfl pL ?_; (with_reducible refine (garnerref02_Get.calls kj7 _ _ l0 t358 t359 _ ?side1 ?side2 A12.out).mono ?_); (case side1 => exact pC (Kd.C_below HR0.out HB.out)); (case side2 => exact HC0.out); rintro e w14 ⟨rfl, hb⟩; refine ⟨_, rfl, ?_⟩; have n0_ := Aside0.mk (blk_below (g := gb356) (o := .cells #[.int .i64 0, .slice none 0 0] 83 (0, 0)) (pK BK356.out) hb); have n1_ := Aside0.mk (below_step (pE HB.out GE356.out) hb); clear BK356 HB; have BK356 := n0_; have HB := n1_; clear n0_ n1_; (try clear hb); (try clear hb2); (try clear hk); (try clear hi)))
      (try simp only [Act.put, List.setIfInBounds_toArray, List.set_cons_zero, List.set_cons_succ])
      go_cut [46] (fun v46 wc => ∃ (kq : Nat) (x46_12 : Bool), v46 = .bool x46_12 ∧ Aside0 (garnerref03_First.j3 kq l0 t358 t359 x46_12 = some (r1, r2, r3, r4)) ∧ Aside0 (kq ≤ kj7) ∧ Aside0 (wc.heap[gb356]? = some (.cells #[.int .i64 0, (.slice none 0 0)] 83 (0, 0))) ∧ Aside0 (Below w.heap.size w wc))
      case first =>
       have H := HC13.out
       clear HC13
       by_cases c15 : t359 = 0
       ·rw [if_pos c15] at H
        have c15b0 : (t359 == 0) = true := beq_iff_eq.mpr c15
        have c15b1 : (t359 != 0) = false := bne_eq_false_iff_eq.mpr c15
        clear c15
        (first | rw [c15b0] | (simp only [i64_w, i32_w]; rw [c15b0]) | skip)
        have H' := Aside0.mk H
        clear H
        go_wp2
        go_meet
        case rel => exact ⟨_, (true), (by first | rfl | (simp; done) | (simp [*]; done)), H', ⟨by have := HJ1.out; have := HJ7.out; first | omega | exact Nat.le_refl _⟩, ⟨by (with_reducible repeat (first | refine blk_drewN ?_ _ | refine blk_drew ?_ | refine blk_alloc ?_ _)); exact BK356.out⟩, ⟨by repeat (first | (with_reducible first | exact HB.out | apply below_alloc | apply pw_below_drewN | apply below_drew1 | refine below_set ?_ GE356.out) | exact HB.out)⟩⟩
       ·rw [if_neg c15] at H
        have c15b0 : (t359 == 0) = false := beq_eq_false_iff_ne.mpr c15
        have c15b1 : (t359 != 0) = true := bne_iff_ne.mpr c15
        (first | rw [c15b0] | (simp only [i64_w, i32_w]; rw [c15b0]) | skip)
        have H' := Aside0.mk H
        clear H
        go_wp2
        go_meet
        case rel => exact ⟨_, (decide (t358 > 1048576)), (by first | rfl | (simp; done) | (simp [*]; done)), H', ⟨by have := HJ1.out; have := HJ7.out; first | omega | exact Nat.le_refl _⟩, ⟨by (with_reducible repeat (first | refine blk_drewN ?_ _ | refine blk_drew ?_ | refine blk_alloc ?_ _)); exact BK356.out⟩, ⟨by repeat (first | (with_reducible first | exact HB.out | apply below_alloc | apply pw_below_drewN | apply below_drew1 | refine below_set ?_ GE356.out) | exact HB.out)⟩⟩
      case rest =>
       clear HC13
       try clear c1
       try clear p2
       try clear p3
       try clear q3
       try clear hx3
       try clear c4
       try clear c4b0
       try clear c5
       try clear c5b0
       try clear c6
       try clear c6b0
       try clear p6
       try clear c7
       try clear c7b0
       try clear c9
       try clear c9b0
       try clear c9b1
       try clear c10
       try clear c13
       try clear c15
       try clear c15b0
       try clear c15b1
       try clear hcz11_0
       try clear hcz11_1
       try clear hfz11_0
       try clear hfz11_1
       try clear hx357_0
       try clear p2
       try clear p3
       try clear p357
       try clear p6
       try clear q3
       try clear q357
       obtain ⟨kq, x46_12, rfl, HA, HJ12, BK356, HB⟩ := hcut
       cases kq with
       | zero => exact absurd HA.out (by simp [garnerref03_First.j3])
       | succ kj12 =>
        have H := HA.out
        clear HA
        simp only [garnerref03_First.j3] at H
        by_cases c16 : x46_12 = true
        ·subst c16
         have H1 : (some (0, ([] : List Int), 0, 2)) = some (r1, r2, r3, r4) := by rw [if_pos rfl] at H; exact H
         clear H
         have H := H1
         clear H1
         simp only [Option.some.injEq, Prod.mk.injEq] at H
         obtain ⟨rfl, rfl, rfl, rfl⟩ := H
         have hcz17_0 : wc.cell? ⟨gb356, 0, none⟩ = some (.int .i64 0) := (blk_cell BK356.out 0).trans rfl
         have hcz17_1 : wc.cell? ⟨gb356, 1, none⟩ = some (.slice none 0 0) := (blk_cell BK356.out 1).trans rfl
         have hfz17_0 := blk_frozen BK356.out 0
         have hfz17_1 := blk_frozen BK356.out 1
         go_wp2
         refine bodyPost_ret (results_ctt rfl _ _ gb356 83 #[.int .i64 0, .slice none 0 0] (0, 0) _ rfl (by (with_reducible repeat (first | refine blk_drewN ?_ _ | refine blk_drew ?_ | refine blk_alloc ?_ _)); refine blk_put (cs := #[.int .i64 0, .slice none 0 0]) ?_ 1 _ rfl; (with_reducible repeat (first | refine blk_drewN ?_ _ | refine blk_drew ?_ | refine blk_alloc ?_ _)); refine blk_put (cs := #[.int .i64 0, .slice none 0 0]) ?_ 0 _ rfl; (with_reducible repeat (first | refine blk_drewN ?_ _ | refine blk_drew ?_ | refine blk_alloc ?_ _)); exact BK356.out) Try.underlying83 rfl (by kernel_rfl)) rfl ?_
         exact ⟨_, by first | rfl | (simp [errW_none, errW_some] <;> rfl) | (simp [*, errW_none, errW_some] <;> rfl), by first | exact Kd.R_nil _ _ _ _ _ | exact Kd.N_nil _ _ _ _ _ | exact Kd.V_nil _ _ _ _ _ | exact Kd.Q_nil _ _ _ _ _ | exact Kd.S_nil _ _ _ _ _, by repeat (first | (with_reducible first | exact HB.out | apply below_alloc | apply pw_below_drewN | apply below_drew1 | refine below_set ?_ GE356.out) | exact HB.out)⟩
        ·replace c16 := Bool.eq_false_iff.mpr c16
         subst c16
         have H1 : (if t359 = (l0.length : Int) then (some (0, ([] : List Int), 0, 5)) else (if 0 ≤ t359 then (if t359 < (l0.length : Int) then (if (wrap64 (rd l0 t359)) < 1 then (garnerref03_First.j4 kj12 l0 t358 t359 true (wrap64 (rd l0 t359))) else (garnerref03_First.j4 kj12 l0 t358 t359 (decide ((wrap64 (rd l0 t359)) > 250)) (wrap64 (rd l0 t359)))) else (none)) else (none))) = some (r1, r2, r3, r4) := by rw [if_neg (show ¬ (false = true) by decide)] at H; exact H
         clear H
         have H := H1
         clear H1
         by_cases c18 : t359 = (l0.length : Int)
         ·rw [if_pos c18] at H
          have c18b0 : (t359 == (l0.length : Int)) = true := beq_iff_eq.mpr c18
          have c18b1 : (t359 != (l0.length : Int)) = false := bne_eq_false_iff_eq.mpr c18
          clear c18
          simp only [Option.some.injEq, Prod.mk.injEq] at H
          obtain ⟨rfl, rfl, rfl, rfl⟩ := H
          have hcz19_0 : wc.cell? ⟨gb356, 0, none⟩ = some (.int .i64 0) := (blk_cell BK356.out 0).trans rfl
          have hcz19_1 : wc.cell? ⟨gb356, 1, none⟩ = some (.slice none 0 0) := (blk_cell BK356.out 1).trans rfl
          have hfz19_0 := blk_frozen BK356.out 0
          have hfz19_1 := blk_frozen BK356.out 1
          go_wp2
          refine bodyPost_ret (results_ctt rfl _ _ gb356 83 #[.int .i64 0, .slice none 0 0] (0, 0) _ rfl (by (with_reducible repeat (first | refine blk_drewN ?_ _ | refine blk_drew ?_ | refine blk_alloc ?_ _)); refine blk_put (cs := #[.int .i64 0, .slice none 0 0]) ?_ 1 _ rfl; (with_reducible repeat (first | refine blk_drewN ?_ _ | refine blk_drew ?_ | refine blk_alloc ?_ _)); refine blk_put (cs := #[.int .i64 0, .slice none 0 0]) ?_ 0 _ rfl; (with_reducible repeat (first | refine blk_drewN ?_ _ | refine blk_drew ?_ | refine blk_alloc ?_ _)); exact BK356.out) Try.underlying83 rfl (by kernel_rfl)) rfl ?_
          exact ⟨_, by first | rfl | (simp [errW_none, errW_some] <;> rfl) | (simp [*, errW_none, errW_some] <;> rfl), by first | exact Kd.R_nil _ _ _ _ _ | exact Kd.N_nil _ _ _ _ _ | exact Kd.V_nil _ _ _ _ _ | exact Kd.Q_nil _ _ _ _ _ | exact Kd.S_nil _ _ _ _ _, by repeat (first | (with_reducible first | exact HB.out | apply below_alloc | apply pw_below_drewN | apply below_drew1 | refine below_set ?_ GE356.out) | exact HB.out)⟩
         ·rw [if_neg c18] at H
          have c18b0 : (t359 == (l0.length : Int)) = false := beq_eq_false_iff_ne.mpr c18
          have c18b1 : (t359 != (l0.length : Int)) = true := bne_iff_ne.mpr c18
          by_cases c20 : 0 ≤ t359
          ·rw [if_pos c20] at H
           have c20b0 : decide (0 ≤ t359) = true := decide_eq_true c20
           clear c20
           by_cases c21 : t359 < (l0.length : Int)
           ·rw [if_pos c21] at H
            have c21b0 : decide (t359 < (l0.length : Int)) = true := decide_eq_true c21
            clear c21
            have HC22 := Aside0.mk H
            clear H
            have p360 : 0 ≤ (t359 : Int) := of_decide_eq_true pS
            have q360 : t359 < (l0.length : Int) := of_decide_eq_true pS
            obtain ⟨ad360, e360, hx360_0⟩ := Kd.at_int HR0.out t359 p360 q360
            cases e360
            replace hx360_0 := (HB.out.cell (World.block_lt_of_cell? w _ hx360_0)).trans hx360_0
            replace p360 := eq_true p360
            replace q360 := eq_true q360
            go_upto_region 12 with (first | ((with_reducible refine gate_dst (N := 8) rfl ?_); refine box_event ?hg (N := 8) ?hd (cs := #[.int .i64 0, .slice none 0 0]) (t := 83) ?hr ?_; (case hd => rfl); (case hg => rfl); (case hr => first | (go_simp; done) | (go_simp; rfl)); intro gb361 hg w23 hbox hb; have n0_ := Aside0.mk (blk_below (g := gb356) (o := .cells #[.int .i64 0, .slice none 0 0] 83 (0, 0)) (pK BK356.out) hb); have n1_ := Aside0.mk (below_step (pE HB.out GE356.out) hb); have n2_ := Aside0.mk (hbox); have n3_ := Aside0.mk ((by rw [hg]; exact (below_size (pE HB.out GE356.out)) : w.heap.size ≤ gb361)); have n4_ := Aside0.mk ((by rw [hg]; exact (below_size (pE HB.out GE356.out)) : w.heap.size ≤ gb361)); have n5_ := Aside0.mk ((by rw [hg]; exact Nat.ne_of_lt (blk_lt (g := gb356) (o := .cells #[.int .i64 0, .slice none 0 0] 83 (0, 0)) (pK BK356.out)) : gb356 ≠ gb361)); have n6_ := Aside0.mk ((by rw [hg]; exact Nat.ne_of_gt (blk_lt (g := gb356) (o := .cells #[.int .i64 0, .slice none 0 0] 83 (0, 0)) (pK BK356.out)) : gb361 ≠ gb356)); clear BK356 HB; have BK356 := n0_; have HB := n1_; have BK361 := n2_; have GW361 := n3_; have GE361 := n4_; have NB356_361 := n5_; have NB361_356 := n6_; clear n0_ n1_ n2_ n3_ n4_ n5_ n6_ hb hbox hg; have hnb24 := NB361_356.out; have hnc24 := NB356_361.out; have hcz25_0 : w23.cell? ⟨gb361, 0, none⟩ = some (.int .i64 0) := (blk_cell BK361.out 0).trans rfl; have hcz25_1 : w23.cell? ⟨gb361, 1, none⟩ = some (.slice none 0 0) := (blk_cell BK361.out 1).trans rfl; have hfz25_0 := blk_frozen BK361.out 0; have hfz25_1 := blk_frozen BK361.out 1))
            (try simp only [Act.put, List.setIfInBounds_toArray, List.set_cons_zero, List.set_cons_succ])
            go_cut [66] (fun v66 wc => ∃ (kq : Nat) (x66_21 : Bool), v66 = .bool x66_21 ∧ Aside0 (garnerref03_First.j4 kq l0 t358 t359 x66_21 (wrap64 (rd l0 t359)) = some (r1, r2, r3, r4)) ∧ Aside0 (kq ≤ kj12) ∧ Aside0 (wc.heap[gb356]? = some (.cells #[.int .i64 0, (.slice none 0 0)] 83 (0, 0))) ∧ Aside0 (wc.heap[gb361]? = some (.cells #[.int .i64 (wrap64 (rd l0 t359)), (.slice none 0 0)] 83 (0, 0))) ∧ Aside0 (Below w.heap.size w wc))
            case first =>
             have H := HC22.out
             clear HC22
             by_cases c26 : (wrap64 (rd l0 t359)) < 1
             ·rw [if_pos c26] at H
              have c26b0 : decide ((wrap64 (rd l0 t359)) < 1) = true := decide_eq_true c26
              clear c26
              (first | rw [c26b0] | (simp only [i64_w, i32_w]; rw [c26b0]) | skip)
              have H' := Aside0.mk H
              clear H
              have hnb27 := NB361_356.out
              have hnc27 := NB356_361.out
              have hcz28_0 : w23.cell? ⟨gb361, 0, none⟩ = some (.int .i64 0) := (blk_cell BK361.out 0).trans rfl
              have hcz28_1 : w23.cell? ⟨gb361, 1, none⟩ = some (.slice none 0 0) := (blk_cell BK361.out 1).trans rfl
              have hfz28_0 := blk_frozen BK361.out 0
              have hfz28_1 := blk_frozen BK361.out 1
              go_wp2
              go_meet
              case rel => exact ⟨_, (true), (by first | rfl | (simp; done) | (simp [*]; done)), H', ⟨by have := HJ1.out; have := HJ7.out; have := HJ12.out; first | omega | exact Nat.le_refl _⟩, ⟨by (with_reducible repeat (first | refine blk_drewN ?_ _ | refine blk_drew ?_ | refine blk_alloc ?_ _)); refine blk_far ?_ NB356_361.out _; (with_reducible repeat (first | refine blk_drewN ?_ _ | refine blk_drew ?_ | refine blk_alloc ?_ _)); refine blk_far ?_ NB356_361.out _; (with_reducible repeat (first | refine blk_drewN ?_ _ | refine blk_drew ?_ | refine blk_alloc ?_ _)); exact BK356.out⟩, ⟨by (with_reducible repeat (first | refine blk_drewN ?_ _ | refine blk_drew ?_ | refine blk_alloc ?_ _)); refine blk_put (cs := #[.int .i64 (wrap64 (rd l0 t359)), .slice none 0 0]) ?_ 1 _ rfl; (with_reducible repeat (first | refine blk_drewN ?_ _ | refine blk_drew ?_ | refine blk_alloc ?_ _)); refine blk_put (cs := #[.int .i64 0, .slice none 0 0]) ?_ 0 _ rfl; (with_reducible repeat (first | refine blk_drewN ?_ _ | refine blk_drew ?_ | refine blk_alloc ?_ _)); exact BK361.out⟩, ⟨by repeat (first | (with_reducible first | exact HB.out | apply below_alloc | apply pw_below_drewN | apply below_drew1 | refine below_set ?_ GE356.out | refine below_set ?_ GE361.out) | exact HB.out)⟩⟩
             ·rw [if_neg c26] at H
              have c26b0 : decide ((wrap64 (rd l0 t359)) < 1) = false := decide_eq_false c26
              clear c26
              (first | rw [c26b0] | (simp only [i64_w, i32_w]; rw [c26b0]) | skip)
              have H' := Aside0.mk H
              clear H
              have hnb29 := NB361_356.out
              have hnc29 := NB356_361.out
              have hcz30_0 : w23.cell? ⟨gb361, 0, none⟩ = some (.int .i64 0) := (blk_cell BK361.out 0).trans rfl
              have hcz30_1 : w23.cell? ⟨gb361, 1, none⟩ = some (.slice none 0 0) := (blk_cell BK361.out 1).trans rfl
              have hfz30_0 := blk_frozen BK361.out 0
              have hfz30_1 := blk_frozen BK361.out 1
              go_wp2
              go_meet
              case rel => exact ⟨_, (decide ((wrap64 (rd l0 t359)) > 250)), (by first | rfl | (simp; done) | (simp [*]; done)), H', ⟨by have := HJ1.out; have := HJ7.out; have := HJ12.out; first | omega | exact Nat.le_refl _⟩, ⟨by (with_reducible repeat (first | refine blk_drewN ?_ _ | refine blk_drew ?_ | refine blk_alloc ?_ _)); refine blk_far ?_ NB356_361.out _; (with_reducible repeat (first | refine blk_drewN ?_ _ | refine blk_drew ?_ | refine blk_alloc ?_ _)); refine blk_far ?_ NB356_361.out _; (with_reducible repeat (first | refine blk_drewN ?_ _ | refine blk_drew ?_ | refine blk_alloc ?_ _)); exact BK356.out⟩, ⟨by (with_reducible repeat (first | refine blk_drewN ?_ _ | refine blk_drew ?_ | refine blk_alloc ?_ _)); refine blk_put (cs := #[.int .i64 (wrap64 (rd l0 t359)), .slice none 0 0]) ?_ 1 _ rfl; (with_reducible repeat (first | refine blk_drewN ?_ _ | refine blk_drew ?_ | refine blk_alloc ?_ _)); refine blk_put (cs := #[.int .i64 0, .slice none 0 0]) ?_ 0 _ rfl; (with_reducible repeat (first | refine blk_drewN ?_ _ | refine blk_drew ?_ | refine blk_alloc ?_ _)); exact BK361.out⟩, ⟨by repeat (first | (with_reducible first | exact HB.out | apply below_alloc | apply pw_below_drewN | apply below_drew1 | refine below_set ?_ GE356.out | refine below_set ?_ GE361.out) | exact HB.out)⟩⟩
            case rest =>
             clear HC22
             try clear c1
             try clear c2
             try clear p2
             try clear p3
             try clear q3
             try clear hx3
             try clear c4
             try clear c4b0
             try clear c5
             try clear c5b0
             try clear c6
             try clear c6b0
             try clear p6
             try clear c7
             try clear c7b0
             try clear c9
             try clear c9b0
             try clear c9b1
             try clear c10
             try clear c13
             try clear c15
             try clear c15b0
             try clear c15b1
             try clear c16
             try clear c18
             try clear c18b0
             try clear c18b1
             try clear c20
             try clear c20b0
             try clear c21
             try clear c21b0
             try clear c24
             try clear c26
             try clear c26b0
             try clear c27
             try clear c29
             try clear hcz11_0
             try clear hcz11_1
             try clear hcz17_0
             try clear hcz17_1
             try clear hcz19_0
             try clear hcz19_1
             try clear hcz25_0
             try clear hcz25_1
             try clear hcz28_0
             try clear hcz28_1
             try clear hcz30_0
             try clear hcz30_1
             try clear hfz11_0
             try clear hfz11_1
             try clear hfz17_0
             try clear hfz17_1
             try clear hfz19_0
             try clear hfz19_1
             try clear hfz25_0
             try clear hfz25_1
             try clear hfz28_0
             try clear hfz28_1
             try clear hfz30_0
             try clear hfz30_1
             try clear hx357_0
             try clear hx360_0
             try clear p2
             try clear p3
             try clear p357
             try clear p360
             try clear p6
             try clear q3
             try clear q357
             try clear q360
             obtain ⟨kq, x66_21, rfl, HA, HJ21, BK356, BK361, HB⟩ := hcut
             cases kq with
             | zero => exact absurd HA.out (by simp [garnerref03_First.j4])
             | succ kj21 =>
              have H := HA.out
              clear HA
              simp only [garnerref03_First.j4] at H
              by_cases c31 : x66_21 = true
              ·subst c31
               have H1 : (some (0, ([] : List Int), 0, 2)) = some (r1, r2, r3, r4) := by rw [if_pos rfl] at H; exact H
               clear H
               have H := H1
               clear H1
               simp only [Option.some.injEq, Prod.mk.injEq] at H
               obtain ⟨rfl, rfl, rfl, rfl⟩ := H
               have hnb32 := NB356_361.out
               have hnc32 := NB361_356.out
               have hcz33_0 : wc.cell? ⟨gb356, 0, none⟩ = some (.int .i64 0) := (blk_cell BK356.out 0).trans rfl
               have hcz33_1 : wc.cell? ⟨gb356, 1, none⟩ = some (.slice none 0 0) := (blk_cell BK356.out 1).trans rfl
               have hfz33_0 := blk_frozen BK356.out 0
               have hfz33_1 := blk_frozen BK356.out 1
               go_wp2
               refine bodyPost_ret (results_ctt rfl _ _ gb356 83 #[.int .i64 0, .slice none 0 0] (0, 0) _ rfl (by (with_reducible repeat (first | refine blk_drewN ?_ _ | refine blk_drew ?_ | refine blk_alloc ?_ _)); refine blk_put (cs := #[.int .i64 0, .slice none 0 0]) ?_ 1 _ rfl; (with_reducible repeat (first | refine blk_drewN ?_ _ | refine blk_drew ?_ | refine blk_alloc ?_ _)); refine blk_put (cs := #[.int .i64 0, .slice none 0 0]) ?_ 0 _ rfl; (with_reducible repeat (first | refine blk_drewN ?_ _ | refine blk_drew ?_ | refine blk_alloc ?_ _)); exact BK356.out) Try.underlying83 rfl (by kernel_rfl)) rfl ?_
               exact ⟨_, by first | rfl | (simp [errW_none, errW_some] <;> rfl) | (simp [*, errW_none, errW_some] <;> rfl), by first | exact Kd.R_nil _ _ _ _ _ | exact Kd.N_nil _ _ _ _ _ | exact Kd.V_nil _ _ _ _ _ | exact Kd.Q_nil _ _ _ _ _ | exact Kd.S_nil _ _ _ _ _, by repeat (first | (with_reducible first | exact HB.out | apply below_alloc | apply pw_below_drewN | apply below_drew1 | refine below_set ?_ GE356.out | refine below_set ?_ GE361.out) | exact HB.out)⟩
              ·replace c31 := Bool.eq_false_iff.mpr c31
               subst c31
               have H1 : (if (l0.length : Int) < (wrap64 ((wrap64 ((wrap64 (t359 + 1)) + (wrap64 (t358)))) + 4)) then (some (0, ([] : List Int), 0, 5)) else ((some (([] : List Int) : List Int)).bind fun y362 => (if 0 ≤ (wrap64 (t359 + 1)) then (if (wrap64 (t359 + 1)) ≤ (wrap64 ((wrap64 (t359 + 1)) + (wrap64 (t358)))) then (if (wrap64 ((wrap64 (t359 + 1)) + (wrap64 (t358)))) ≤ (l0.length : Int) then (if y362.length + ((l0.take ((wrap64 ((wrap64 (t359 + 1)) + (wrap64 (t358)))) : Int).toNat).drop ((wrap64 (t359 + 1)) : Int).toNat).length < 140737488355328 then ((some (y362 ++ ((l0.take ((wrap64 ((wrap64 (t359 + 1)) + (wrap64 (t358)))) : Int).toNat).drop ((wrap64 (t359 + 1)) : Int).toNat) : List Int)).bind fun y366 => ((garnerref03_Put.f kj21 (wrap64 (rd l0 t359)) y366).bind fun t369 => (if 0 ≤ (wrap64 ((wrap64 ((wrap64 (t359 + 1)) + (wrap64 (t358)))) + 4)) then (if (wrap64 ((wrap64 ((wrap64 (t359 + 1)) + (wrap64 (t358)))) + 4)) ≤ (l0.length : Int) then ((garnerref02_Bytes.f kj21 t369 (l0.take ((wrap64 ((wrap64 ((wrap64 (t359 + 1)) + (wrap64 (t358)))) + 4)) : Int).toNat)).bind fun t373 => (if t373 = true then (some ((wrap64 (rd l0 t359)), y366, wrap64 ((wrap64 ((wrap64 (t359 + 1)) + (wrap64 (t358)))) + 4), 0)) else (some (0, ([] : List Int), 0, 2)))) else (none)) else (none)))) else (none)) else (none)) else (none)) else (none)))) = some (r1, r2, r3, r4) := by rw [if_neg (show ¬ (false = true) by decide)] at H; exact H
               clear H
               have H := H1
               clear H1
               by_cases c34 : (l0.length : Int) < (wrap64 ((wrap64 ((wrap64 (t359 + 1)) + (wrap64 (t358)))) + 4))
               ·rw [if_pos c34] at H
                have c34b0 : decide ((l0.length : Int) < (wrap64 ((wrap64 ((wrap64 (t359 + 1)) + (wrap64 (t358)))) + 4))) = true := decide_eq_true c34
                clear c34
                simp only [Option.some.injEq, Prod.mk.injEq] at H
                obtain ⟨rfl, rfl, rfl, rfl⟩ := H
                have hnb35 := NB356_361.out
                have hnc35 := NB361_356.out
                have hcz36_0 : wc.cell? ⟨gb356, 0, none⟩ = some (.int .i64 0) := (blk_cell BK356.out 0).trans rfl
                have hcz36_1 : wc.cell? ⟨gb356, 1, none⟩ = some (.slice none 0 0) := (blk_cell BK356.out 1).trans rfl
                have hfz36_0 := blk_frozen BK356.out 0
                have hfz36_1 := blk_frozen BK356.out 1
                go_wp2
                refine bodyPost_ret (results_ctt rfl _ _ gb356 83 #[.int .i64 0, .slice none 0 0] (0, 0) _ rfl (by (with_reducible repeat (first | refine blk_drewN ?_ _ | refine blk_drew ?_ | refine blk_alloc ?_ _)); refine blk_put (cs := #[.int .i64 0, .slice none 0 0]) ?_ 1 _ rfl; (with_reducible repeat (first | refine blk_drewN ?_ _ | refine blk_drew ?_ | refine blk_alloc ?_ _)); refine blk_put (cs := #[.int .i64 0, .slice none 0 0]) ?_ 0 _ rfl; (with_reducible repeat (first | refine blk_drewN ?_ _ | refine blk_drew ?_ | refine blk_alloc ?_ _)); exact BK356.out) Try.underlying83 rfl (by kernel_rfl)) rfl ?_
                exact ⟨_, by first | rfl | (simp [errW_none, errW_some] <;> rfl) | (simp [*, errW_none, errW_some] <;> rfl), by first | exact Kd.R_nil _ _ _ _ _ | exact Kd.N_nil _ _ _ _ _ | exact Kd.V_nil _ _ _ _ _ | exact Kd.Q_nil _ _ _ _ _ | exact Kd.S_nil _ _ _ _ _, by repeat (first | (with_reducible first | exact HB.out | apply below_alloc | apply pw_below_drewN | apply below_drew1 | refine below_set ?_ GE356.out | refine below_set ?_ GE361.out) | exact HB.out)⟩
               ·rw [if_neg c34] at H
                have c34b0 : decide ((l0.length : Int) < (wrap64 ((wrap64 ((wrap64 (t359 + 1)) + (wrap64 (t358)))) + 4))) = false := decide_eq_false c34
                clear c34
                obtain ⟨y362, hy362⟩ : ∃ y_ : List Int, y_ = (([] : List Int)) := ⟨_, rfl⟩
                replace H : (if 0 ≤ (wrap64 (t359 + 1)) then (if (wrap64 (t359 + 1)) ≤ (wrap64 ((wrap64 (t359 + 1)) + (wrap64 (t358)))) then (if (wrap64 ((wrap64 (t359 + 1)) + (wrap64 (t358)))) ≤ (l0.length : Int) then (if y362.length + ((l0.take ((wrap64 ((wrap64 (t359 + 1)) + (wrap64 (t358)))) : Int).toNat).drop ((wrap64 (t359 + 1)) : Int).toNat).length < 140737488355328 then ((some (y362 ++ ((l0.take ((wrap64 ((wrap64 (t359 + 1)) + (wrap64 (t358)))) : Int).toNat).drop ((wrap64 (t359 + 1)) : Int).toNat) : List Int)).bind fun y366 => ((garnerref03_Put.f kj21 (wrap64 (rd l0 t359)) y366).bind fun t369 => (if 0 ≤ (wrap64 ((wrap64 ((wrap64 (t359 + 1)) + (wrap64 (t358)))) + 4)) then (if (wrap64 ((wrap64 ((wrap64 (t359 + 1)) + (wrap64 (t358)))) + 4)) ≤ (l0.length : Int) then ((garnerref02_Bytes.f kj21 t369 (l0.take ((wrap64 ((wrap64 ((wrap64 (t359 + 1)) + (wrap64 (t358)))) + 4)) : Int).toNat)).bind fun t373 => (if t373 = true then (some ((wrap64 (rd l0 t359)), y366, wrap64 ((wrap64 ((wrap64 (t359 + 1)) + (wrap64 (t358)))) + 4), 0)) else (some (0, ([] : List Int), 0, 2)))) else (none)) else (none)))) else (none)) else (none)) else (none)) else (none)) = some (r1, r2, r3, r4) := by first | (rw [hy362]; with_reducible exact H) | (have H2_ := (Option.bind_some _ _).symm.trans H; rw [hy362]; with_reducible exact H2_) | (have H2_ := (Option.bind_some _ _).symm.trans H; with_reducible exact H2_) | with_reducible exact H | (rw [hy362]; exact H) | exact H
                have Ny362 := Aside0.mk hy362
                clear hy362
                obtain ⟨ji37, hji37⟩ : ∃ j_ : Int, (wrap64 (t359 + 1)) = j_ := ⟨_, rfl⟩
                replace H : (if 0 ≤ (ji37) then (if (ji37) ≤ (wrap64 ((ji37) + (wrap64 (t358)))) then (if (wrap64 ((ji37) + (wrap64 (t358)))) ≤ (l0.length : Int) then (if y362.length + ((l0.take ((wrap64 ((ji37) + (wrap64 (t358)))) : Int).toNat).drop ((ji37) : Int).toNat).length < 140737488355328 then ((some (y362 ++ ((l0.take ((wrap64 ((ji37) + (wrap64 (t358)))) : Int).toNat).drop ((ji37) : Int).toNat) : List Int)).bind fun y366 => ((garnerref03_Put.f kj21 (wrap64 (rd l0 t359)) y366).bind fun t369 => (if 0 ≤ (wrap64 ((wrap64 ((ji37) + (wrap64 (t358)))) + 4)) then (if (wrap64 ((wrap64 ((ji37) + (wrap64 (t358)))) + 4)) ≤ (l0.length : Int) then ((garnerref02_Bytes.f kj21 t369 (l0.take ((wrap64 ((wrap64 ((ji37) + (wrap64 (t358)))) + 4)) : Int).toNat)).bind fun t373 => (if t373 = true then (some ((wrap64 (rd l0 t359)), y366, wrap64 ((wrap64 ((ji37) + (wrap64 (t358)))) + 4), 0)) else (some (0, ([] : List Int), 0, 2)))) else (none)) else (none)))) else (none)) else (none)) else (none)) else (none)) = some (r1, r2, r3, r4) := by first | (rw [hji37] at H; exact H) | (simp only [hji37] at H ⊢; exact H)
                (try rw [hji37] at c34b0)
                have hji37w : (IntKind.i64.wrap (t359 + 1)) = ji37 := (i64_w _).trans hji37
                by_cases c38 : 0 ≤ (ji37)
                ·rw [if_pos c38] at H
                 have c38b0 := eq_true c38
                 have c38b1 : decide (0 ≤ (ji37)) = true := decide_eq_true c38
                 clear c38
                 by_cases c39 : (ji37) ≤ (wrap64 ((ji37) + (wrap64 (t358))))
                 ·rw [if_pos c39] at H
                  have c39b0 := eq_true c39
                  have c39b1 : decide ((ji37) ≤ (wrap64 ((ji37) + (wrap64 (t358))))) = true := decide_eq_true c39
                  by_cases c40 : (wrap64 ((ji37) + (wrap64 (t358)))) ≤ (l0.length : Int)
                  ·rw [if_pos c40] at H
                   have c40b0 := eq_true c40
                   have c40b1 : decide ((wrap64 ((ji37) + (wrap64 (t358)))) ≤ (l0.length : Int)) = true := decide_eq_true c40
                   by_cases c41 : y362.length + ((l0.take ((wrap64 ((ji37) + (wrap64 (t358)))) : Int).toNat).drop ((ji37) : Int).toNat).length < 140737488355328
                   ·rw [if_pos c41] at H
                    have LMc41 := Aside0.mk c41
                    clear c41
                    obtain ⟨y366, hy366⟩ : ∃ y_ : List Int, y_ = (y362 ++ ((l0.take ((wrap64 ((ji37) + (wrap64 (t358)))) : Int).toNat).drop ((ji37) : Int).toNat)) := ⟨_, rfl⟩
                    replace H : ((garnerref03_Put.f kj21 (wrap64 (rd l0 t359)) y366).bind fun t369 => (if 0 ≤ (wrap64 ((wrap64 ((ji37) + (wrap64 (t358)))) + 4)) then (if (wrap64 ((wrap64 ((ji37) + (wrap64 (t358)))) + 4)) ≤ (l0.length : Int) then ((garnerref02_Bytes.f kj21 t369 (l0.take ((wrap64 ((wrap64 ((ji37) + (wrap64 (t358)))) + 4)) : Int).toNat)).bind fun t373 => (if t373 = true then (some ((wrap64 (rd l0 t359)), y366, wrap64 ((wrap64 ((ji37) + (wrap64 (t358)))) + 4), 0)) else (some (0, ([] : List Int), 0, 2)))) else (none)) else (none))) = some (r1, r2, r3, r4) := by first | (rw [hy366]; with_reducible exact H) | (have H2_ := (Option.bind_some _ _).symm.trans H; rw [hy366]; with_reducible exact H2_) | (have H2_ := (Option.bind_some _ _).symm.trans H; with_reducible exact H2_) | with_reducible exact H | (rw [hy366]; exact H) | exact H
                    have Ny366 := Aside0.mk hy366
                    clear hy366
                    replace H := Option.bind_eq_some_iff.mp H
                    obtain ⟨t369, A420, H⟩ := H
                    replace H : (if 0 ≤ (wrap64 ((wrap64 ((ji37) + (wrap64 (t358)))) + 4)) then (if (wrap64 ((wrap64 ((ji37) + (wrap64 (t358)))) + 4)) ≤ (l0.length : Int) then ((garnerref02_Bytes.f kj21 t369 (l0.take ((wrap64 ((wrap64 ((ji37) + (wrap64 (t358)))) + 4)) : Int).toNat)).bind fun t373 => (if t373 = true then (some ((wrap64 (rd l0 t359)), y366, wrap64 ((wrap64 ((ji37) + (wrap64 (t358)))) + 4), 0)) else (some (0, ([] : List Int), 0, 2)))) else (none)) else (none)) = some (r1, r2, r3, r4) := H
                    have A42 := Aside0.mk A420
                    clear A420
                    obtain ⟨ji43, hji43⟩ : ∃ j_ : Int, (wrap64 ((wrap64 ((ji37) + (wrap64 (t358)))) + 4)) = j_ := ⟨_, rfl⟩
                    replace H : (if 0 ≤ (ji43) then (if (ji43) ≤ (l0.length : Int) then ((garnerref02_Bytes.f kj21 t369 (l0.take ((ji43) : Int).toNat)).bind fun t373 => (if t373 = true then (some ((wrap64 (rd l0 t359)), y366, ji43, 0)) else (some (0, ([] : List Int), 0, 2)))) else (none)) else (none)) = some (r1, r2, r3, r4) := by first | (rw [hji43] at H; exact H) | (simp only [hji43] at H ⊢; exact H)
                    (try rw [hji43] at c34b0)
                    (try rw [hji43] at c39b0)
                    (try rw [hji43] at c39b1)
                    (try rw [hji43] at c39)
                    (try rw [hji43] at c40b0)
                    (try rw [hji43] at c40b1)
                    (try rw [hji43] at c40)
                    (try rw [hji43] at A42)
                    have hji43w : (IntKind.i64.wrap ((wrap64 ((ji37) + (wrap64 (t358)))) + 4)) = ji43 := (i64_w _).trans hji43
                    by_cases c44 : 0 ≤ (ji43)
                    ·rw [if_pos c44] at H
                     have c44b0 := eq_true c44
                     have c44b1 : decide (0 ≤ (ji43)) = true := decide_eq_true c44
                     clear c44
                     by_cases c45 : (ji43) ≤ (l0.length : Int)
                     ·rw [if_pos c45] at H
                      have c45b0 := eq_true c45
                      have c45b1 : decide ((ji43) ≤ (l0.length : Int)) = true := decide_eq_true c45
                      clear c45
                      replace H := Option.bind_eq_some_iff.mp H
                      obtain ⟨t373, A460, H⟩ := H
                      replace H : (if t373 = true then (some ((wrap64 (rd l0 t359)), y366, ji43, 0)) else (some (0, ([] : List Int), 0, 2))) = some (r1, r2, r3, r4) := H
                      have A46 := Aside0.mk A460
                      clear A460
                      by_cases c47 : t373 = true
                      ·subst c47
                       have H1 : (some ((wrap64 (rd l0 t359)), y366, ji43, 0)) = some (r1, r2, r3, r4) := by rw [if_pos rfl] at H; exact H
                       clear H
                       have H := H1
                       clear H1
                       simp only [Option.some.injEq, Prod.mk.injEq] at H
                       obtain ⟨rfl, rfl, rfl, rfl⟩ := H
                       try go_wp2_with (first | ((with_reducible refine gate_dst (N := 79) rfl ?_); refine Kd.R_lit (Kd.int .u8) _ 5 ?hg (N := 79) ?hd (xs := ([] : List Int)) (inner := []) (ok := fun _ => True) (okp := fun _ => True) ?hr ?hp (fun _ hk => hk) trivial (Below.refl _ _) (Nat.le_refl _) (by simp) ?_; (case hd => rfl); (case hg => rfl); (case hr => first | (go_simp; done) | (go_simp; rfl)); (case hp => exact (Reps.none _ _)); intro v363 w48 ho49 hb hg_ hnew_; clear hg_ hnew_; (first | rw [← Ny362.out] at ho49 | (simp only [Int.reduceToNat] at ho49; rw [← Ny362.out] at ho49)); have n0_ := Aside0.mk (Kd.R_lower ho49 (below_size (by repeat (first | (with_reducible first | exact HB.out | apply below_alloc | apply pw_below_drewN | apply below_drew1 | refine below_set ?_ GE356.out | refine below_set ?_ GE361.out) | exact HB.out)))); have n1_ := Aside0.mk (blk_below (g := gb356) (o := .cells #[.int .i64 0, .slice none 0 0] 83 (0, 0)) (pK BK356.out) hb); have n2_ := Aside0.mk (blk_below (g := gb361) (o := .cells #[.int .i64 (wrap64 (rd l0 t359)), .slice none 0 0] 83 (0, 0)) (pK BK361.out) hb); have n3_ := Aside0.mk (below_step (by repeat (first | (with_reducible first | exact HB.out | apply below_alloc | apply pw_below_drewN | apply below_drew1 | refine below_set ?_ GE356.out | refine below_set ?_ GE361.out) | exact HB.out)) hb); clear BK356 BK361 HB; have HO364 := n0_; have BK356 := n1_; have BK361 := n2_; have HB := n3_; clear n0_ n1_ n2_ n3_ hb ho49; obtain ⟨i050, hi050, _, hsz50, _⟩ := info_parts info5; obtain ⟨A50, hcut50, hA50, hC50⟩ := print_mid_of (P := Try.prog) (Value.int .u8) 0 22 5 .i64 .i64 Try.underlying22 hi050 hsz50 (some ad360) c0 l0 (ji37) (wrap64 ((ji37) + (wrap64 (t358)))) (of_decide_eq_true pS) (by first | omega | exact of_decide_eq_true pS) (of_decide_eq_true pS) HC0.out; have HR365 := Aside0.mk (Kd.C_of_reads (h1 := fun _ => rfl) (hA50 _ (Kd.reads_of_C HR0.out))); have HC365 := Aside0.mk hC50; clear hA50 hC50 hi050 hsz50) | ((with_reducible refine gate_builtin (b := .append) (xs := #[.tmp 79, .tmp 84]) rfl ?_); at_builtin; refine Kd.R_append_rows (Kd.int .u8) (w0 := w) w.heap.size rfl (.tmp 79) (.tmp 84) 22 5 (.int .u8 0) 1 rfl Try.underlying22 info5 rfl (by decide) (by omega) v363 y362 ((l0.take ((wrap64 ((ji37) + (wrap64 (t358)))) : Int).toNat).drop ((ji37) : Int).toNat) _ _ _ (fun _ => True) (fun _ => False) rfl rfl ?aO ?aR (fun _ _ h => h) (fun _ h => h.elim) ?aF ?aB ?aS ?aL ?_; (case aR => first | (rw [← show ((l0.take ((wrap64 ((ji37) + (wrap64 (t358)))) : Int).toNat).drop ((ji37) : Int).toNat).length = ((wrap64 ((ji37) + (wrap64 (t358)))).toNat - (ji37).toNat) from (by rw [List.length_drop, List.length_take]; have h_ : ((wrap64 ((ji37) + (wrap64 (t358)))) : Int) ≤ (l0.length : Int) := of_decide_eq_true pS; omega)]; exact pC (Kd.C_below HR365.out HB.out)) | (exact pC (Kd.C_below HR365.out HB.out))); (case aB => exact (by repeat (first | (with_reducible first | exact HB.out | apply below_alloc | apply pw_below_drewN | apply below_drew1 | refine below_set ?_ GE356.out | refine below_set ?_ GE361.out) | exact HB.out))); (case aF => exact (fun _ _ => trivial)); (case aO => exact (pR HO364.out)); (case aS => exact (below_size (by repeat (first | (with_reducible first | exact HB.out | apply below_alloc | apply pw_below_drewN | apply below_drew1 | refine below_set ?_ GE356.out | refine below_set ?_ GE361.out) | exact HB.out)))); (case aL => have := LMc41.out; have hlx_ := (show ((l0.take ((wrap64 ((ji37) + (wrap64 (t358)))) : Int).toNat).drop ((ji37) : Int).toNat).length = ((wrap64 ((ji37) + (wrap64 (t358)))).toNat - (ji37).toNat) from (by rw [List.length_drop, List.length_take]; have h_ : ((wrap64 ((ji37) + (wrap64 (t358)))) : Int) ≤ (l0.length : Int) := of_decide_eq_true pS; omega)); omega); intro v367 w51 ho hb hg hat; rw [← Ny366.out] at ho; have n0_ := Aside0.mk (blk_grown (g := gb356) (o := .cells #[.int .i64 0, .slice none 0 0] 83 (0, 0)) (pK BK356.out) hg (Kd.R_ne HO364.out BK356.out (by decide))); have n1_ := Aside0.mk (blk_grown (g := gb361) (o := .cells #[.int .i64 (wrap64 (rd l0 t359)), .slice none 0 0] 83 (0, 0)) (pK BK361.out) hg (Kd.R_ne HO364.out BK361.out (by decide))); have n2_ := Aside0.mk (hb); have n3_ := Aside0.mk (ho); clear BK356 BK361 HB HO364; have BK356 := n0_; have BK361 := n1_; have HB := n2_; have HO368 := n3_; clear n0_ n1_ n2_ n3_ ho hb hg hat; obtain ⟨Ao52, co52, eo52⟩ := Kd.R_slice HO368.out; subst eo52; have hnb53 := NB361_356.out; have hnc53 := NB356_361.out; have hcz54_0 : w51.cell? ⟨gb361, 0, none⟩ = some (.int .i64 (wrap64 (rd l0 t359))) := (blk_cell BK361.out 0).trans rfl; have hcz54_1 : w51.cell? ⟨gb361, 1, none⟩ = some (.slice none 0 0) := (blk_cell BK361.out 1).trans rfl; have hfz54_0 := blk_frozen BK361.out 0; have hfz54_1 := blk_frozen BK361.out 1))
                       have n0_ : Aside0 (Kd.R (Kd.int .u8) 5 (w51.setCell ⟨gb361, 1, none⟩ (.slice Ao52 y366.length co52)) w.heap.size (fun _ => True) (.slice Ao52 y366.length co52) y366) := ⟨by (with_reducible repeat (first | apply Kd.R_alloc | apply Kd.R_drewN | apply Kd.R_drew)); exact Kd.R_mono (Kd.R_far (p := ⟨gb361, 1, none⟩) (Kd.R_types HO368.out BK361.out (by decide)) (fun _ hk => hk.2) (.slice Ao52 y366.length co52)) (fun _ hk => trivial)⟩
                       have n1_ : Aside0 ((w51.setCell ⟨gb361, 1, none⟩ (.slice Ao52 y366.length co52)).heap[gb356]? = some (.cells #[.int .i64 0, .slice none 0 0] 83 (0, 0))) := ⟨by (with_reducible repeat (first | refine blk_drewN ?_ _ | refine blk_drew ?_ | refine blk_alloc ?_ _)); refine blk_far ?_ NB356_361.out _; (with_reducible repeat (first | refine blk_drewN ?_ _ | refine blk_drew ?_ | refine blk_alloc ?_ _)); exact BK356.out⟩
                       have n2_ : Aside0 ((w51.setCell ⟨gb361, 1, none⟩ (.slice Ao52 y366.length co52)).heap[gb361]? = some (.cells #[.int .i64 (wrap64 (rd l0 t359)), .slice Ao52 y366.length co52] 83 (0, 0))) := ⟨by (with_reducible repeat (first | refine blk_drewN ?_ _ | refine blk_drew ?_ | refine blk_alloc ?_ _)); refine blk_put (cs := #[.int .i64 (wrap64 (rd l0 t359)), .slice none 0 0]) ?_ 1 _ rfl; (with_reducible repeat (first | refine blk_drewN ?_ _ | refine blk_drew ?_ | refine blk_alloc ?_ _)); exact BK361.out⟩
                       have n3_ : Aside0 (Below w.heap.size w (w51.setCell ⟨gb361, 1, none⟩ (.slice Ao52 y366.length co52))) := ⟨by repeat (first | (with_reducible first | exact HB.out | apply below_alloc | apply pw_below_drewN | apply below_drew1 | refine below_set ?_ GE356.out | refine below_set ?_ GE361.out) | exact HB.out)⟩
                       (try clear HO368)
                       (try clear BK356)
                       (try clear BK361)
                       (try clear HB)
                       generalize (w51.setCell ⟨gb361, 1, none⟩ (.slice Ao52 y366.length co52)) = w55 at n0_ n1_ n2_ n3_ ⊢
                       have HO368 := n0_
                       have BK356 := n1_
                       have BK361 := n2_
                       have HB := n3_
                       clear n0_ n1_ n2_ n3_
                       have n0_ := Aside0.mk (Kd.R_drew HO368.out)
                       have n1_ := Aside0.mk (blk_drew BK356.out)
                       have n2_ := Aside0.mk (blk_drew BK361.out)
                       have n3_ := Aside0.mk (below_drew1 HB.out)
                       clear HO368
                       clear BK356
                       clear BK361
                       clear HB
                       have HO368 := n0_
                       have BK356 := n1_
                       have BK361 := n2_
                       have HB := n3_
                       clear n0_ n1_ n2_ n3_
                       obtain ⟨i057, hi057, _, hsz57, _⟩ := info_parts info5
                       obtain ⟨hcut57, hA57, hC57⟩ := print_take_of (P := Try.prog) (Value.int .u8) 0 22 5 .i64 Try.underlying22 hi057 hsz57 (some ad360) c0 l0 (ji43) (of_decide_eq_true pS) (of_decide_eq_true pS) HC0.out
                       have HR372 := Aside0.mk (Kd.C_of_reads (h1 := fun _ => rfl) (hA57 _ (Kd.reads_of_C HR0.out)))
                       have HC372 := Aside0.mk hC57
                       clear hA57 hC57 hi057 hsz57
                       refine start_ (n := 8) (S := fun w' => w'.cell? ⟨gb361, 0, none⟩ = some (.int .i64 (wrap64 (rd l0 t359))) ∧ w'.cell? ⟨gb361, 1, none⟩ = some (.slice Ao52 y366.length co52)) (ds := []) #[false, false, false, false, false, false, false, false] (by kernel_rfl) rfl rfl ⟨(blk_cell BK361.out 0).trans rfl, (blk_cell BK361.out 1).trans rfl⟩ (fun hHeld => ?_); refine with_tabW garnerref03_First.tab18 garnerref03_First.bits18 (fun HT_ HW_ => ?_)
                       generalize w55.drew = w56 at HO368 BK356 BK361 HB HR372 hHeld ⊢
                       refine pure_ (i := 2) (N := some 89) (v := ?_) (a' := ?_) #[false, false, true, false, false, false, false, false] rfl rfl (any_of HT_.out (by kernel_rfl)) (fun _ _ _ h => h) (Or.inl ⟨by rfl, ?_⟩) ?_ ?_
                       rotate_left
                       ·intro w'
                        go_simp
                        with_reducible rfl
                       rotate_left
                       ·simp only [Act.put, List.setIfInBounds_toArray, List.set_cons_zero, List.set_cons_succ, i64_w, i32_w]
                        rfl
                       refine pure_ (i := 3) (N := some 90) (v := ?_) (a' := ?_) #[false, false, true, true, false, false, false, false] rfl rfl (any_of HT_.out (by kernel_rfl)) (fun _ _ _ h => h) (Or.inl ⟨by rfl, ?_⟩) ?_ ?_
                       rotate_left
                       ·intro w'
                        go_simp
                        with_reducible rfl
                       rotate_left
                       ·simp only [Act.put, List.setIfInBounds_toArray, List.set_cons_zero, List.set_cons_succ, i64_w, i32_w]
                        rfl
                       refine pure_ (i := 4) (N := some 91) (v := ?_) (a' := ?_) #[false, false, true, true, true, false, false, false] rfl rfl (any_of HT_.out (by kernel_rfl)) (fun _ _ _ h => h) (Or.inl ⟨by rfl, ?_⟩) ?_ ?_
                       rotate_left
                       ·intro w'
                        go_simp
                        with_reducible rfl
                       rotate_left
                       ·simp only [Act.put, List.setIfInBounds_toArray, List.set_cons_zero, List.set_cons_succ, i64_w, i32_w]
                        rfl
                       refine pure_ (i := 5) (N := some 92) (v := ?_) (a' := ?_) #[false, false, true, true, true, true, false, false] rfl rfl (any_of HT_.out (by kernel_rfl)) (fun _ _ _ h => h) (Or.inl ⟨by rfl, ?_⟩) ?_ ?_
                       rotate_left
                       ·intro w'
                        go_simp
                        with_reducible rfl
                       rotate_left
                       ·simp only [Act.put, List.setIfInBounds_toArray, List.set_cons_zero, List.set_cons_succ, i64_w, i32_w]
                        rfl
                       refine take_ (i := 0) (N := some 87) (v := ?_) (a' := ?_) #[true, false, true, true, true, true, false, false] rfl rfl (take_ofW HT_.out HW_.out (by kernel_rfl)) (fun _ _ _ h => h) (Or.inl ⟨by rfl, ?_⟩) hHeld ?_ ?_
                       rotate_left
                       ·rintro w' ⟨s0, s1⟩
                        go_simp
                        with_reducible rfl
                       rotate_left
                       ·simp only [Act.put, List.setIfInBounds_toArray, List.set_cons_zero, List.set_cons_succ, i64_w, i32_w]
                        rfl
                       refine one_ (i := 1) (N := some 88) #[true, true, true, true, true, true, false, false] rfl rfl (one_of HT_.out (by kernel_rfl)) (by decide) (fun K hK => ?_)
                       refine goes_ Try.func84 (by kernel_rfl) rfl #[.agg #[.int .i64 (wrap64 (rd l0 t359)), .slice Ao52 y366.length co52]] (by rfl) rfl rfl pL ?_
                       with_reducible refine (garnerref03_Put.calls kj21 (wrap64 (rd l0 t359)) _ _ y366 t369 _ ?side1 ?side2 A42.out).mono ?_
                       (case side1 => exact pC (Kd.R_reads' HO368.out).2.2)
                       (case side2 => exact (Kd.R_reads' HO368.out).2.1)
                       rintro e w58 ⟨v370, rfl, ho0, hb⟩
                       refine ⟨_, rfl, ?_⟩
                       have n0_ := Aside0.mk (Kd.R_elder' (pR HO368.out) (Kd.R_base ho0) hb)
                       have n1_ := Aside0.mk (Kd.R_lower (Kd.R_new' ho0 (Kd.R_lt (pR HO368.out))) (below_size (by repeat (first | (with_reducible first | exact HB.out | apply below_alloc | apply pw_below_drewN | apply below_drew1 | refine below_set ?_ GE356.out | refine below_set ?_ GE361.out) | exact HB.out))))
                       have n2_ := Aside0.mk (blk_below (g := gb356) (o := .cells #[.int .i64 0, .slice none 0 0] 83 (0, 0)) (pK BK356.out) hb)
                       have n3_ := Aside0.mk (blk_below (g := gb361) (o := .cells #[.int .i64 (wrap64 (rd l0 t359)), .slice Ao52 y366.length co52] 83 (0, 0)) (pK BK361.out) hb)
                       have n4_ := Aside0.mk (below_step (by repeat (first | (with_reducible first | exact HB.out | apply below_alloc | apply pw_below_drewN | apply below_drew1 | refine below_set ?_ GE356.out | refine below_set ?_ GE361.out) | exact HB.out)) hb)
                       clear HO368
                       clear BK356
                       clear BK361
                       clear HB
                       have HO368 := n0_
                       have HO371 := n1_
                       have BK356 := n2_
                       have BK361 := n3_
                       have HB := n4_
                       clear n0_ n1_ n2_ n3_ n4_
                       (try clear hb)
                       (try clear hb2)
                       (try clear hk)
                       (try clear hi)
                       (try clear ho0)
                       obtain ⟨Ao59, co59, eo59⟩ := Kd.R_slice HO371.out
                       (first | subst eo59 | (injection eo59 with f1_ f2_ f3_; have f4_ := f1_.symm; have f5_ := f3_.symm; clear f1_ f2_ f3_; subst f4_; subst f5_))
                       refine hK.out _ _ ⟨(blk_cell BK361.out 0).trans rfl, (blk_cell BK361.out 1).trans rfl⟩ (fun hHeld => ?_)
                       clear hK K
                       refine norm_ (a' := ?_) ?_ ?_
                       rotate_left
                       ·show Act.put _ (some 88) _ = _
                        simp only [Act.put, List.setIfInBounds_toArray, List.set_cons_zero, List.set_cons_succ, i64_w, i32_w]
                        rfl
                       refine one_ (i := 6) (N := some 93) #[true, true, true, true, true, true, true, false] rfl rfl (one_of HT_.out (by kernel_rfl)) (by decide) (fun K hK => ?_)
                       refine goes_ Try.func22 (by kernel_rfl) rfl #[.slice Ao59 t369.length co59, .slice (some ad360) (l0.take ((ji43) : Int).toNat).length c0] (by rfl) rfl rfl (by (try simp only [List.map_toArray, List.map_cons, List.map_nil]); first | done | (rw [show (l0.take ((ji43) : Int).toNat).length = (ji43).toNat from (by rw [List.length_take]; have h_ : ((ji43) : Int) ≤ (l0.length : Int) := of_decide_eq_true pS; omega)] <;> rfl) | (simp only [hji43]; rfl) | rfl | (simp only [List.length_drop, List.length_take]; rfl)) ?_
                       with_reducible refine (garnerref02_Bytes.calls kj21 _ _ t369 _ _ (l0.take ((ji43) : Int).toNat) true _ ?side1 ?side2 ?side3 ?side4 A46.out).mono ?_
                       (case side1 => exact pC (Kd.R_reads' HO371.out).2.2)
                       (case side2 => exact (Kd.R_reads' HO371.out).2.1)
                       (case side3 => exact pC (Kd.C_below HR372.out HB.out))
                       (case side4 => exact HC372.out)
                       rintro e w' ⟨rfl, ⟨nd, rfl⟩⟩
                       refine ⟨_, rfl, ?_⟩
                       refine hK.out _ _ ⟨(blk_cell BK361.out 0).trans rfl, (blk_cell BK361.out 1).trans rfl⟩ (fun hHeld => ?_)
                       clear hK K
                       refine norm_ (a' := ?_) ?_ ?_
                       rotate_left
                       ·show Act.put _ (some 93) _ = _
                        simp only [Act.put, List.setIfInBounds_toArray, List.set_cons_zero, List.set_cons_succ, i64_w, i32_w]
                        rfl
                       refine pure_ (i := 7) (N := some 94) (v := ?_) (a' := ?_) #[true, true, true, true, true, true, true, true] rfl rfl (any_of HT_.out (by kernel_rfl)) (fun _ _ _ h => h) (Or.inl ⟨by rfl, ?_⟩) ?_ ?_
                       rotate_left
                       ·intro w'
                        go_simp
                        with_reducible rfl
                       rotate_left
                       ·simp only [Act.put, List.setIfInBounds_toArray, List.set_cons_zero, List.set_cons_succ, i64_w, i32_w]
                        rfl
                       refine done_ (done_of HT_.out (by kernel_rfl)) ?_
                       have hcz60_0 : w58.cell? ⟨gb361, 0, none⟩ = some (.int .i64 (wrap64 (rd l0 t359))) := (blk_cell BK361.out 0).trans rfl
                       have hcz60_1 : w58.cell? ⟨gb361, 1, none⟩ = some (.slice Ao52 y366.length co52) := (blk_cell BK361.out 1).trans rfl
                       have hfz60_0 := blk_frozen BK361.out 0
                       have hfz60_1 := blk_frozen BK361.out 1
                       have hcz61_0 : w58.cell? ⟨gb356, 0, none⟩ = some (.int .i64 0) := (blk_cell BK356.out 0).trans rfl
                       have hcz61_1 : w58.cell? ⟨gb356, 1, none⟩ = some (.slice none 0 0) := (blk_cell BK356.out 1).trans rfl
                       have hfz61_0 := blk_frozen BK356.out 0
                       have hfz61_1 := blk_frozen BK356.out 1
                       try go_wp2
                       refine bodyPost_ret (results_ctt rfl _ _ gb356 83 #[.int .i64 (wrap64 (rd l0 t359)), .slice Ao52 y366.length co52] (0, 0) _ rfl (by (with_reducible repeat (first | refine blk_drewN ?_ _ | refine blk_drew ?_ | refine blk_alloc ?_ _)); refine blk_put (cs := #[.int .i64 (wrap64 (rd l0 t359)), .slice none 0 0]) ?_ 1 _ rfl; (with_reducible repeat (first | refine blk_drewN ?_ _ | refine blk_drew ?_ | refine blk_alloc ?_ _)); refine blk_put (cs := #[.int .i64 0, .slice none 0 0]) ?_ 0 _ rfl; (with_reducible repeat (first | refine blk_drewN ?_ _ | refine blk_drew ?_ | refine blk_alloc ?_ _)); exact BK356.out) Try.underlying83 rfl (by kernel_rfl)) rfl ?_
                       exact ⟨_, by first | rfl | (simp [errW_none, errW_some] <;> rfl) | (simp only [← hji37, ← hji43]; first | rfl | (simp [errW_none, errW_some] <;> rfl)) | (simp [*, errW_none, errW_some] <;> rfl), by (with_reducible repeat (first | apply Kd.R_alloc | apply Kd.R_drewN | apply Kd.R_drew)); exact Kd.R_mono (Kd.R_far (p := ⟨gb356, 1, none⟩) (Kd.R_far (p := ⟨gb356, 0, none⟩) (Kd.R_types HO368.out BK356.out (by decide)) (fun _ hk => hk.2) (.int .i64 (wrap64 (rd l0 t359)))) (fun _ hk => hk.2) (.slice Ao52 y366.length co52)) (fun _ hk => trivial), by repeat (first | (with_reducible first | exact HB.out | apply below_alloc | apply pw_below_drewN | apply below_drew1 | refine below_set ?_ GE356.out | refine below_set ?_ GE361.out) | exact HB.out)⟩
                      ·replace c47 := Bool.eq_false_iff.mpr c47
                       subst c47
                       have H1 : (some (0, ([] : List Int), 0, 2)) = some (r1, r2, r3, r4) := by rw [if_neg (show ¬ (false = true) by decide)] at H; exact H
                       clear H
                       have H := H1
                       clear H1
                       simp only [Option.some.injEq, Prod.mk.injEq] at H
                       obtain ⟨rfl, rfl, rfl, rfl⟩ := H
                       try go_wp2_with (first | ((with_reducible refine gate_dst (N := 79) rfl ?_); refine Kd.R_lit (Kd.int .u8) _ 5 ?hg (N := 79) ?hd (xs := ([] : List Int)) (inner := []) (ok := fun _ => True) (okp := fun _ => True) ?hr ?hp (fun _ hk => hk) trivial (Below.refl _ _) (Nat.le_refl _) (by simp) ?_; (case hd => rfl); (case hg => rfl); (case hr => first | (go_simp; done) | (go_simp; rfl)); (case hp => exact (Reps.none _ _)); intro v363 w62 ho63 hb hg_ hnew_; clear hg_ hnew_; (first | rw [← Ny362.out] at ho63 | (simp only [Int.reduceToNat] at ho63; rw [← Ny362.out] at ho63)); have n0_ := Aside0.mk (Kd.R_lower ho63 (below_size (by repeat (first | (with_reducible first | exact HB.out | apply below_alloc | apply pw_below_drewN | apply below_drew1 | refine below_set ?_ GE356.out | refine below_set ?_ GE361.out) | exact HB.out)))); have n1_ := Aside0.mk (blk_below (g := gb356) (o := .cells #[.int .i64 0, .slice none 0 0] 83 (0, 0)) (pK BK356.out) hb); have n2_ := Aside0.mk (blk_below (g := gb361) (o := .cells #[.int .i64 (wrap64 (rd l0 t359)), .slice none 0 0] 83 (0, 0)) (pK BK361.out) hb); have n3_ := Aside0.mk (below_step (by repeat (first | (with_reducible first | exact HB.out | apply below_alloc | apply pw_below_drewN | apply below_drew1 | refine below_set ?_ GE356.out | refine below_set ?_ GE361.out) | exact HB.out)) hb); clear BK356 BK361 HB; have HO364 := n0_; have BK356 := n1_; have BK361 := n2_; have HB := n3_; clear n0_ n1_ n2_ n3_ hb ho63; obtain ⟨i064, hi064, _, hsz64, _⟩ := info_parts info5; obtain ⟨A64, hcut64, hA64, hC64⟩ := print_mid_of (P := Try.prog) (Value.int .u8) 0 22 5 .i64 .i64 Try.underlying22 hi064 hsz64 (some ad360) c0 l0 (ji37) (wrap64 ((ji37) + (wrap64 (t358)))) (of_decide_eq_true pS) (by first | omega | exact of_decide_eq_true pS) (of_decide_eq_true pS) HC0.out; have HR365 := Aside0.mk (Kd.C_of_reads (h1 := fun _ => rfl) (hA64 _ (Kd.reads_of_C HR0.out))); have HC365 := Aside0.mk hC64; clear hA64 hC64 hi064 hsz64) | ((with_reducible refine gate_builtin (b := .append) (xs := #[.tmp 79, .tmp 84]) rfl ?_); at_builtin; refine Kd.R_append_rows (Kd.int .u8) (w0 := w) w.heap.size rfl (.tmp 79) (.tmp 84) 22 5 (.int .u8 0) 1 rfl Try.underlying22 info5 rfl (by decide) (by omega) v363 y362 ((l0.take ((wrap64 ((ji37) + (wrap64 (t358)))) : Int).toNat).drop ((ji37) : Int).toNat) _ _ _ (fun _ => True) (fun _ => False) rfl rfl ?aO ?aR (fun _ _ h => h) (fun _ h => h.elim) ?aF ?aB ?aS ?aL ?_; (case aR => first | (rw [← show ((l0.take ((wrap64 ((ji37) + (wrap64 (t358)))) : Int).toNat).drop ((ji37) : Int).toNat).length = ((wrap64 ((ji37) + (wrap64 (t358)))).toNat - (ji37).toNat) from (by rw [List.length_drop, List.length_take]; have h_ : ((wrap64 ((ji37) + (wrap64 (t358)))) : Int) ≤ (l0.length : Int) := of_decide_eq_true pS; omega)]; exact pC (Kd.C_below HR365.out HB.out)) | (exact pC (Kd.C_below HR365.out HB.out))); (case aB => exact (by repeat (first | (with_reducible first | exact HB.out | apply below_alloc | apply pw_below_drewN | apply below_drew1 | refine below_set ?_ GE356.out | refine below_set ?_ GE361.out) | exact HB.out))); (case aF => exact (fun _ _ => trivial)); (case aO => exact (pR HO364.out)); (case aS => exact (below_size (by repeat (first | (with_reducible first | exact HB.out | apply below_alloc | apply pw_below_drewN | apply below_drew1 | refine below_set ?_ GE356.out | refine below_set ?_ GE361.out) | exact HB.out)))); (case aL => have := LMc41.out; have hlx_ := (show ((l0.take ((wrap64 ((ji37) + (wrap64 (t358)))) : Int).toNat).drop ((ji37) : Int).toNat).length = ((wrap64 ((ji37) + (wrap64 (t358)))).toNat - (ji37).toNat) from (by rw [List.length_drop, List.length_take]; have h_ : ((wrap64 ((ji37) + (wrap64 (t358)))) : Int) ≤ (l0.length : Int) := of_decide_eq_true pS; omega)); omega); intro v367 w65 ho hb hg hat; rw [← Ny366.out] at ho; have n0_ := Aside0.mk (blk_grown (g := gb356) (o := .cells #[.int .i64 0, .slice none 0 0] 83 (0, 0)) (pK BK356.out) hg (Kd.R_ne HO364.out BK356.out (by decide))); have n1_ := Aside0.mk (blk_grown (g := gb361) (o := .cells #[.int .i64 (wrap64 (rd l0 t359)), .slice none 0 0] 83 (0, 0)) (pK BK361.out) hg (Kd.R_ne HO364.out BK361.out (by decide))); have n2_ := Aside0.mk (hb); have n3_ := Aside0.mk (ho); clear BK356 BK361 HB HO364; have BK356 := n0_; have BK361 := n1_; have HB := n2_; have HO368 := n3_; clear n0_ n1_ n2_ n3_ ho hb hg hat; obtain ⟨Ao66, co66, eo66⟩ := Kd.R_slice HO368.out; subst eo66; have hnb67 := NB361_356.out; have hnc67 := NB356_361.out; have hcz68_0 : w65.cell? ⟨gb361, 0, none⟩ = some (.int .i64 (wrap64 (rd l0 t359))) := (blk_cell BK361.out 0).trans rfl; have hcz68_1 : w65.cell? ⟨gb361, 1, none⟩ = some (.slice none 0 0) := (blk_cell BK361.out 1).trans rfl; have hfz68_0 := blk_frozen BK361.out 0; have hfz68_1 := blk_frozen BK361.out 1))
                       have n0_ : Aside0 (Kd.R (Kd.int .u8) 5 (w65.setCell ⟨gb361, 1, none⟩ (.slice Ao66 y366.length co66)) w.heap.size (fun _ => True) (.slice Ao66 y366.length co66) y366) := ⟨by (with_reducible repeat (first | apply Kd.R_alloc | apply Kd.R_drewN | apply Kd.R_drew)); exact Kd.R_mono (Kd.R_far (p := ⟨gb361, 1, none⟩) (Kd.R_types HO368.out BK361.out (by decide)) (fun _ hk => hk.2) (.slice Ao66 y366.length co66)) (fun _ hk => trivial)⟩
                       have n1_ : Aside0 ((w65.setCell ⟨gb361, 1, none⟩ (.slice Ao66 y366.length co66)).heap[gb356]? = some (.cells #[.int .i64 0, .slice none 0 0] 83 (0, 0))) := ⟨by (with_reducible repeat (first | refine blk_drewN ?_ _ | refine blk_drew ?_ | refine blk_alloc ?_ _)); refine blk_far ?_ NB356_361.out _; (with_reducible repeat (first | refine blk_drewN ?_ _ | refine blk_drew ?_ | refine blk_alloc ?_ _)); exact BK356.out⟩
                       have n2_ : Aside0 ((w65.setCell ⟨gb361, 1, none⟩ (.slice Ao66 y366.length co66)).heap[gb361]? = some (.cells #[.int .i64 (wrap64 (rd l0 t359)), .slice Ao66 y366.length co66] 83 (0, 0))) := ⟨by (with_reducible repeat (first | refine blk_drewN ?_ _ | refine blk_drew ?_ | refine blk_alloc ?_ _)); refine blk_put (cs := #[.int .i64 (wrap64 (rd l0 t359)), .slice none 0 0]) ?_ 1 _ rfl; (with_reducible repeat (first | refine blk_drewN ?_ _ | refine blk_drew ?_ | refine blk_alloc ?_ _)); exact BK361.out⟩
                       have n3_ : Aside0 (Below w.heap.size w (w65.setCell ⟨gb361, 1, none⟩ (.slice Ao66 y366.length co66))) := ⟨by repeat (first | (with_reducible first | exact HB.out | apply below_alloc | apply pw_below_drewN | apply below_drew1 | refine below_set ?_ GE356.out | refine below_set ?_ GE361.out) | exact HB.out)⟩
                       (try clear HO368)
                       (try clear BK356)
                       (try clear BK361)
                       (try clear HB)
                       generalize (w65.setCell ⟨gb361, 1, none⟩ (.slice Ao66 y366.length co66)) = w69 at n0_ n1_ n2_ n3_ ⊢
                       have HO368 := n0_
                       have BK356 := n1_
                       have BK361 := n2_
                       have HB := n3_
                       clear n0_ n1_ n2_ n3_
                       have n0_ := Aside0.mk (Kd.R_drew HO368.out)
                       have n1_ := Aside0.mk (blk_drew BK356.out)
                       have n2_ := Aside0.mk (blk_drew BK361.out)
                       have n3_ := Aside0.mk (below_drew1 HB.out)
                       clear HO368
                       clear BK356
                       clear BK361
                       clear HB
                       have HO368 := n0_
                       have BK356 := n1_
                       have BK361 := n2_
                       have HB := n3_
                       clear n0_ n1_ n2_ n3_
                       obtain ⟨i071, hi071, _, hsz71, _⟩ := info_parts info5
                       obtain ⟨hcut71, hA71, hC71⟩ := print_take_of (P := Try.prog) (Value.int .u8) 0 22 5 .i64 Try.underlying22 hi071 hsz71 (some ad360) c0 l0 (ji43) (of_decide_eq_true pS) (of_decide_eq_true pS) HC0.out
                       have HR372 := Aside0.mk (Kd.C_of_reads (h1 := fun _ => rfl) (hA71 _ (Kd.reads_of_C HR0.out)))
                       have HC372 := Aside0.mk hC71
                       clear hA71 hC71 hi071 hsz71
                       refine start_ (n := 8) (S := fun w' => w'.cell? ⟨gb361, 0, none⟩ = some (.int .i64 (wrap64 (rd l0 t359))) ∧ w'.cell? ⟨gb361, 1, none⟩ = some (.slice Ao66 y366.length co66)) (ds := []) #[false, false, false, false, false, false, false, false] (by kernel_rfl) rfl rfl ⟨(blk_cell BK361.out 0).trans rfl, (blk_cell BK361.out 1).trans rfl⟩ (fun hHeld => ?_); refine with_tabW garnerref03_First.tab18 garnerref03_First.bits18 (fun HT_ HW_ => ?_)
                       generalize w69.drew = w70 at HO368 BK356 BK361 HB HR372 hHeld ⊢
                       refine pure_ (i := 2) (N := some 89) (v := ?_) (a' := ?_) #[false, false, true, false, false, false, false, false] rfl rfl (any_of HT_.out (by kernel_rfl)) (fun _ _ _ h => h) (Or.inl ⟨by rfl, ?_⟩) ?_ ?_
                       rotate_left
                       ·intro w'
                        go_simp
                        with_reducible rfl
                       rotate_left
                       ·simp only [Act.put, List.setIfInBounds_toArray, List.set_cons_zero, List.set_cons_succ, i64_w, i32_w]
                        rfl
                       refine pure_ (i := 3) (N := some 90) (v := ?_) (a' := ?_) #[false, false, true, true, false, false, false, false] rfl rfl (any_of HT_.out (by kernel_rfl)) (fun _ _ _ h => h) (Or.inl ⟨by rfl, ?_⟩) ?_ ?_
                       rotate_left
                       ·intro w'
                        go_simp
                        with_reducible rfl
                       rotate_left
                       ·simp only [Act.put, List.setIfInBounds_toArray, List.set_cons_zero, List.set_cons_succ, i64_w, i32_w]
                        rfl
                       refine pure_ (i := 4) (N := some 91) (v := ?_) (a' := ?_) #[false, false, true, true, true, false, false, false] rfl rfl (any_of HT_.out (by kernel_rfl)) (fun _ _ _ h => h) (Or.inl ⟨by rfl, ?_⟩) ?_ ?_
                       rotate_left
                       ·intro w'
                        go_simp
                        with_reducible rfl
                       rotate_left
                       ·simp only [Act.put, List.setIfInBounds_toArray, List.set_cons_zero, List.set_cons_succ, i64_w, i32_w]
                        rfl
                       refine pure_ (i := 5) (N := some 92) (v := ?_) (a' := ?_) #[false, false, true, true, true, true, false, false] rfl rfl (any_of HT_.out (by kernel_rfl)) (fun _ _ _ h => h) (Or.inl ⟨by rfl, ?_⟩) ?_ ?_
                       rotate_left
                       ·intro w'
                        go_simp
                        with_reducible rfl
                       rotate_left
                       ·simp only [Act.put, List.setIfInBounds_toArray, List.set_cons_zero, List.set_cons_succ, i64_w, i32_w]
                        rfl
                       refine take_ (i := 0) (N := some 87) (v := ?_) (a' := ?_) #[true, false, true, true, true, true, false, false] rfl rfl (take_ofW HT_.out HW_.out (by kernel_rfl)) (fun _ _ _ h => h) (Or.inl ⟨by rfl, ?_⟩) hHeld ?_ ?_
                       rotate_left
                       ·rintro w' ⟨s0, s1⟩
                        go_simp
                        with_reducible rfl
                       rotate_left
                       ·simp only [Act.put, List.setIfInBounds_toArray, List.set_cons_zero, List.set_cons_succ, i64_w, i32_w]
                        rfl
                       refine one_ (i := 1) (N := some 88) #[true, true, true, true, true, true, false, false] rfl rfl (one_of HT_.out (by kernel_rfl)) (by decide) (fun K hK => ?_)
                       refine goes_ Try.func84 (by kernel_rfl) rfl #[.agg #[.int .i64 (wrap64 (rd l0 t359)), .slice Ao66 y366.length co66]] (by rfl) rfl rfl pL ?_
                       with_reducible refine (garnerref03_Put.calls kj21 (wrap64 (rd l0 t359)) _ _ y366 t369 _ ?side1 ?side2 A42.out).mono ?_
                       (case side1 => exact pC (Kd.R_reads' HO368.out).2.2)
                       (case side2 => exact (Kd.R_reads' HO368.out).2.1)
                       rintro e w72 ⟨v370, rfl, ho0, hb⟩
                       refine ⟨_, rfl, ?_⟩
                       have n0_ := Aside0.mk (Kd.R_elder' (pR HO368.out) (Kd.R_base ho0) hb)
                       have n1_ := Aside0.mk (Kd.R_lower (Kd.R_new' ho0 (Kd.R_lt (pR HO368.out))) (below_size (by repeat (first | (with_reducible first | exact HB.out | apply below_alloc | apply pw_below_drewN | apply below_drew1 | refine below_set ?_ GE356.out | refine below_set ?_ GE361.out) | exact HB.out))))
                       have n2_ := Aside0.mk (blk_below (g := gb356) (o := .cells #[.int .i64 0, .slice none 0 0] 83 (0, 0)) (pK BK356.out) hb)
                       have n3_ := Aside0.mk (blk_below (g := gb361) (o := .cells #[.int .i64 (wrap64 (rd l0 t359)), .slice Ao66 y366.length co66] 83 (0, 0)) (pK BK361.out) hb)
                       have n4_ := Aside0.mk (below_step (by repeat (first | (with_reducible first | exact HB.out | apply below_alloc | apply pw_below_drewN | apply below_drew1 | refine below_set ?_ GE356.out | refine below_set ?_ GE361.out) | exact HB.out)) hb)
                       clear HO368
                       clear BK356
                       clear BK361
                       clear HB
                       have HO368 := n0_
                       have HO371 := n1_
                       have BK356 := n2_
                       have BK361 := n3_
                       have HB := n4_
                       clear n0_ n1_ n2_ n3_ n4_
                       (try clear hb)
                       (try clear hb2)
                       (try clear hk)
                       (try clear hi)
                       (try clear ho0)
                       obtain ⟨Ao73, co73, eo73⟩ := Kd.R_slice HO371.out
                       (first | subst eo73 | (injection eo73 with f1_ f2_ f3_; have f4_ := f1_.symm; have f5_ := f3_.symm; clear f1_ f2_ f3_; subst f4_; subst f5_))
                       refine hK.out _ _ ⟨(blk_cell BK361.out 0).trans rfl, (blk_cell BK361.out 1).trans rfl⟩ (fun hHeld => ?_)
                       clear hK K
                       refine norm_ (a' := ?_) ?_ ?_
                       rotate_left
                       ·show Act.put _ (some 88) _ = _
                        simp only [Act.put, List.setIfInBounds_toArray, List.set_cons_zero, List.set_cons_succ, i64_w, i32_w]
                        rfl
                       refine one_ (i := 6) (N := some 93) #[true, true, true, true, true, true, true, false] rfl rfl (one_of HT_.out (by kernel_rfl)) (by decide) (fun K hK => ?_)
                       refine goes_ Try.func22 (by kernel_rfl) rfl #[.slice Ao73 t369.length co73, .slice (some ad360) (l0.take ((ji43) : Int).toNat).length c0] (by rfl) rfl rfl (by (try simp only [List.map_toArray, List.map_cons, List.map_nil]); first | done | (rw [show (l0.take ((ji43) : Int).toNat).length = (ji43).toNat from (by rw [List.length_take]; have h_ : ((ji43) : Int) ≤ (l0.length : Int) := of_decide_eq_true pS; omega)] <;> rfl) | (simp only [hji43]; rfl) | rfl | (simp only [List.length_drop, List.length_take]; rfl)) ?_
                       with_reducible refine (garnerref02_Bytes.calls kj21 _ _ t369 _ _ (l0.take ((ji43) : Int).toNat) false _ ?side1 ?side2 ?side3 ?side4 A46.out).mono ?_
                       (case side1 => exact pC (Kd.R_reads' HO371.out).2.2)
                       (case side2 => exact (Kd.R_reads' HO371.out).2.1)
                       (case side3 => exact pC (Kd.C_below HR372.out HB.out))
                       (case side4 => exact HC372.out)
                       rintro e w' ⟨rfl, ⟨nd, rfl⟩⟩
                       refine ⟨_, rfl, ?_⟩
                       refine hK.out _ _ ⟨(blk_cell BK361.out 0).trans rfl, (blk_cell BK361.out 1).trans rfl⟩ (fun hHeld => ?_)
                       clear hK K
                       refine norm_ (a' := ?_) ?_ ?_
                       rotate_left
                       ·show Act.put _ (some 93) _ = _
                        simp only [Act.put, List.setIfInBounds_toArray, List.set_cons_zero, List.set_cons_succ, i64_w, i32_w]
                        rfl
                       refine pure_ (i := 7) (N := some 94) (v := ?_) (a' := ?_) #[true, true, true, true, true, true, true, true] rfl rfl (any_of HT_.out (by kernel_rfl)) (fun _ _ _ h => h) (Or.inl ⟨by rfl, ?_⟩) ?_ ?_
                       rotate_left
                       ·intro w'
                        go_simp
                        with_reducible rfl
                       rotate_left
                       ·simp only [Act.put, List.setIfInBounds_toArray, List.set_cons_zero, List.set_cons_succ, i64_w, i32_w]
                        rfl
                       refine done_ (done_of HT_.out (by kernel_rfl)) ?_
                       have hcz74_0 : w72.cell? ⟨gb356, 0, none⟩ = some (.int .i64 0) := (blk_cell BK356.out 0).trans rfl
                       have hcz74_1 : w72.cell? ⟨gb356, 1, none⟩ = some (.slice none 0 0) := (blk_cell BK356.out 1).trans rfl
                       have hfz74_0 := blk_frozen BK356.out 0
                       have hfz74_1 := blk_frozen BK356.out 1
                       try go_wp2
                       refine bodyPost_ret (results_ctt rfl _ _ gb356 83 #[.int .i64 0, .slice none 0 0] (0, 0) _ rfl (by (with_reducible repeat (first | refine blk_drewN ?_ _ | refine blk_drew ?_ | refine blk_alloc ?_ _)); refine blk_put (cs := #[.int .i64 0, .slice none 0 0]) ?_ 1 _ rfl; (with_reducible repeat (first | refine blk_drewN ?_ _ | refine blk_drew ?_ | refine blk_alloc ?_ _)); refine blk_put (cs := #[.int .i64 0, .slice none 0 0]) ?_ 0 _ rfl; (with_reducible repeat (first | refine blk_drewN ?_ _ | refine blk_drew ?_ | refine blk_alloc ?_ _)); exact BK356.out) Try.underlying83 rfl (by kernel_rfl)) rfl ?_
                       exact ⟨_, by first | rfl | (simp [errW_none, errW_some] <;> rfl) | (simp only [← hji37, ← hji43]; first | rfl | (simp [errW_none, errW_some] <;> rfl)) | (simp [*, errW_none, errW_some] <;> rfl), by first | exact Kd.R_nil _ _ _ _ _ | exact Kd.N_nil _ _ _ _ _ | exact Kd.V_nil _ _ _ _ _ | exact Kd.Q_nil _ _ _ _ _ | exact Kd.S_nil _ _ _ _ _, by repeat (first | (with_reducible first | exact HB.out | apply below_alloc | apply pw_below_drewN | apply below_drew1 | refine below_set ?_ GE356.out | refine below_set ?_ GE361.out) | exact HB.out)⟩
                     ·rw [if_neg c45] at H
                      exact absurd H (by simp)
                    ·rw [if_neg c44] at H
                     exact absurd H (by simp)
                   ·rw [if_neg c41] at H
                    exact absurd H (by simp)
                  ·rw [if_neg c40] at H
                   exact absurd H (by simp)
                 ·rw [if_neg c39] at H
                  exact absurd H (by simp)
                ·rw [if_neg c38] at H
                 exact absurd H (by simp)
           ·rw [if_neg c21] at H
            exact absurd H (by simp)
          ·rw [if_neg c20] at H
           exact absurd H (by simp)
end Go.Proofs.Ytapamplgajkjlaa.PExportPuts
