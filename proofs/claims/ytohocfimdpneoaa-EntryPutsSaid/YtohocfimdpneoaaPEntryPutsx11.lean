/- Written by a program of this work (wip/tools/patch_print.py: the kit's print with changes of ours): the functions that the law reaches as plain Lean functions, and that the machine's calls answer just that. -/
import Derived.Test.YtohocfimdpneoaaPEntryPutsx0
import Derived.Test.YtohocfimdpneoaaPEntryPutsx2
import Derived.Test.YtohocfimdpneoaaPEntryPutsx3
import Derived.Test.YtohocfimdpneoaaPEntryPutsx4
import Derived.Test.YtohocfimdpneoaaPEntryPutsx5
import Derived.Test.YtohocfimdpneoaaPEntryPutsx6
import Derived.Test.YtohocfimdpneoaaPEntryPutsx7
import Derived.Test.YtohocfimdpneoaaPEntryPutsx10
namespace Go.Proofs.Ytohocfimdpneoaa.PEntryPuts
open Go.RowKit Go.Proofs.YtohocfimdpneoaaW.PrintWords Go.Proofs.YtohocfimdpneoaaW.PrintLast Go.Proofs.YtohocfimdpneoaaW.PrintMore
attribute [local go_sem] max2_int min2_int max_two min_two max_three min_three max_four min_four   -- for this text's walks alone
set_option linter.unusedVariables false
set_option linter.unusedSimpArgs false

attribute [local go_sem] wrap64_l1 wrap64_l2 wrap64_l3 wrap64_l4 wrap64_l5
/-! ### garnerlaw06_EntryPuts: function 11 -/
def garnerlaw06_EntryPuts.l0 : Nat → List (S78) → Int → Option (Bool)
 | 0, _, _ => none
 | k + 1, x0, x3 => if x3 < (x0.length : Int) then (if 0 ≤ x3 then ((entry_Check.f k ((rd_T78 x0 x3).f0) ((rd_T78 x0 x3).f1) ((rd_T78 x0 x3).f2) ((rd_T78 x0 x3).f3) ((rd_T78 x0 x3).f4.f0) ((rd_T78 x0 x3).f4.f1) ((rd_T78 x0 x3).f4.f2.f0) ((rd_T78 x0 x3).f4.f2.f1) ((rd_T78 x0 x3).f4.f2.f2) ((rd_T78 x0 x3).f4.f2.f3)).bind fun t341 => ((garnerref06_May.f k ((rd_T78 x0 x3).f0) ((rd_T78 x0 x3).f1) ((rd_T78 x0 x3).f2) ((rd_T78 x0 x3).f3) ((rd_T78 x0 x3).f4.f0) ((rd_T78 x0 x3).f4.f1) ((rd_T78 x0 x3).f4.f2.f0) ((rd_T78 x0 x3).f4.f2.f1) ((rd_T78 x0 x3).f4.f2.f2) ((rd_T78 x0 x3).f4.f2.f3)).bind fun t343 => (if ((t341 == 0) != t343) = true then (some false) else (garnerlaw06_EntryPuts.l0 k x0 (wrap64 (x3 + 1)))))) else (none)) else ((entry_Put.f k x0).bind fun bt344 => ((garnerref06_Batch.f k x0).bind fun t348 => (if t348 = true then ((entry_Batch.f k x0).bind fun t351 => (if t351 = 0 then (if bt344.2 = 0 then ((garnerref06_Put.f k x0).bind fun t352 => ((garnerref02_Bytes.f k bt344.1 t352).bind fun t355 => (if t355 = true then ((garnerlaw06_awake.f k).bind fun t356 => (some t356)) else (some false)))) else (some false)) else (some false))) else ((entry_Batch.f k x0).bind fun t349 => (if t349 = 1 then (if bt344.2 = 1 then (if (bt344.1.length : Int) = 0 then ((garnerlaw06_awake.f k).bind fun t350 => (some t350)) else (some false)) else (some false)) else (some false))))))
def garnerlaw06_EntryPuts.f (k : Nat) (l0 : List (S78)) : Option (Bool) := (garnerlaw06_Light.f k l0).bind fun t338 => (if t338 = true then (garnerlaw06_EntryPuts.l0 k l0 0) else ((garnerlaw06_awake.f k).bind fun t339 => (some t339)))
theorem garnerlaw06_EntryPuts.mono_l : ∀ k, (∀ y0 y1, LeO (garnerlaw06_EntryPuts.l0 k y0 y1) (garnerlaw06_EntryPuts.l0 (k + 1) y0 y1))
 | 0 => fun _ _ r h => by simp [garnerlaw06_EntryPuts.l0] at h
 | k + 1 => by
  have ih0 := garnerlaw06_EntryPuts.mono_l k
  ·intro y0 y1
   unfold garnerlaw06_EntryPuts.l0
   repeat' first
   | (with_reducible exact ih0 _ _)
   | (with_reducible exact entry_Batch.mono _ _)
   | (with_reducible exact entry_Check.mono _ _ _ _ _ _ _ _ _ _ _)
   | (with_reducible exact entry_Put.mono _ _)
   | (with_reducible exact garnerlaw06_Light.mono _ _)
   | (with_reducible exact garnerlaw06_awake.mono _)
   | (with_reducible exact garnerref02_Bytes.mono _ _ _)
   | (with_reducible exact garnerref06_Batch.mono _ _)
   | (with_reducible exact garnerref06_May.mono _ _ _ _ _ _ _ _ _ _ _)
   | (with_reducible exact garnerref06_Put.mono _ _)
   | (with_reducible exact LeO.refl _)
   | (with_reducible exact LeO.none _)
   | (with_reducible refine LeO.ite ?_ ?_)
   | (with_reducible refine LeO.bind ?_ (fun _ => ?_))
   | exact ih0 _ _
   | exact entry_Batch.mono _ _
   | exact entry_Check.mono _ _ _ _ _ _ _ _ _ _ _
   | exact entry_Put.mono _ _
   | exact garnerlaw06_Light.mono _ _
   | exact garnerlaw06_awake.mono _
   | exact garnerref02_Bytes.mono _ _ _
   | exact garnerref06_Batch.mono _ _
   | exact garnerref06_May.mono _ _ _ _ _ _ _ _ _ _ _
   | exact garnerref06_Put.mono _ _
   | exact LeO.none _
   | refine LeO.ite ?_ ?_
   | refine LeO.bind ?_ (fun _ => ?_)
theorem garnerlaw06_EntryPuts.mono : ∀ a0 k, LeO (garnerlaw06_EntryPuts.f k a0) (garnerlaw06_EntryPuts.f (k + 1) a0) := by
 intro a0 k
 have ih0 := garnerlaw06_EntryPuts.mono_l k
 unfold garnerlaw06_EntryPuts.f
 repeat' first
   | (with_reducible exact ih0 _ _)
   | (with_reducible exact entry_Batch.mono _ _)
   | (with_reducible exact entry_Check.mono _ _ _ _ _ _ _ _ _ _ _)
   | (with_reducible exact entry_Put.mono _ _)
   | (with_reducible exact garnerlaw06_Light.mono _ _)
   | (with_reducible exact garnerlaw06_awake.mono _)
   | (with_reducible exact garnerref02_Bytes.mono _ _ _)
   | (with_reducible exact garnerref06_Batch.mono _ _)
   | (with_reducible exact garnerref06_May.mono _ _ _ _ _ _ _ _ _ _ _)
   | (with_reducible exact garnerref06_Put.mono _ _)
   | (with_reducible exact LeO.refl _)
   | (with_reducible exact LeO.none _)
   | (with_reducible refine LeO.ite ?_ ?_)
   | (with_reducible refine LeO.bind ?_ (fun _ => ?_))
   | exact ih0 _ _
   | exact entry_Batch.mono _ _
   | exact entry_Check.mono _ _ _ _ _ _ _ _ _ _ _
   | exact entry_Put.mono _ _
   | exact garnerlaw06_Light.mono _ _
   | exact garnerlaw06_awake.mono _
   | exact garnerref02_Bytes.mono _ _ _
   | exact garnerref06_Batch.mono _ _
   | exact garnerref06_May.mono _ _ _ _ _ _ _ _ _ _ _
   | exact garnerref06_Put.mono _ _
   | exact LeO.none _
   | refine LeO.ite ?_ ?_
   | refine LeO.bind ?_ (fun _ => ?_)
def garnerlaw06_EntryPuts.T6 : Bool × List (List Nat × List Nat) := (true, [([], []), ([], []), ([0, 1], [0, 1]), ([2], [2]), ([3], [3]), ([4], [4]), ([], []), ([], []), ([6, 7], [6, 7]), ([8], [8]), ([9, 4], [9]), ([5, 10], [5, 10])])
def garnerlaw06_EntryPuts.B6 : List Nat := [0, 0, 3, 7, 15, 31, 0, 0, 192, 448, 991, 2047]
theorem garnerlaw06_EntryPuts.tab6 : rtab .any (opsOf Try.f11 6) = garnerlaw06_EntryPuts.T6 := by kernel_rfl
theorem garnerlaw06_EntryPuts.bits6 : waitsOk garnerlaw06_EntryPuts.T6.2 garnerlaw06_EntryPuts.B6 = true := by kernel_rfl
set_option maxHeartbeats 8000000 in
set_option maxRecDepth 100000 in
theorem garnerlaw06_EntryPuts.calls (k : Nat) (A0 : Option Addr) (c0 : Nat) (l0 : List (S78)) (r : Bool) (w : World) (hr0 : Kd.C k78 w A0 l0.length l0) (hc0 : l0.length ≤ c0) (h : garnerlaw06_EntryPuts.f k l0 = some r) :
  Calls Try.prog 11 #[.slice A0 l0.length c0] w fun e w' => e = .returned (.bool r) ∧ Below w.heap.size w w' := by
 have hu78 := Try.underlying78
 have HR0 := Aside0.mk hr0
 have HC0 := Aside0.mk hc0
 clear hr0 hc0
 have HB := Aside0.mk (Below.refl w.heap.size w)
 have H : ((garnerlaw06_Light.f k l0).bind fun t338 => (if t338 = true then (garnerlaw06_EntryPuts.l0 k l0 0) else ((garnerlaw06_awake.f k).bind fun t339 => (some t339)))) = some r := h
 clear h
 replace H := Option.bind_eq_some_iff.mp H
 obtain ⟨t338, A20, H⟩ := H
 replace H : (if t338 = true then (garnerlaw06_EntryPuts.l0 k l0 0) else ((garnerlaw06_awake.f k).bind fun t339 => (some t339))) = some r := H
 have A2 := Aside0.mk A20
 clear A20
 by_cases c3 : t338 = true
 ·subst c3
  have H1 : (garnerlaw06_EntryPuts.l0 k l0 0) = some r := by rw [if_pos rfl] at H; exact H
  clear H
  have H := H1
  clear H1
  have H' := Aside0.mk H
  clear H
  go_enter Try.func11, Try.ntmps11
  go_wp2_with (first | ((with_reducible refine gate_callee (f := 48) rfl ?_); refine goesL_ (some 7) rfl rfl Try.func48 (by kernel_rfl) rfl #[.slice A0 l0.length c0] rfl pL ?_; (with_reducible refine (garnerlaw06_Light.calls k _ _ l0 true _ ?side1 ?side2 A2.out).mono ?_); (case side1 => repeat (first | exact HR0.out | (with_reducible refine Kd.C_alloc ?_ _) | (with_reducible refine Kd.C_drewN ?_ _) | (with_reducible refine Kd.C_drew ?_))); (case side2 => exact HC0.out); rintro e w' ⟨rfl, ⟨nd, rfl⟩⟩; refine ⟨_, rfl, ?_⟩))
  go_loopg [3] k (fun kq v3 w' => ∃ (x3_1 : Int), v3 = .int .i64 x3_1 ∧ Aside0 (garnerlaw06_EntryPuts.l0 kq l0 x3_1 = some r) ∧ Aside0 (kq ≤ k) ∧ Aside0 (Below w.heap.size w w'))
  case atStart => exact ⟨(0), (by first | rfl | (simp; done) | (simp [*]; done)), H', ⟨Nat.le_refl _⟩, ⟨by repeat (first | (with_reducible first | exact HB.out | apply below_alloc | apply pw_below_drewN | apply below_drew1) | exact HB.out)⟩⟩
  case round =>
   clear H'
   try clear c1
   try clear p2
   try clear c3
   obtain ⟨x3_1, rfl, HA, HK1, HB⟩ := hrel
   cases gk with
   | zero => exact absurd HA.out (by simp [garnerlaw06_EntryPuts.l0])
   | succ k1 =>
    have H := HA.out
    clear HA
    simp only [garnerlaw06_EntryPuts.l0] at H
    by_cases c4 : x3_1 < (l0.length : Int)
    ·rw [if_pos c4] at H
     have c4b0 : decide (x3_1 < (l0.length : Int)) = true := decide_eq_true c4
     clear c4
     by_cases c5 : 0 ≤ x3_1
     ·rw [if_pos c5] at H
      have c5b0 : decide (0 ≤ x3_1) = true := decide_eq_true c5
      clear c5
      replace H := Option.bind_eq_some_iff.mp H
      obtain ⟨t341, A60, H⟩ := H
      replace H : ((garnerref06_May.f k1 ((rd_T78 l0 x3_1).f0) ((rd_T78 l0 x3_1).f1) ((rd_T78 l0 x3_1).f2) ((rd_T78 l0 x3_1).f3) ((rd_T78 l0 x3_1).f4.f0) ((rd_T78 l0 x3_1).f4.f1) ((rd_T78 l0 x3_1).f4.f2.f0) ((rd_T78 l0 x3_1).f4.f2.f1) ((rd_T78 l0 x3_1).f4.f2.f2) ((rd_T78 l0 x3_1).f4.f2.f3)).bind fun t343 => (if ((t341 == 0) != t343) = true then (some false) else (garnerlaw06_EntryPuts.l0 k1 l0 (wrap64 (x3_1 + 1))))) = some r := H
      have A6 := Aside0.mk A60
      clear A60
      replace H := Option.bind_eq_some_iff.mp H
      obtain ⟨t343, A70, H⟩ := H
      replace H : (if ((t341 == 0) != t343) = true then (some false) else (garnerlaw06_EntryPuts.l0 k1 l0 (wrap64 (x3_1 + 1)))) = some r := H
      have A7 := Aside0.mk A70
      clear A70
      by_cases c8 : ((t341 == 0) != t343) = true
      ·rw [if_pos c8] at H
       have c8b0 : ((t341 == 0) != t343) = true := c8
       (try (have c8b1 : decide ((t341 == 0) = t343) = false := by simpa using c8))
       (try (have c8b2 : ((t341 == 0) == t343) = false := by simpa using c8))
       (try (have c8b3 : ¬ ((t341 == 0) = t343) := by simpa using c8))
       clear c8
       obtain rfl := Option.some.inj H
       try go_wp2
       have n0_ := Aside0.mk (below_drew1 HB.out)
       clear HB
       have HB := n0_
       clear n0_
       have p340 : 0 ≤ (x3_1 : Int) := of_decide_eq_true pS
       have q340 : x3_1 < (l0.length : Int) := of_decide_eq_true pS
       obtain ⟨ad340, A340_5, c340_5, e340, hx340_0, hx340_1, hx340_2, hx340_3, hx340_4, hx340_5, hx340_6, hx340_7, hx340_8, hx340_9, hl340_5, hi340_5⟩ := at_T78 HR0.out x3_1 p340 q340
       have hw340_9 := hx340_9
       have hw340_8 := hx340_8
       have hw340_7 := hx340_7
       have hw340_6 := hx340_6
       have hw340_5 := hx340_5
       have hw340_4 := hx340_4
       have hw340_3 := hx340_3
       have hw340_2 := hx340_2
       have hw340_1 := hx340_1
       have hw340_0 := hx340_0
       cases e340
       replace hx340_0 := (HB.out.cell (World.block_lt_of_cell? w _ hx340_0)).trans hx340_0
       replace hx340_1 := (HB.out.cell (World.block_lt_of_cell? w _ hx340_1)).trans hx340_1
       replace hx340_2 := (HB.out.cell (World.block_lt_of_cell? w _ hx340_2)).trans hx340_2
       replace hx340_3 := (HB.out.cell (World.block_lt_of_cell? w _ hx340_3)).trans hx340_3
       replace hx340_4 := (HB.out.cell (World.block_lt_of_cell? w _ hx340_4)).trans hx340_4
       replace hx340_5 := (HB.out.cell (World.block_lt_of_cell? w _ hx340_5)).trans hx340_5
       replace hx340_6 := (HB.out.cell (World.block_lt_of_cell? w _ hx340_6)).trans hx340_6
       replace hx340_7 := (HB.out.cell (World.block_lt_of_cell? w _ hx340_7)).trans hx340_7
       replace hx340_8 := (HB.out.cell (World.block_lt_of_cell? w _ hx340_8)).trans hx340_8
       replace hx340_9 := (HB.out.cell (World.block_lt_of_cell? w _ hx340_9)).trans hx340_9
       have HR340_5 := Aside0.mk hi340_5
       have HC340_5 := Aside0.mk hl340_5
       clear hi340_5 hl340_5
       replace p340 := eq_true p340
       replace q340 := eq_true q340
       have p342 : 0 ≤ (x3_1 : Int) := of_decide_eq_true pS
       have q342 : x3_1 < (l0.length : Int) := of_decide_eq_true pS
       obtain ⟨ad342, A342_5, c342_5, e342, hx342_0, hx342_1, hx342_2, hx342_3, hx342_4, hx342_5, hx342_6, hx342_7, hx342_8, hx342_9, hl342_5, hi342_5⟩ := at_T78 HR0.out x3_1 p342 q342
       have hw342_9 := hx342_9
       have hw342_8 := hx342_8
       have hw342_7 := hx342_7
       have hw342_6 := hx342_6
       have hw342_5 := hx342_5
       have hw342_4 := hx342_4
       have hw342_3 := hx342_3
       have hw342_2 := hx342_2
       have hw342_1 := hx342_1
       have hw342_0 := hx342_0
       obtain rfl : ad340 = ad342 := (by injection e342)
       replace hx342_0 := (HB.out.cell (World.block_lt_of_cell? w _ hx342_0)).trans hx342_0
       replace hx342_1 := (HB.out.cell (World.block_lt_of_cell? w _ hx342_1)).trans hx342_1
       replace hx342_2 := (HB.out.cell (World.block_lt_of_cell? w _ hx342_2)).trans hx342_2
       replace hx342_3 := (HB.out.cell (World.block_lt_of_cell? w _ hx342_3)).trans hx342_3
       replace hx342_4 := (HB.out.cell (World.block_lt_of_cell? w _ hx342_4)).trans hx342_4
       replace hx342_5 := (HB.out.cell (World.block_lt_of_cell? w _ hx342_5)).trans hx342_5
       replace hx342_6 := (HB.out.cell (World.block_lt_of_cell? w _ hx342_6)).trans hx342_6
       replace hx342_7 := (HB.out.cell (World.block_lt_of_cell? w _ hx342_7)).trans hx342_7
       replace hx342_8 := (HB.out.cell (World.block_lt_of_cell? w _ hx342_8)).trans hx342_8
       replace hx342_9 := (HB.out.cell (World.block_lt_of_cell? w _ hx342_9)).trans hx342_9
       have HR342_5 := Aside0.mk hi342_5
       have HC342_5 := Aside0.mk hl342_5
       clear hi342_5 hl342_5
       replace p342 := eq_true p342
       replace q342 := eq_true q342
       have ea_ := Option.some.inj (hx340_5.symm.trans hx342_5)
       injection ea_ with ea_ en_ ec_
       subst ea_
       subst ec_
       clear en_
       refine start_ (n := 12) (S := fun w' => w'.cell? (ad340.add ((x3_1).toNat * 10)) = some (.int .i64 ((rd_T78 l0 x3_1).f0)) ∧ w'.cell? ⟨(ad340.add ((x3_1).toNat * 10)).block, (ad340.add ((x3_1).toNat * 10)).off + 1, none⟩ = some (.int .i64 ((rd_T78 l0 x3_1).f1)) ∧ w'.cell? ⟨(ad340.add ((x3_1).toNat * 10)).block, (ad340.add ((x3_1).toNat * 10)).off + 2, none⟩ = some (.int .i64 ((rd_T78 l0 x3_1).f2)) ∧ w'.cell? ⟨(ad340.add ((x3_1).toNat * 10)).block, (ad340.add ((x3_1).toNat * 10)).off + 3, none⟩ = some (.string ((rd_T78 l0 x3_1).f3)) ∧ w'.cell? ⟨(ad340.add ((x3_1).toNat * 10)).block, (ad340.add ((x3_1).toNat * 10)).off + 4, none⟩ = some (.bool ((rd_T78 l0 x3_1).f4.f0)) ∧ w'.cell? ⟨(ad340.add ((x3_1).toNat * 10)).block, (ad340.add ((x3_1).toNat * 10)).off + 5, none⟩ = some (.slice A340_5 ((rd_T78 l0 x3_1).f4.f1).length c340_5) ∧ w'.cell? ⟨(ad340.add ((x3_1).toNat * 10)).block, (ad340.add ((x3_1).toNat * 10)).off + 6, none⟩ = some (.int .i64 ((rd_T78 l0 x3_1).f4.f2.f0)) ∧ w'.cell? ⟨(ad340.add ((x3_1).toNat * 10)).block, (ad340.add ((x3_1).toNat * 10)).off + 7, none⟩ = some (.int .i64 ((rd_T78 l0 x3_1).f4.f2.f1)) ∧ w'.cell? ⟨(ad340.add ((x3_1).toNat * 10)).block, (ad340.add ((x3_1).toNat * 10)).off + 8, none⟩ = some (.int .i64 ((rd_T78 l0 x3_1).f4.f2.f2)) ∧ w'.cell? ⟨(ad340.add ((x3_1).toNat * 10)).block, (ad340.add ((x3_1).toNat * 10)).off + 9, none⟩ = some (.int .u32 ((rd_T78 l0 x3_1).f4.f2.f3)) ∧ w'.cell? (ad340.add ((x3_1).toNat * 10)) = some (.int .i64 ((rd_T78 l0 x3_1).f0)) ∧ w'.cell? ⟨(ad340.add ((x3_1).toNat * 10)).block, (ad340.add ((x3_1).toNat * 10)).off + 1, none⟩ = some (.int .i64 ((rd_T78 l0 x3_1).f1)) ∧ w'.cell? ⟨(ad340.add ((x3_1).toNat * 10)).block, (ad340.add ((x3_1).toNat * 10)).off + 2, none⟩ = some (.int .i64 ((rd_T78 l0 x3_1).f2)) ∧ w'.cell? ⟨(ad340.add ((x3_1).toNat * 10)).block, (ad340.add ((x3_1).toNat * 10)).off + 3, none⟩ = some (.string ((rd_T78 l0 x3_1).f3)) ∧ w'.cell? ⟨(ad340.add ((x3_1).toNat * 10)).block, (ad340.add ((x3_1).toNat * 10)).off + 4, none⟩ = some (.bool ((rd_T78 l0 x3_1).f4.f0)) ∧ w'.cell? ⟨(ad340.add ((x3_1).toNat * 10)).block, (ad340.add ((x3_1).toNat * 10)).off + 5, none⟩ = some (.slice A340_5 ((rd_T78 l0 x3_1).f4.f1).length c340_5) ∧ w'.cell? ⟨(ad340.add ((x3_1).toNat * 10)).block, (ad340.add ((x3_1).toNat * 10)).off + 6, none⟩ = some (.int .i64 ((rd_T78 l0 x3_1).f4.f2.f0)) ∧ w'.cell? ⟨(ad340.add ((x3_1).toNat * 10)).block, (ad340.add ((x3_1).toNat * 10)).off + 7, none⟩ = some (.int .i64 ((rd_T78 l0 x3_1).f4.f2.f1)) ∧ w'.cell? ⟨(ad340.add ((x3_1).toNat * 10)).block, (ad340.add ((x3_1).toNat * 10)).off + 8, none⟩ = some (.int .i64 ((rd_T78 l0 x3_1).f4.f2.f2)) ∧ w'.cell? ⟨(ad340.add ((x3_1).toNat * 10)).block, (ad340.add ((x3_1).toNat * 10)).off + 9, none⟩ = some (.int .u32 ((rd_T78 l0 x3_1).f4.f2.f3))) (ds := []) #[false, false, false, false, false, false, false, false, false, false, false, false] (by kernel_rfl) rfl rfl ⟨((HB.out.cell (World.block_lt_of_cell? w _ hw340_0)).trans hw340_0), ((HB.out.cell (World.block_lt_of_cell? w _ hw340_1)).trans hw340_1), ((HB.out.cell (World.block_lt_of_cell? w _ hw340_2)).trans hw340_2), ((HB.out.cell (World.block_lt_of_cell? w _ hw340_3)).trans hw340_3), ((HB.out.cell (World.block_lt_of_cell? w _ hw340_4)).trans hw340_4), ((HB.out.cell (World.block_lt_of_cell? w _ hw340_5)).trans hw340_5), ((HB.out.cell (World.block_lt_of_cell? w _ hw340_6)).trans hw340_6), ((HB.out.cell (World.block_lt_of_cell? w _ hw340_7)).trans hw340_7), ((HB.out.cell (World.block_lt_of_cell? w _ hw340_8)).trans hw340_8), ((HB.out.cell (World.block_lt_of_cell? w _ hw340_9)).trans hw340_9), ((HB.out.cell (World.block_lt_of_cell? w _ hw342_0)).trans hw342_0), ((HB.out.cell (World.block_lt_of_cell? w _ hw342_1)).trans hw342_1), ((HB.out.cell (World.block_lt_of_cell? w _ hw342_2)).trans hw342_2), ((HB.out.cell (World.block_lt_of_cell? w _ hw342_3)).trans hw342_3), ((HB.out.cell (World.block_lt_of_cell? w _ hw342_4)).trans hw342_4), ((HB.out.cell (World.block_lt_of_cell? w _ hw342_5)).trans hw342_5), ((HB.out.cell (World.block_lt_of_cell? w _ hw342_6)).trans hw342_6), ((HB.out.cell (World.block_lt_of_cell? w _ hw342_7)).trans hw342_7), ((HB.out.cell (World.block_lt_of_cell? w _ hw342_8)).trans hw342_8), ((HB.out.cell (World.block_lt_of_cell? w _ hw342_9)).trans hw342_9)⟩ (fun hHeld => ?_); refine with_tabW garnerlaw06_EntryPuts.tab6 garnerlaw06_EntryPuts.bits6 (fun HT_ HW_ => ?_)
       generalize wr.drew = w9 at HB HR340_5 HR342_5 hx340_0 hx340_1 hx340_2 hx340_3 hx340_4 hx340_5 hx340_6 hx340_7 hx340_8 hx340_9 hx342_0 hx342_1 hx342_2 hx342_3 hx342_4 hx342_5 hx342_6 hx342_7 hx342_8 hx342_9 hHeld ⊢
       refine pure_ (i := 0) (N := some 16) (v := ?_) (a' := ?_) #[true, false, false, false, false, false, false, false, false, false, false, false] rfl rfl (any_of HT_.out (by kernel_rfl)) (fun _ _ _ h => h) (Or.inl ⟨by rfl, ?_⟩) ?_ ?_
       rotate_left
       ·intro w'
        go_simp
        with_reducible rfl
       rotate_left
       ·simp only [Act.put, List.setIfInBounds_toArray, List.set_cons_zero, List.set_cons_succ, i64_w, i32_w]
        rfl
       refine pure_ (i := 1) (N := some 17) (v := ?_) (a' := ?_) #[true, true, false, false, false, false, false, false, false, false, false, false] rfl rfl (any_of HT_.out (by kernel_rfl)) (fun _ _ _ h => h) (Or.inl ⟨by rfl, ?_⟩) ?_ ?_
       rotate_left
       ·intro w'
        go_simp
        with_reducible rfl
       rotate_left
       ·simp only [Act.put, List.setIfInBounds_toArray, List.set_cons_zero, List.set_cons_succ, i64_w, i32_w]
        rfl
       refine pure_ (i := 2) (N := some 18) (v := ?_) (a' := ?_) #[true, true, true, false, false, false, false, false, false, false, false, false] rfl rfl (any_of HT_.out (by kernel_rfl)) (fun _ _ _ h => h) (Or.inl ⟨by rfl, ?_⟩) ?_ ?_
       rotate_left
       ·intro w'
        go_simp
        with_reducible rfl
       rotate_left
       ·simp only [Act.put, List.setIfInBounds_toArray, List.set_cons_zero, List.set_cons_succ, i64_w, i32_w]
        rfl
       refine pure_ (i := 6) (N := some 22) (v := ?_) (a' := ?_) #[true, true, true, false, false, false, true, false, false, false, false, false] rfl rfl (any_of HT_.out (by kernel_rfl)) (fun _ _ _ h => h) (Or.inl ⟨by rfl, ?_⟩) ?_ ?_
       rotate_left
       ·intro w'
        go_simp
        with_reducible rfl
       rotate_left
       ·simp only [Act.put, List.setIfInBounds_toArray, List.set_cons_zero, List.set_cons_succ, i64_w, i32_w]
        rfl
       refine pure_ (i := 7) (N := some 23) (v := ?_) (a' := ?_) #[true, true, true, false, false, false, true, true, false, false, false, false] rfl rfl (any_of HT_.out (by kernel_rfl)) (fun _ _ _ h => h) (Or.inl ⟨by rfl, ?_⟩) ?_ ?_
       rotate_left
       ·intro w'
        go_simp
        with_reducible rfl
       rotate_left
       ·simp only [Act.put, List.setIfInBounds_toArray, List.set_cons_zero, List.set_cons_succ, i64_w, i32_w]
        rfl
       refine pure_ (i := 8) (N := some 24) (v := ?_) (a' := ?_) #[true, true, true, false, false, false, true, true, true, false, false, false] rfl rfl (any_of HT_.out (by kernel_rfl)) (fun _ _ _ h => h) (Or.inl ⟨by rfl, ?_⟩) ?_ ?_
       rotate_left
       ·intro w'
        go_simp
        with_reducible rfl
       rotate_left
       ·simp only [Act.put, List.setIfInBounds_toArray, List.set_cons_zero, List.set_cons_succ, i64_w, i32_w]
        rfl
       refine take_ (i := 3) (N := some 19) (v := ?_) (a' := ?_) #[true, true, true, true, false, false, true, true, true, false, false, false] rfl rfl (take_ofW HT_.out HW_.out (by kernel_rfl)) (fun _ _ _ h => h) (Or.inl ⟨by rfl, ?_⟩) hHeld ?_ ?_
       rotate_left
       ·rintro w' ⟨s0, s1, s2, s3, s4, s5, s6, s7, s8, s9, s10, s11, s12, s13, s14, s15, s16, s17, s18, s19⟩
        go_simp
        with_reducible rfl
       rotate_left
       ·simp only [Act.put, List.setIfInBounds_toArray, List.set_cons_zero, List.set_cons_succ, i64_w, i32_w]
        rfl
       refine take_ (i := 9) (N := some 25) (v := ?_) (a' := ?_) #[true, true, true, true, false, false, true, true, true, true, false, false] rfl rfl (take_ofW HT_.out HW_.out (by kernel_rfl)) (fun _ _ _ h => h) (Or.inl ⟨by rfl, ?_⟩) hHeld ?_ ?_
       rotate_left
       ·rintro w' ⟨s0, s1, s2, s3, s4, s5, s6, s7, s8, s9, s10, s11, s12, s13, s14, s15, s16, s17, s18, s19⟩
        go_simp
        with_reducible rfl
       rotate_left
       ·simp only [Act.put, List.setIfInBounds_toArray, List.set_cons_zero, List.set_cons_succ, i64_w, i32_w]
        rfl
       refine one_ (i := 4) (N := some 20) #[true, true, true, true, true, false, true, true, true, true, false, false] rfl rfl (one_of HT_.out (by kernel_rfl)) (by decide) (fun K hK => ?_)
       refine goes_ Try.func50 (by kernel_rfl) rfl #[.agg #[.int .i64 ((rd_T78 l0 x3_1).f0), .int .i64 ((rd_T78 l0 x3_1).f1), .int .i64 ((rd_T78 l0 x3_1).f2), .string ((rd_T78 l0 x3_1).f3), .bool ((rd_T78 l0 x3_1).f4.f0), .slice A340_5 ((rd_T78 l0 x3_1).f4.f1).length c340_5, .int .i64 ((rd_T78 l0 x3_1).f4.f2.f0), .int .i64 ((rd_T78 l0 x3_1).f4.f2.f1), .int .i64 ((rd_T78 l0 x3_1).f4.f2.f2), .int .u32 ((rd_T78 l0 x3_1).f4.f2.f3)]] (by rfl) rfl rfl pL ?_
       with_reducible refine (entry_Check.calls k1 ((rd_T78 l0 x3_1).f0) ((rd_T78 l0 x3_1).f1) ((rd_T78 l0 x3_1).f2) ((rd_T78 l0 x3_1).f3) ((rd_T78 l0 x3_1).f4.f0) _ _ ((rd_T78 l0 x3_1).f4.f1) ((rd_T78 l0 x3_1).f4.f2.f0) ((rd_T78 l0 x3_1).f4.f2.f1) ((rd_T78 l0 x3_1).f4.f2.f2) ((rd_T78 l0 x3_1).f4.f2.f3) t341 _ ?side1 ?side2 A6.out).mono ?_
       (case side1 => exact pC (Kd.C_below HR340_5.out HB.out))
       (case side2 => exact HC340_5.out)
       rintro e w10 ⟨rfl, hb⟩
       refine ⟨_, rfl, ?_⟩
       have n0_ := Aside0.mk (below_step (pB HB.out) hb)
       clear HB
       have HB := n0_
       clear n0_
       (try clear hb)
       (try clear hb2)
       (try clear hk)
       (try clear hi)
       refine hK.out _ _ ⟨((HB.out.cell (World.block_lt_of_cell? w _ hw340_0)).trans hw340_0), ((HB.out.cell (World.block_lt_of_cell? w _ hw340_1)).trans hw340_1), ((HB.out.cell (World.block_lt_of_cell? w _ hw340_2)).trans hw340_2), ((HB.out.cell (World.block_lt_of_cell? w _ hw340_3)).trans hw340_3), ((HB.out.cell (World.block_lt_of_cell? w _ hw340_4)).trans hw340_4), ((HB.out.cell (World.block_lt_of_cell? w _ hw340_5)).trans hw340_5), ((HB.out.cell (World.block_lt_of_cell? w _ hw340_6)).trans hw340_6), ((HB.out.cell (World.block_lt_of_cell? w _ hw340_7)).trans hw340_7), ((HB.out.cell (World.block_lt_of_cell? w _ hw340_8)).trans hw340_8), ((HB.out.cell (World.block_lt_of_cell? w _ hw340_9)).trans hw340_9), ((HB.out.cell (World.block_lt_of_cell? w _ hw342_0)).trans hw342_0), ((HB.out.cell (World.block_lt_of_cell? w _ hw342_1)).trans hw342_1), ((HB.out.cell (World.block_lt_of_cell? w _ hw342_2)).trans hw342_2), ((HB.out.cell (World.block_lt_of_cell? w _ hw342_3)).trans hw342_3), ((HB.out.cell (World.block_lt_of_cell? w _ hw342_4)).trans hw342_4), ((HB.out.cell (World.block_lt_of_cell? w _ hw342_5)).trans hw342_5), ((HB.out.cell (World.block_lt_of_cell? w _ hw342_6)).trans hw342_6), ((HB.out.cell (World.block_lt_of_cell? w _ hw342_7)).trans hw342_7), ((HB.out.cell (World.block_lt_of_cell? w _ hw342_8)).trans hw342_8), ((HB.out.cell (World.block_lt_of_cell? w _ hw342_9)).trans hw342_9)⟩ (fun hHeld => ?_)
       clear hK K
       refine norm_ (a' := ?_) ?_ ?_
       rotate_left
       ·show Act.put _ (some 20) _ = _
        simp only [Act.put, List.setIfInBounds_toArray, List.set_cons_zero, List.set_cons_succ, i64_w, i32_w]
        rfl
       refine pure_ (i := 5) (N := some 21) (v := ?_) (a' := ?_) #[true, true, true, true, true, true, true, true, true, true, false, false] rfl rfl (any_of HT_.out (by kernel_rfl)) (fun _ _ _ h => h) (Or.inl ⟨by rfl, ?_⟩) ?_ ?_
       rotate_left
       ·intro w'
        go_simp
        with_reducible rfl
       rotate_left
       ·simp only [Act.put, List.setIfInBounds_toArray, List.set_cons_zero, List.set_cons_succ, i64_w, i32_w]
        rfl
       refine one_ (i := 10) (N := some 26) #[true, true, true, true, true, true, true, true, true, true, true, false] rfl rfl (one_of HT_.out (by kernel_rfl)) (by decide) (fun K hK => ?_)
       refine goes_ Try.func51 (by kernel_rfl) rfl #[.agg #[.int .i64 ((rd_T78 l0 x3_1).f0), .int .i64 ((rd_T78 l0 x3_1).f1), .int .i64 ((rd_T78 l0 x3_1).f2), .string ((rd_T78 l0 x3_1).f3), .bool ((rd_T78 l0 x3_1).f4.f0), .slice A340_5 ((rd_T78 l0 x3_1).f4.f1).length c340_5, .int .i64 ((rd_T78 l0 x3_1).f4.f2.f0), .int .i64 ((rd_T78 l0 x3_1).f4.f2.f1), .int .i64 ((rd_T78 l0 x3_1).f4.f2.f2), .int .u32 ((rd_T78 l0 x3_1).f4.f2.f3)]] (by rfl) rfl rfl pL ?_
       with_reducible refine (garnerref06_May.calls k1 ((rd_T78 l0 x3_1).f0) ((rd_T78 l0 x3_1).f1) ((rd_T78 l0 x3_1).f2) ((rd_T78 l0 x3_1).f3) ((rd_T78 l0 x3_1).f4.f0) _ _ ((rd_T78 l0 x3_1).f4.f1) ((rd_T78 l0 x3_1).f4.f2.f0) ((rd_T78 l0 x3_1).f4.f2.f1) ((rd_T78 l0 x3_1).f4.f2.f2) ((rd_T78 l0 x3_1).f4.f2.f3) t343 _ ?side1 ?side2 A7.out).mono ?_
       (case side1 => exact pC (Kd.C_below HR342_5.out HB.out))
       (case side2 => exact HC342_5.out)
       rintro e w11 ⟨rfl, hb⟩
       refine ⟨_, rfl, ?_⟩
       have n0_ := Aside0.mk (below_step (pB HB.out) hb)
       clear HB
       have HB := n0_
       clear n0_
       (try clear hb)
       (try clear hb2)
       (try clear hk)
       (try clear hi)
       refine hK.out _ _ ⟨((HB.out.cell (World.block_lt_of_cell? w _ hw340_0)).trans hw340_0), ((HB.out.cell (World.block_lt_of_cell? w _ hw340_1)).trans hw340_1), ((HB.out.cell (World.block_lt_of_cell? w _ hw340_2)).trans hw340_2), ((HB.out.cell (World.block_lt_of_cell? w _ hw340_3)).trans hw340_3), ((HB.out.cell (World.block_lt_of_cell? w _ hw340_4)).trans hw340_4), ((HB.out.cell (World.block_lt_of_cell? w _ hw340_5)).trans hw340_5), ((HB.out.cell (World.block_lt_of_cell? w _ hw340_6)).trans hw340_6), ((HB.out.cell (World.block_lt_of_cell? w _ hw340_7)).trans hw340_7), ((HB.out.cell (World.block_lt_of_cell? w _ hw340_8)).trans hw340_8), ((HB.out.cell (World.block_lt_of_cell? w _ hw340_9)).trans hw340_9), ((HB.out.cell (World.block_lt_of_cell? w _ hw342_0)).trans hw342_0), ((HB.out.cell (World.block_lt_of_cell? w _ hw342_1)).trans hw342_1), ((HB.out.cell (World.block_lt_of_cell? w _ hw342_2)).trans hw342_2), ((HB.out.cell (World.block_lt_of_cell? w _ hw342_3)).trans hw342_3), ((HB.out.cell (World.block_lt_of_cell? w _ hw342_4)).trans hw342_4), ((HB.out.cell (World.block_lt_of_cell? w _ hw342_5)).trans hw342_5), ((HB.out.cell (World.block_lt_of_cell? w _ hw342_6)).trans hw342_6), ((HB.out.cell (World.block_lt_of_cell? w _ hw342_7)).trans hw342_7), ((HB.out.cell (World.block_lt_of_cell? w _ hw342_8)).trans hw342_8), ((HB.out.cell (World.block_lt_of_cell? w _ hw342_9)).trans hw342_9)⟩ (fun hHeld => ?_)
       clear hK K
       refine norm_ (a' := ?_) ?_ ?_
       rotate_left
       ·show Act.put _ (some 26) _ = _
        simp only [Act.put, List.setIfInBounds_toArray, List.set_cons_zero, List.set_cons_succ, i64_w, i32_w]
        rfl
       refine pure_ (i := 11) (N := some 27) (v := ?_) (a' := ?_) #[true, true, true, true, true, true, true, true, true, true, true, true] rfl rfl (any_of HT_.out (by kernel_rfl)) (fun _ _ _ h => h) (Or.inl ⟨by rfl, ?_⟩) ?_ ?_
       rotate_left
       ·intro w'
        go_simp
        with_reducible rfl
       rotate_left
       ·simp only [Act.put, List.setIfInBounds_toArray, List.set_cons_zero, List.set_cons_succ, i64_w, i32_w]
        rfl
       refine done_ (done_of HT_.out (by kernel_rfl)) ?_
       try go_wp2
       go_ret
       exact ⟨by first | rfl | (simp [errW_none, errW_some] <;> rfl) | (simp [*, errW_none, errW_some] <;> rfl), by repeat (first | (with_reducible first | exact HB.out | apply below_alloc | apply pw_below_drewN | apply below_drew1) | exact HB.out)⟩
      ·rw [if_neg c8] at H
       have c8b0 : ((t341 == 0) != t343) = false := by simpa using c8
       (try (have c8b1 : decide ((t341 == 0) = t343) = true := by simpa using c8))
       (try (have c8b2 : ((t341 == 0) == t343) = true := by simpa using c8))
       clear c8
       have H' := Aside0.mk H
       clear H
       try go_wp2
       have n0_ := Aside0.mk (below_drew1 HB.out)
       clear HB
       have HB := n0_
       clear n0_
       have p340 : 0 ≤ (x3_1 : Int) := of_decide_eq_true pS
       have q340 : x3_1 < (l0.length : Int) := of_decide_eq_true pS
       obtain ⟨ad340, A340_5, c340_5, e340, hx340_0, hx340_1, hx340_2, hx340_3, hx340_4, hx340_5, hx340_6, hx340_7, hx340_8, hx340_9, hl340_5, hi340_5⟩ := at_T78 HR0.out x3_1 p340 q340
       have hw340_9 := hx340_9
       have hw340_8 := hx340_8
       have hw340_7 := hx340_7
       have hw340_6 := hx340_6
       have hw340_5 := hx340_5
       have hw340_4 := hx340_4
       have hw340_3 := hx340_3
       have hw340_2 := hx340_2
       have hw340_1 := hx340_1
       have hw340_0 := hx340_0
       cases e340
       replace hx340_0 := (HB.out.cell (World.block_lt_of_cell? w _ hx340_0)).trans hx340_0
       replace hx340_1 := (HB.out.cell (World.block_lt_of_cell? w _ hx340_1)).trans hx340_1
       replace hx340_2 := (HB.out.cell (World.block_lt_of_cell? w _ hx340_2)).trans hx340_2
       replace hx340_3 := (HB.out.cell (World.block_lt_of_cell? w _ hx340_3)).trans hx340_3
       replace hx340_4 := (HB.out.cell (World.block_lt_of_cell? w _ hx340_4)).trans hx340_4
       replace hx340_5 := (HB.out.cell (World.block_lt_of_cell? w _ hx340_5)).trans hx340_5
       replace hx340_6 := (HB.out.cell (World.block_lt_of_cell? w _ hx340_6)).trans hx340_6
       replace hx340_7 := (HB.out.cell (World.block_lt_of_cell? w _ hx340_7)).trans hx340_7
       replace hx340_8 := (HB.out.cell (World.block_lt_of_cell? w _ hx340_8)).trans hx340_8
       replace hx340_9 := (HB.out.cell (World.block_lt_of_cell? w _ hx340_9)).trans hx340_9
       have HR340_5 := Aside0.mk hi340_5
       have HC340_5 := Aside0.mk hl340_5
       clear hi340_5 hl340_5
       replace p340 := eq_true p340
       replace q340 := eq_true q340
       have p342 : 0 ≤ (x3_1 : Int) := of_decide_eq_true pS
       have q342 : x3_1 < (l0.length : Int) := of_decide_eq_true pS
       obtain ⟨ad342, A342_5, c342_5, e342, hx342_0, hx342_1, hx342_2, hx342_3, hx342_4, hx342_5, hx342_6, hx342_7, hx342_8, hx342_9, hl342_5, hi342_5⟩ := at_T78 HR0.out x3_1 p342 q342
       have hw342_9 := hx342_9
       have hw342_8 := hx342_8
       have hw342_7 := hx342_7
       have hw342_6 := hx342_6
       have hw342_5 := hx342_5
       have hw342_4 := hx342_4
       have hw342_3 := hx342_3
       have hw342_2 := hx342_2
       have hw342_1 := hx342_1
       have hw342_0 := hx342_0
       obtain rfl : ad340 = ad342 := (by injection e342)
       replace hx342_0 := (HB.out.cell (World.block_lt_of_cell? w _ hx342_0)).trans hx342_0
       replace hx342_1 := (HB.out.cell (World.block_lt_of_cell? w _ hx342_1)).trans hx342_1
       replace hx342_2 := (HB.out.cell (World.block_lt_of_cell? w _ hx342_2)).trans hx342_2
       replace hx342_3 := (HB.out.cell (World.block_lt_of_cell? w _ hx342_3)).trans hx342_3
       replace hx342_4 := (HB.out.cell (World.block_lt_of_cell? w _ hx342_4)).trans hx342_4
       replace hx342_5 := (HB.out.cell (World.block_lt_of_cell? w _ hx342_5)).trans hx342_5
       replace hx342_6 := (HB.out.cell (World.block_lt_of_cell? w _ hx342_6)).trans hx342_6
       replace hx342_7 := (HB.out.cell (World.block_lt_of_cell? w _ hx342_7)).trans hx342_7
       replace hx342_8 := (HB.out.cell (World.block_lt_of_cell? w _ hx342_8)).trans hx342_8
       replace hx342_9 := (HB.out.cell (World.block_lt_of_cell? w _ hx342_9)).trans hx342_9
       have HR342_5 := Aside0.mk hi342_5
       have HC342_5 := Aside0.mk hl342_5
       clear hi342_5 hl342_5
       replace p342 := eq_true p342
       replace q342 := eq_true q342
       have ea_ := Option.some.inj (hx340_5.symm.trans hx342_5)
       injection ea_ with ea_ en_ ec_
       subst ea_
       subst ec_
       clear en_
       refine start_ (n := 12) (S := fun w' => w'.cell? (ad340.add ((x3_1).toNat * 10)) = some (.int .i64 ((rd_T78 l0 x3_1).f0)) ∧ w'.cell? ⟨(ad340.add ((x3_1).toNat * 10)).block, (ad340.add ((x3_1).toNat * 10)).off + 1, none⟩ = some (.int .i64 ((rd_T78 l0 x3_1).f1)) ∧ w'.cell? ⟨(ad340.add ((x3_1).toNat * 10)).block, (ad340.add ((x3_1).toNat * 10)).off + 2, none⟩ = some (.int .i64 ((rd_T78 l0 x3_1).f2)) ∧ w'.cell? ⟨(ad340.add ((x3_1).toNat * 10)).block, (ad340.add ((x3_1).toNat * 10)).off + 3, none⟩ = some (.string ((rd_T78 l0 x3_1).f3)) ∧ w'.cell? ⟨(ad340.add ((x3_1).toNat * 10)).block, (ad340.add ((x3_1).toNat * 10)).off + 4, none⟩ = some (.bool ((rd_T78 l0 x3_1).f4.f0)) ∧ w'.cell? ⟨(ad340.add ((x3_1).toNat * 10)).block, (ad340.add ((x3_1).toNat * 10)).off + 5, none⟩ = some (.slice A340_5 ((rd_T78 l0 x3_1).f4.f1).length c340_5) ∧ w'.cell? ⟨(ad340.add ((x3_1).toNat * 10)).block, (ad340.add ((x3_1).toNat * 10)).off + 6, none⟩ = some (.int .i64 ((rd_T78 l0 x3_1).f4.f2.f0)) ∧ w'.cell? ⟨(ad340.add ((x3_1).toNat * 10)).block, (ad340.add ((x3_1).toNat * 10)).off + 7, none⟩ = some (.int .i64 ((rd_T78 l0 x3_1).f4.f2.f1)) ∧ w'.cell? ⟨(ad340.add ((x3_1).toNat * 10)).block, (ad340.add ((x3_1).toNat * 10)).off + 8, none⟩ = some (.int .i64 ((rd_T78 l0 x3_1).f4.f2.f2)) ∧ w'.cell? ⟨(ad340.add ((x3_1).toNat * 10)).block, (ad340.add ((x3_1).toNat * 10)).off + 9, none⟩ = some (.int .u32 ((rd_T78 l0 x3_1).f4.f2.f3)) ∧ w'.cell? (ad340.add ((x3_1).toNat * 10)) = some (.int .i64 ((rd_T78 l0 x3_1).f0)) ∧ w'.cell? ⟨(ad340.add ((x3_1).toNat * 10)).block, (ad340.add ((x3_1).toNat * 10)).off + 1, none⟩ = some (.int .i64 ((rd_T78 l0 x3_1).f1)) ∧ w'.cell? ⟨(ad340.add ((x3_1).toNat * 10)).block, (ad340.add ((x3_1).toNat * 10)).off + 2, none⟩ = some (.int .i64 ((rd_T78 l0 x3_1).f2)) ∧ w'.cell? ⟨(ad340.add ((x3_1).toNat * 10)).block, (ad340.add ((x3_1).toNat * 10)).off + 3, none⟩ = some (.string ((rd_T78 l0 x3_1).f3)) ∧ w'.cell? ⟨(ad340.add ((x3_1).toNat * 10)).block, (ad340.add ((x3_1).toNat * 10)).off + 4, none⟩ = some (.bool ((rd_T78 l0 x3_1).f4.f0)) ∧ w'.cell? ⟨(ad340.add ((x3_1).toNat * 10)).block, (ad340.add ((x3_1).toNat * 10)).off + 5, none⟩ = some (.slice A340_5 ((rd_T78 l0 x3_1).f4.f1).length c340_5) ∧ w'.cell? ⟨(ad340.add ((x3_1).toNat * 10)).block, (ad340.add ((x3_1).toNat * 10)).off + 6, none⟩ = some (.int .i64 ((rd_T78 l0 x3_1).f4.f2.f0)) ∧ w'.cell? ⟨(ad340.add ((x3_1).toNat * 10)).block, (ad340.add ((x3_1).toNat * 10)).off + 7, none⟩ = some (.int .i64 ((rd_T78 l0 x3_1).f4.f2.f1)) ∧ w'.cell? ⟨(ad340.add ((x3_1).toNat * 10)).block, (ad340.add ((x3_1).toNat * 10)).off + 8, none⟩ = some (.int .i64 ((rd_T78 l0 x3_1).f4.f2.f2)) ∧ w'.cell? ⟨(ad340.add ((x3_1).toNat * 10)).block, (ad340.add ((x3_1).toNat * 10)).off + 9, none⟩ = some (.int .u32 ((rd_T78 l0 x3_1).f4.f2.f3))) (ds := []) #[false, false, false, false, false, false, false, false, false, false, false, false] (by kernel_rfl) rfl rfl ⟨((HB.out.cell (World.block_lt_of_cell? w _ hw340_0)).trans hw340_0), ((HB.out.cell (World.block_lt_of_cell? w _ hw340_1)).trans hw340_1), ((HB.out.cell (World.block_lt_of_cell? w _ hw340_2)).trans hw340_2), ((HB.out.cell (World.block_lt_of_cell? w _ hw340_3)).trans hw340_3), ((HB.out.cell (World.block_lt_of_cell? w _ hw340_4)).trans hw340_4), ((HB.out.cell (World.block_lt_of_cell? w _ hw340_5)).trans hw340_5), ((HB.out.cell (World.block_lt_of_cell? w _ hw340_6)).trans hw340_6), ((HB.out.cell (World.block_lt_of_cell? w _ hw340_7)).trans hw340_7), ((HB.out.cell (World.block_lt_of_cell? w _ hw340_8)).trans hw340_8), ((HB.out.cell (World.block_lt_of_cell? w _ hw340_9)).trans hw340_9), ((HB.out.cell (World.block_lt_of_cell? w _ hw342_0)).trans hw342_0), ((HB.out.cell (World.block_lt_of_cell? w _ hw342_1)).trans hw342_1), ((HB.out.cell (World.block_lt_of_cell? w _ hw342_2)).trans hw342_2), ((HB.out.cell (World.block_lt_of_cell? w _ hw342_3)).trans hw342_3), ((HB.out.cell (World.block_lt_of_cell? w _ hw342_4)).trans hw342_4), ((HB.out.cell (World.block_lt_of_cell? w _ hw342_5)).trans hw342_5), ((HB.out.cell (World.block_lt_of_cell? w _ hw342_6)).trans hw342_6), ((HB.out.cell (World.block_lt_of_cell? w _ hw342_7)).trans hw342_7), ((HB.out.cell (World.block_lt_of_cell? w _ hw342_8)).trans hw342_8), ((HB.out.cell (World.block_lt_of_cell? w _ hw342_9)).trans hw342_9)⟩ (fun hHeld => ?_); refine with_tabW garnerlaw06_EntryPuts.tab6 garnerlaw06_EntryPuts.bits6 (fun HT_ HW_ => ?_)
       generalize wr.drew = w12 at HB HR340_5 HR342_5 hx340_0 hx340_1 hx340_2 hx340_3 hx340_4 hx340_5 hx340_6 hx340_7 hx340_8 hx340_9 hx342_0 hx342_1 hx342_2 hx342_3 hx342_4 hx342_5 hx342_6 hx342_7 hx342_8 hx342_9 hHeld ⊢
       refine pure_ (i := 0) (N := some 16) (v := ?_) (a' := ?_) #[true, false, false, false, false, false, false, false, false, false, false, false] rfl rfl (any_of HT_.out (by kernel_rfl)) (fun _ _ _ h => h) (Or.inl ⟨by rfl, ?_⟩) ?_ ?_
       rotate_left
       ·intro w'
        go_simp
        with_reducible rfl
       rotate_left
       ·simp only [Act.put, List.setIfInBounds_toArray, List.set_cons_zero, List.set_cons_succ, i64_w, i32_w]
        rfl
       refine pure_ (i := 1) (N := some 17) (v := ?_) (a' := ?_) #[true, true, false, false, false, false, false, false, false, false, false, false] rfl rfl (any_of HT_.out (by kernel_rfl)) (fun _ _ _ h => h) (Or.inl ⟨by rfl, ?_⟩) ?_ ?_
       rotate_left
       ·intro w'
        go_simp
        with_reducible rfl
       rotate_left
       ·simp only [Act.put, List.setIfInBounds_toArray, List.set_cons_zero, List.set_cons_succ, i64_w, i32_w]
        rfl
       refine pure_ (i := 2) (N := some 18) (v := ?_) (a' := ?_) #[true, true, true, false, false, false, false, false, false, false, false, false] rfl rfl (any_of HT_.out (by kernel_rfl)) (fun _ _ _ h => h) (Or.inl ⟨by rfl, ?_⟩) ?_ ?_
       rotate_left
       ·intro w'
        go_simp
        with_reducible rfl
       rotate_left
       ·simp only [Act.put, List.setIfInBounds_toArray, List.set_cons_zero, List.set_cons_succ, i64_w, i32_w]
        rfl
       refine pure_ (i := 6) (N := some 22) (v := ?_) (a' := ?_) #[true, true, true, false, false, false, true, false, false, false, false, false] rfl rfl (any_of HT_.out (by kernel_rfl)) (fun _ _ _ h => h) (Or.inl ⟨by rfl, ?_⟩) ?_ ?_
       rotate_left
       ·intro w'
        go_simp
        with_reducible rfl
       rotate_left
       ·simp only [Act.put, List.setIfInBounds_toArray, List.set_cons_zero, List.set_cons_succ, i64_w, i32_w]
        rfl
       refine pure_ (i := 7) (N := some 23) (v := ?_) (a' := ?_) #[true, true, true, false, false, false, true, true, false, false, false, false] rfl rfl (any_of HT_.out (by kernel_rfl)) (fun _ _ _ h => h) (Or.inl ⟨by rfl, ?_⟩) ?_ ?_
       rotate_left
       ·intro w'
        go_simp
        with_reducible rfl
       rotate_left
       ·simp only [Act.put, List.setIfInBounds_toArray, List.set_cons_zero, List.set_cons_succ, i64_w, i32_w]
        rfl
       refine pure_ (i := 8) (N := some 24) (v := ?_) (a' := ?_) #[true, true, true, false, false, false, true, true, true, false, false, false] rfl rfl (any_of HT_.out (by kernel_rfl)) (fun _ _ _ h => h) (Or.inl ⟨by rfl, ?_⟩) ?_ ?_
       rotate_left
       ·intro w'
        go_simp
        with_reducible rfl
       rotate_left
       ·simp only [Act.put, List.setIfInBounds_toArray, List.set_cons_zero, List.set_cons_succ, i64_w, i32_w]
        rfl
       refine take_ (i := 3) (N := some 19) (v := ?_) (a' := ?_) #[true, true, true, true, false, false, true, true, true, false, false, false] rfl rfl (take_ofW HT_.out HW_.out (by kernel_rfl)) (fun _ _ _ h => h) (Or.inl ⟨by rfl, ?_⟩) hHeld ?_ ?_
       rotate_left
       ·rintro w' ⟨s0, s1, s2, s3, s4, s5, s6, s7, s8, s9, s10, s11, s12, s13, s14, s15, s16, s17, s18, s19⟩
        go_simp
        with_reducible rfl
       rotate_left
       ·simp only [Act.put, List.setIfInBounds_toArray, List.set_cons_zero, List.set_cons_succ, i64_w, i32_w]
        rfl
       refine take_ (i := 9) (N := some 25) (v := ?_) (a' := ?_) #[true, true, true, true, false, false, true, true, true, true, false, false] rfl rfl (take_ofW HT_.out HW_.out (by kernel_rfl)) (fun _ _ _ h => h) (Or.inl ⟨by rfl, ?_⟩) hHeld ?_ ?_
       rotate_left
       ·rintro w' ⟨s0, s1, s2, s3, s4, s5, s6, s7, s8, s9, s10, s11, s12, s13, s14, s15, s16, s17, s18, s19⟩
        go_simp
        with_reducible rfl
       rotate_left
       ·simp only [Act.put, List.setIfInBounds_toArray, List.set_cons_zero, List.set_cons_succ, i64_w, i32_w]
        rfl
       refine one_ (i := 4) (N := some 20) #[true, true, true, true, true, false, true, true, true, true, false, false] rfl rfl (one_of HT_.out (by kernel_rfl)) (by decide) (fun K hK => ?_)
       refine goes_ Try.func50 (by kernel_rfl) rfl #[.agg #[.int .i64 ((rd_T78 l0 x3_1).f0), .int .i64 ((rd_T78 l0 x3_1).f1), .int .i64 ((rd_T78 l0 x3_1).f2), .string ((rd_T78 l0 x3_1).f3), .bool ((rd_T78 l0 x3_1).f4.f0), .slice A340_5 ((rd_T78 l0 x3_1).f4.f1).length c340_5, .int .i64 ((rd_T78 l0 x3_1).f4.f2.f0), .int .i64 ((rd_T78 l0 x3_1).f4.f2.f1), .int .i64 ((rd_T78 l0 x3_1).f4.f2.f2), .int .u32 ((rd_T78 l0 x3_1).f4.f2.f3)]] (by rfl) rfl rfl pL ?_
       with_reducible refine (entry_Check.calls k1 ((rd_T78 l0 x3_1).f0) ((rd_T78 l0 x3_1).f1) ((rd_T78 l0 x3_1).f2) ((rd_T78 l0 x3_1).f3) ((rd_T78 l0 x3_1).f4.f0) _ _ ((rd_T78 l0 x3_1).f4.f1) ((rd_T78 l0 x3_1).f4.f2.f0) ((rd_T78 l0 x3_1).f4.f2.f1) ((rd_T78 l0 x3_1).f4.f2.f2) ((rd_T78 l0 x3_1).f4.f2.f3) t341 _ ?side1 ?side2 A6.out).mono ?_
       (case side1 => exact pC (Kd.C_below HR340_5.out HB.out))
       (case side2 => exact HC340_5.out)
       rintro e w13 ⟨rfl, hb⟩
       refine ⟨_, rfl, ?_⟩
       have n0_ := Aside0.mk (below_step (pB HB.out) hb)
       clear HB
       have HB := n0_
       clear n0_
       (try clear hb)
       (try clear hb2)
       (try clear hk)
       (try clear hi)
       refine hK.out _ _ ⟨((HB.out.cell (World.block_lt_of_cell? w _ hw340_0)).trans hw340_0), ((HB.out.cell (World.block_lt_of_cell? w _ hw340_1)).trans hw340_1), ((HB.out.cell (World.block_lt_of_cell? w _ hw340_2)).trans hw340_2), ((HB.out.cell (World.block_lt_of_cell? w _ hw340_3)).trans hw340_3), ((HB.out.cell (World.block_lt_of_cell? w _ hw340_4)).trans hw340_4), ((HB.out.cell (World.block_lt_of_cell? w _ hw340_5)).trans hw340_5), ((HB.out.cell (World.block_lt_of_cell? w _ hw340_6)).trans hw340_6), ((HB.out.cell (World.block_lt_of_cell? w _ hw340_7)).trans hw340_7), ((HB.out.cell (World.block_lt_of_cell? w _ hw340_8)).trans hw340_8), ((HB.out.cell (World.block_lt_of_cell? w _ hw340_9)).trans hw340_9), ((HB.out.cell (World.block_lt_of_cell? w _ hw342_0)).trans hw342_0), ((HB.out.cell (World.block_lt_of_cell? w _ hw342_1)).trans hw342_1), ((HB.out.cell (World.block_lt_of_cell? w _ hw342_2)).trans hw342_2), ((HB.out.cell (World.block_lt_of_cell? w _ hw342_3)).trans hw342_3), ((HB.out.cell (World.block_lt_of_cell? w _ hw342_4)).trans hw342_4), ((HB.out.cell (World.block_lt_of_cell? w _ hw342_5)).trans hw342_5), ((HB.out.cell (World.block_lt_of_cell? w _ hw342_6)).trans hw342_6), ((HB.out.cell (World.block_lt_of_cell? w _ hw342_7)).trans hw342_7), ((HB.out.cell (World.block_lt_of_cell? w _ hw342_8)).trans hw342_8), ((HB.out.cell (World.block_lt_of_cell? w _ hw342_9)).trans hw342_9)⟩ (fun hHeld => ?_)
       clear hK K
       refine norm_ (a' := ?_) ?_ ?_
       rotate_left
       ·show Act.put _ (some 20) _ = _
        simp only [Act.put, List.setIfInBounds_toArray, List.set_cons_zero, List.set_cons_succ, i64_w, i32_w]
        rfl
       refine pure_ (i := 5) (N := some 21) (v := ?_) (a' := ?_) #[true, true, true, true, true, true, true, true, true, true, false, false] rfl rfl (any_of HT_.out (by kernel_rfl)) (fun _ _ _ h => h) (Or.inl ⟨by rfl, ?_⟩) ?_ ?_
       rotate_left
       ·intro w'
        go_simp
        with_reducible rfl
       rotate_left
       ·simp only [Act.put, List.setIfInBounds_toArray, List.set_cons_zero, List.set_cons_succ, i64_w, i32_w]
        rfl
       refine one_ (i := 10) (N := some 26) #[true, true, true, true, true, true, true, true, true, true, true, false] rfl rfl (one_of HT_.out (by kernel_rfl)) (by decide) (fun K hK => ?_)
       refine goes_ Try.func51 (by kernel_rfl) rfl #[.agg #[.int .i64 ((rd_T78 l0 x3_1).f0), .int .i64 ((rd_T78 l0 x3_1).f1), .int .i64 ((rd_T78 l0 x3_1).f2), .string ((rd_T78 l0 x3_1).f3), .bool ((rd_T78 l0 x3_1).f4.f0), .slice A340_5 ((rd_T78 l0 x3_1).f4.f1).length c340_5, .int .i64 ((rd_T78 l0 x3_1).f4.f2.f0), .int .i64 ((rd_T78 l0 x3_1).f4.f2.f1), .int .i64 ((rd_T78 l0 x3_1).f4.f2.f2), .int .u32 ((rd_T78 l0 x3_1).f4.f2.f3)]] (by rfl) rfl rfl pL ?_
       with_reducible refine (garnerref06_May.calls k1 ((rd_T78 l0 x3_1).f0) ((rd_T78 l0 x3_1).f1) ((rd_T78 l0 x3_1).f2) ((rd_T78 l0 x3_1).f3) ((rd_T78 l0 x3_1).f4.f0) _ _ ((rd_T78 l0 x3_1).f4.f1) ((rd_T78 l0 x3_1).f4.f2.f0) ((rd_T78 l0 x3_1).f4.f2.f1) ((rd_T78 l0 x3_1).f4.f2.f2) ((rd_T78 l0 x3_1).f4.f2.f3) t343 _ ?side1 ?side2 A7.out).mono ?_
       (case side1 => exact pC (Kd.C_below HR342_5.out HB.out))
       (case side2 => exact HC342_5.out)
       rintro e w14 ⟨rfl, hb⟩
       refine ⟨_, rfl, ?_⟩
       have n0_ := Aside0.mk (below_step (pB HB.out) hb)
       clear HB
       have HB := n0_
       clear n0_
       (try clear hb)
       (try clear hb2)
       (try clear hk)
       (try clear hi)
       refine hK.out _ _ ⟨((HB.out.cell (World.block_lt_of_cell? w _ hw340_0)).trans hw340_0), ((HB.out.cell (World.block_lt_of_cell? w _ hw340_1)).trans hw340_1), ((HB.out.cell (World.block_lt_of_cell? w _ hw340_2)).trans hw340_2), ((HB.out.cell (World.block_lt_of_cell? w _ hw340_3)).trans hw340_3), ((HB.out.cell (World.block_lt_of_cell? w _ hw340_4)).trans hw340_4), ((HB.out.cell (World.block_lt_of_cell? w _ hw340_5)).trans hw340_5), ((HB.out.cell (World.block_lt_of_cell? w _ hw340_6)).trans hw340_6), ((HB.out.cell (World.block_lt_of_cell? w _ hw340_7)).trans hw340_7), ((HB.out.cell (World.block_lt_of_cell? w _ hw340_8)).trans hw340_8), ((HB.out.cell (World.block_lt_of_cell? w _ hw340_9)).trans hw340_9), ((HB.out.cell (World.block_lt_of_cell? w _ hw342_0)).trans hw342_0), ((HB.out.cell (World.block_lt_of_cell? w _ hw342_1)).trans hw342_1), ((HB.out.cell (World.block_lt_of_cell? w _ hw342_2)).trans hw342_2), ((HB.out.cell (World.block_lt_of_cell? w _ hw342_3)).trans hw342_3), ((HB.out.cell (World.block_lt_of_cell? w _ hw342_4)).trans hw342_4), ((HB.out.cell (World.block_lt_of_cell? w _ hw342_5)).trans hw342_5), ((HB.out.cell (World.block_lt_of_cell? w _ hw342_6)).trans hw342_6), ((HB.out.cell (World.block_lt_of_cell? w _ hw342_7)).trans hw342_7), ((HB.out.cell (World.block_lt_of_cell? w _ hw342_8)).trans hw342_8), ((HB.out.cell (World.block_lt_of_cell? w _ hw342_9)).trans hw342_9)⟩ (fun hHeld => ?_)
       clear hK K
       refine norm_ (a' := ?_) ?_ ?_
       rotate_left
       ·show Act.put _ (some 26) _ = _
        simp only [Act.put, List.setIfInBounds_toArray, List.set_cons_zero, List.set_cons_succ, i64_w, i32_w]
        rfl
       refine pure_ (i := 11) (N := some 27) (v := ?_) (a' := ?_) #[true, true, true, true, true, true, true, true, true, true, true, true] rfl rfl (any_of HT_.out (by kernel_rfl)) (fun _ _ _ h => h) (Or.inl ⟨by rfl, ?_⟩) ?_ ?_
       rotate_left
       ·intro w'
        go_simp
        with_reducible rfl
       rotate_left
       ·simp only [Act.put, List.setIfInBounds_toArray, List.set_cons_zero, List.set_cons_succ, i64_w, i32_w]
        rfl
       refine done_ (done_of HT_.out (by kernel_rfl)) ?_
       try go_wp2
       go_roundg k1
       case measure => have := HK1.out; omega
       case rel => exact ⟨(wrap64 (x3_1 + 1)), (by first | rfl | (simp; done) | (simp [*]; done)), H', ⟨by have := HK1.out; omega⟩, ⟨by repeat (first | (with_reducible first | exact HB.out | apply below_alloc | apply pw_below_drewN | apply below_drew1) | exact HB.out)⟩⟩
     ·rw [if_neg c5] at H
      exact absurd H (by simp)
    ·rw [if_neg c4] at H
     have c4b0 : decide (x3_1 < (l0.length : Int)) = false := decide_eq_false c4
     clear c4
     replace H := Option.bind_eq_some_iff.mp H
     obtain ⟨⟨t344, t345⟩, A150, H⟩ := H
     replace H : ((garnerref06_Batch.f k1 l0).bind fun t348 => (if t348 = true then ((entry_Batch.f k1 l0).bind fun t351 => (if t351 = 0 then (if t345 = 0 then ((garnerref06_Put.f k1 l0).bind fun t352 => ((garnerref02_Bytes.f k1 t344 t352).bind fun t355 => (if t355 = true then ((garnerlaw06_awake.f k1).bind fun t356 => (some t356)) else (some false)))) else (some false)) else (some false))) else ((entry_Batch.f k1 l0).bind fun t349 => (if t349 = 1 then (if t345 = 1 then (if (t344.length : Int) = 0 then ((garnerlaw06_awake.f k1).bind fun t350 => (some t350)) else (some false)) else (some false)) else (some false))))) = some r := H
     have A15 := Aside0.mk A150
     clear A150
     replace H := Option.bind_eq_some_iff.mp H
     obtain ⟨t348, A160, H⟩ := H
     replace H : (if t348 = true then ((entry_Batch.f k1 l0).bind fun t351 => (if t351 = 0 then (if t345 = 0 then ((garnerref06_Put.f k1 l0).bind fun t352 => ((garnerref02_Bytes.f k1 t344 t352).bind fun t355 => (if t355 = true then ((garnerlaw06_awake.f k1).bind fun t356 => (some t356)) else (some false)))) else (some false)) else (some false))) else ((entry_Batch.f k1 l0).bind fun t349 => (if t349 = 1 then (if t345 = 1 then (if (t344.length : Int) = 0 then ((garnerlaw06_awake.f k1).bind fun t350 => (some t350)) else (some false)) else (some false)) else (some false)))) = some r := H
     have A16 := Aside0.mk A160
     clear A160
     by_cases c17 : t348 = true
     ·subst c17
      have H1 : ((entry_Batch.f k1 l0).bind fun t351 => (if t351 = 0 then (if t345 = 0 then ((garnerref06_Put.f k1 l0).bind fun t352 => ((garnerref02_Bytes.f k1 t344 t352).bind fun t355 => (if t355 = true then ((garnerlaw06_awake.f k1).bind fun t356 => (some t356)) else (some false)))) else (some false)) else (some false))) = some r := by rw [if_pos rfl] at H; exact H
      clear H
      have H := H1
      clear H1
      replace H := Option.bind_eq_some_iff.mp H
      obtain ⟨t351, A180, H⟩ := H
      replace H : (if t351 = 0 then (if t345 = 0 then ((garnerref06_Put.f k1 l0).bind fun t352 => ((garnerref02_Bytes.f k1 t344 t352).bind fun t355 => (if t355 = true then ((garnerlaw06_awake.f k1).bind fun t356 => (some t356)) else (some false)))) else (some false)) else (some false)) = some r := H
      have A18 := Aside0.mk A180
      clear A180
      by_cases c19 : t351 = 0
      ·rw [if_pos c19] at H
       have c19b0 : (t351 == 0) = true := beq_iff_eq.mpr c19
       have c19b1 : (t351 != 0) = false := bne_eq_false_iff_eq.mpr c19
       clear c19
       by_cases c20 : t345 = 0
       ·rw [if_pos c20] at H
        have c20b0 : (t345 == 0) = true := beq_iff_eq.mpr c20
        have c20b1 : (t345 != 0) = false := bne_eq_false_iff_eq.mpr c20
        clear c20
        replace H := Option.bind_eq_some_iff.mp H
        obtain ⟨t352, A210, H⟩ := H
        replace H : ((garnerref02_Bytes.f k1 t344 t352).bind fun t355 => (if t355 = true then ((garnerlaw06_awake.f k1).bind fun t356 => (some t356)) else (some false))) = some r := H
        have A21 := Aside0.mk A210
        clear A210
        replace H := Option.bind_eq_some_iff.mp H
        obtain ⟨t355, A220, H⟩ := H
        replace H : (if t355 = true then ((garnerlaw06_awake.f k1).bind fun t356 => (some t356)) else (some false)) = some r := H
        have A22 := Aside0.mk A220
        clear A220
        by_cases c23 : t355 = true
        ·subst c23
         have H1 : ((garnerlaw06_awake.f k1).bind fun t356 => (some t356)) = some r := by rw [if_pos rfl] at H; exact H
         clear H
         have H := H1
         clear H1
         replace H := Option.bind_eq_some_iff.mp H
         obtain ⟨t356, A240, H⟩ := H
         replace H : (some t356) = some r := H
         have A24 := Aside0.mk A240
         clear A240
         obtain rfl := Option.some.inj H
         go_wp2_with (first | ((with_reducible refine gate_callee (f := 52) rfl ?_); refine goesL_ (some 30) rfl rfl Try.func52 (by kernel_rfl) rfl #[.slice A0 l0.length c0] rfl pL ?_; (with_reducible refine (entry_Put.calls k1 _ _ l0 t344 t345 _ ?side1 ?side2 A15.out).mono ?_); (case side1 => exact pC (Kd.C_below HR0.out HB.out)); (case side2 => exact HC0.out); rintro e w25 ⟨v346, rfl, ho0, hb⟩; refine ⟨_, rfl, ?_⟩; have n0_ := Aside0.mk (Kd.R_lower ho0 (below_size (pB HB.out))); have n1_ := Aside0.mk (below_step (pB HB.out) hb); clear HB; have HO347 := n0_; have HB := n1_; clear n0_ n1_; (try clear hb); (try clear hb2); (try clear hk); (try clear hi); (try clear ho0)) | ((with_reducible refine gate_callee (f := 53) rfl ?_); refine goesL_ (some 34) rfl rfl Try.func53 (by kernel_rfl) rfl #[.slice A0 l0.length c0] rfl pL ?_; (with_reducible refine (garnerref06_Batch.calls k1 _ _ l0 true _ ?side1 ?side2 A16.out).mono ?_); (case side1 => exact pC (Kd.C_below HR0.out HB.out)); (case side2 => exact HC0.out); rintro e w26 ⟨rfl, hb⟩; refine ⟨_, rfl, ?_⟩; have n0_ := Aside0.mk (Kd.R_below (pR HO347.out) hb); have n1_ := Aside0.mk (below_step (pB HB.out) hb); clear HO347 HB; have HO347 := n0_; have HB := n1_; clear n0_ n1_; (try clear hb); (try clear hb2); (try clear hk); (try clear hi)) | ((with_reducible refine gate_callee (f := 54) rfl ?_); refine goesL_ (some 52) rfl rfl Try.func54 (by kernel_rfl) rfl #[.slice A0 l0.length c0] rfl pL ?_; (with_reducible refine (entry_Batch.calls k1 _ _ l0 t351 _ ?side1 ?side2 A18.out).mono ?_); (case side1 => exact pC (Kd.C_below HR0.out HB.out)); (case side2 => exact HC0.out); rintro e w27 ⟨rfl, hb⟩; refine ⟨_, rfl, ?_⟩; have n0_ := Aside0.mk (Kd.R_below (pR HO347.out) hb); have n1_ := Aside0.mk (below_step (pB HB.out) hb); clear HO347 HB; have HO347 := n0_; have HB := n1_; clear n0_ n1_; (try clear hb); (try clear hb2); (try clear hk); (try clear hi)) | (go_at_call 55; (with_reducible refine (garnerref06_Put.calls k1 _ _ l0 t352 _ ?side1 ?side2 A21.out).mono ?_); (case side1 => exact pC (Kd.C_below HR0.out HB.out)); (case side2 => exact HC0.out); rintro e w28 ⟨v353, rfl, ho0, hb⟩; have n0_ := Aside0.mk (Kd.R_elder' (pR HO347.out) (Kd.R_base ho0) hb); have n1_ := Aside0.mk (Kd.R_lower (Kd.R_new' ho0 (Kd.R_lt (pR HO347.out))) (below_size (pB HB.out))); have n2_ := Aside0.mk (below_step (pB HB.out) hb); clear HO347 HB; have HO347 := n0_; have HO354 := n1_; have HB := n2_; clear n0_ n1_ n2_; (try clear hb); (try clear hb2); (try clear hk); (try clear hi); (try clear ho0); obtain ⟨Ao29, co29, eo29⟩ := Kd.R_slice HO347.out; subst eo29; obtain ⟨Ao30, co30, eo30⟩ := Kd.R_slice HO354.out; subst eo30) | (go_at_call 31; (with_reducible refine (garnerref02_Bytes.calls k1 _ _ t344 _ _ t352 true _ ?side1 ?side2 ?side3 ?side4 A22.out).mono ?_); (case side1 => exact pC (Kd.R_reads' HO347.out).2.2); (case side2 => exact (Kd.R_reads' HO347.out).2.1); (case side3 => exact pC (Kd.R_reads' HO354.out).2.2); (case side4 => exact (Kd.R_reads' HO354.out).2.1); rintro e w' ⟨rfl, ⟨nd, rfl⟩⟩) | (go_at_call 49; (with_reducible refine (garnerlaw06_awake.calls k1  t356 _ A24.out).mono ?_); rintro e w31 ⟨rfl, hb⟩; have n0_ := Aside0.mk (Kd.R_below (pR HO347.out) hb); have n1_ := Aside0.mk (Kd.R_below (pR HO354.out) hb); have n2_ := Aside0.mk (below_step (pB HB.out) hb); clear HO347 HO354 HB; have HO347 := n0_; have HO354 := n1_; have HB := n2_; clear n0_ n1_ n2_; (try clear hb); (try clear hb2); (try clear hk); (try clear hi)))
         go_ret
         exact ⟨by first | rfl | (simp [errW_none, errW_some] <;> rfl) | (simp [*, errW_none, errW_some] <;> rfl), by repeat (first | (with_reducible first | exact HB.out | apply below_alloc | apply pw_below_drewN | apply below_drew1) | exact HB.out)⟩
        ·replace c23 := Bool.eq_false_iff.mpr c23
         subst c23
         have H1 : (some false) = some r := by rw [if_neg (show ¬ (false = true) by decide)] at H; exact H
         clear H
         have H := H1
         clear H1
         obtain rfl := Option.some.inj H
         go_wp2_with (first | ((with_reducible refine gate_callee (f := 52) rfl ?_); refine goesL_ (some 30) rfl rfl Try.func52 (by kernel_rfl) rfl #[.slice A0 l0.length c0] rfl pL ?_; (with_reducible refine (entry_Put.calls k1 _ _ l0 t344 t345 _ ?side1 ?side2 A15.out).mono ?_); (case side1 => exact pC (Kd.C_below HR0.out HB.out)); (case side2 => exact HC0.out); rintro e w32 ⟨v346, rfl, ho0, hb⟩; refine ⟨_, rfl, ?_⟩; have n0_ := Aside0.mk (Kd.R_lower ho0 (below_size (pB HB.out))); have n1_ := Aside0.mk (below_step (pB HB.out) hb); clear HB; have HO347 := n0_; have HB := n1_; clear n0_ n1_; (try clear hb); (try clear hb2); (try clear hk); (try clear hi); (try clear ho0)) | ((with_reducible refine gate_callee (f := 53) rfl ?_); refine goesL_ (some 34) rfl rfl Try.func53 (by kernel_rfl) rfl #[.slice A0 l0.length c0] rfl pL ?_; (with_reducible refine (garnerref06_Batch.calls k1 _ _ l0 true _ ?side1 ?side2 A16.out).mono ?_); (case side1 => exact pC (Kd.C_below HR0.out HB.out)); (case side2 => exact HC0.out); rintro e w33 ⟨rfl, hb⟩; refine ⟨_, rfl, ?_⟩; have n0_ := Aside0.mk (Kd.R_below (pR HO347.out) hb); have n1_ := Aside0.mk (below_step (pB HB.out) hb); clear HO347 HB; have HO347 := n0_; have HB := n1_; clear n0_ n1_; (try clear hb); (try clear hb2); (try clear hk); (try clear hi)) | ((with_reducible refine gate_callee (f := 54) rfl ?_); refine goesL_ (some 52) rfl rfl Try.func54 (by kernel_rfl) rfl #[.slice A0 l0.length c0] rfl pL ?_; (with_reducible refine (entry_Batch.calls k1 _ _ l0 t351 _ ?side1 ?side2 A18.out).mono ?_); (case side1 => exact pC (Kd.C_below HR0.out HB.out)); (case side2 => exact HC0.out); rintro e w34 ⟨rfl, hb⟩; refine ⟨_, rfl, ?_⟩; have n0_ := Aside0.mk (Kd.R_below (pR HO347.out) hb); have n1_ := Aside0.mk (below_step (pB HB.out) hb); clear HO347 HB; have HO347 := n0_; have HB := n1_; clear n0_ n1_; (try clear hb); (try clear hb2); (try clear hk); (try clear hi)) | (go_at_call 55; (with_reducible refine (garnerref06_Put.calls k1 _ _ l0 t352 _ ?side1 ?side2 A21.out).mono ?_); (case side1 => exact pC (Kd.C_below HR0.out HB.out)); (case side2 => exact HC0.out); rintro e w35 ⟨v353, rfl, ho0, hb⟩; have n0_ := Aside0.mk (Kd.R_elder' (pR HO347.out) (Kd.R_base ho0) hb); have n1_ := Aside0.mk (Kd.R_lower (Kd.R_new' ho0 (Kd.R_lt (pR HO347.out))) (below_size (pB HB.out))); have n2_ := Aside0.mk (below_step (pB HB.out) hb); clear HO347 HB; have HO347 := n0_; have HO354 := n1_; have HB := n2_; clear n0_ n1_ n2_; (try clear hb); (try clear hb2); (try clear hk); (try clear hi); (try clear ho0); obtain ⟨Ao36, co36, eo36⟩ := Kd.R_slice HO347.out; subst eo36; obtain ⟨Ao37, co37, eo37⟩ := Kd.R_slice HO354.out; subst eo37) | (go_at_call 31; (with_reducible refine (garnerref02_Bytes.calls k1 _ _ t344 _ _ t352 false _ ?side1 ?side2 ?side3 ?side4 A22.out).mono ?_); (case side1 => exact pC (Kd.R_reads' HO347.out).2.2); (case side2 => exact (Kd.R_reads' HO347.out).2.1); (case side3 => exact pC (Kd.R_reads' HO354.out).2.2); (case side4 => exact (Kd.R_reads' HO354.out).2.1); rintro e w' ⟨rfl, ⟨nd, rfl⟩⟩))
         go_ret
         exact ⟨by first | rfl | (simp [errW_none, errW_some] <;> rfl) | (simp [*, errW_none, errW_some] <;> rfl), by repeat (first | (with_reducible first | exact HB.out | apply below_alloc | apply pw_below_drewN | apply below_drew1) | exact HB.out)⟩
       ·rw [if_neg c20] at H
        have c20b0 : (t345 == 0) = false := beq_eq_false_iff_ne.mpr c20
        have c20b1 : (t345 != 0) = true := bne_iff_ne.mpr c20
        obtain rfl := Option.some.inj H
        go_wp2_with (first | ((with_reducible refine gate_callee (f := 52) rfl ?_); refine goesL_ (some 30) rfl rfl Try.func52 (by kernel_rfl) rfl #[.slice A0 l0.length c0] rfl pL ?_; (with_reducible refine (entry_Put.calls k1 _ _ l0 t344 t345 _ ?side1 ?side2 A15.out).mono ?_); (case side1 => exact pC (Kd.C_below HR0.out HB.out)); (case side2 => exact HC0.out); rintro e w38 ⟨v346, rfl, ho0, hb⟩; refine ⟨_, rfl, ?_⟩; have n0_ := Aside0.mk (Kd.R_lower ho0 (below_size (pB HB.out))); have n1_ := Aside0.mk (below_step (pB HB.out) hb); clear HB; have HO347 := n0_; have HB := n1_; clear n0_ n1_; (try clear hb); (try clear hb2); (try clear hk); (try clear hi); (try clear ho0)) | ((with_reducible refine gate_callee (f := 53) rfl ?_); refine goesL_ (some 34) rfl rfl Try.func53 (by kernel_rfl) rfl #[.slice A0 l0.length c0] rfl pL ?_; (with_reducible refine (garnerref06_Batch.calls k1 _ _ l0 true _ ?side1 ?side2 A16.out).mono ?_); (case side1 => exact pC (Kd.C_below HR0.out HB.out)); (case side2 => exact HC0.out); rintro e w39 ⟨rfl, hb⟩; refine ⟨_, rfl, ?_⟩; have n0_ := Aside0.mk (Kd.R_below (pR HO347.out) hb); have n1_ := Aside0.mk (below_step (pB HB.out) hb); clear HO347 HB; have HO347 := n0_; have HB := n1_; clear n0_ n1_; (try clear hb); (try clear hb2); (try clear hk); (try clear hi)) | ((with_reducible refine gate_callee (f := 54) rfl ?_); refine goesL_ (some 52) rfl rfl Try.func54 (by kernel_rfl) rfl #[.slice A0 l0.length c0] rfl pL ?_; (with_reducible refine (entry_Batch.calls k1 _ _ l0 t351 _ ?side1 ?side2 A18.out).mono ?_); (case side1 => exact pC (Kd.C_below HR0.out HB.out)); (case side2 => exact HC0.out); rintro e w40 ⟨rfl, hb⟩; refine ⟨_, rfl, ?_⟩; have n0_ := Aside0.mk (Kd.R_below (pR HO347.out) hb); have n1_ := Aside0.mk (below_step (pB HB.out) hb); clear HO347 HB; have HO347 := n0_; have HB := n1_; clear n0_ n1_; (try clear hb); (try clear hb2); (try clear hk); (try clear hi)))
        go_ret
        exact ⟨by first | rfl | (simp [errW_none, errW_some] <;> rfl) | (simp [*, errW_none, errW_some] <;> rfl), by repeat (first | (with_reducible first | exact HB.out | apply below_alloc | apply pw_below_drewN | apply below_drew1) | exact HB.out)⟩
      ·rw [if_neg c19] at H
       have c19b0 : (t351 == 0) = false := beq_eq_false_iff_ne.mpr c19
       have c19b1 : (t351 != 0) = true := bne_iff_ne.mpr c19
       obtain rfl := Option.some.inj H
       go_wp2_with (first | ((with_reducible refine gate_callee (f := 52) rfl ?_); refine goesL_ (some 30) rfl rfl Try.func52 (by kernel_rfl) rfl #[.slice A0 l0.length c0] rfl pL ?_; (with_reducible refine (entry_Put.calls k1 _ _ l0 t344 t345 _ ?side1 ?side2 A15.out).mono ?_); (case side1 => exact pC (Kd.C_below HR0.out HB.out)); (case side2 => exact HC0.out); rintro e w41 ⟨v346, rfl, ho0, hb⟩; refine ⟨_, rfl, ?_⟩; have n0_ := Aside0.mk (Kd.R_lower ho0 (below_size (pB HB.out))); have n1_ := Aside0.mk (below_step (pB HB.out) hb); clear HB; have HO347 := n0_; have HB := n1_; clear n0_ n1_; (try clear hb); (try clear hb2); (try clear hk); (try clear hi); (try clear ho0)) | ((with_reducible refine gate_callee (f := 53) rfl ?_); refine goesL_ (some 34) rfl rfl Try.func53 (by kernel_rfl) rfl #[.slice A0 l0.length c0] rfl pL ?_; (with_reducible refine (garnerref06_Batch.calls k1 _ _ l0 true _ ?side1 ?side2 A16.out).mono ?_); (case side1 => exact pC (Kd.C_below HR0.out HB.out)); (case side2 => exact HC0.out); rintro e w42 ⟨rfl, hb⟩; refine ⟨_, rfl, ?_⟩; have n0_ := Aside0.mk (Kd.R_below (pR HO347.out) hb); have n1_ := Aside0.mk (below_step (pB HB.out) hb); clear HO347 HB; have HO347 := n0_; have HB := n1_; clear n0_ n1_; (try clear hb); (try clear hb2); (try clear hk); (try clear hi)) | ((with_reducible refine gate_callee (f := 54) rfl ?_); refine goesL_ (some 52) rfl rfl Try.func54 (by kernel_rfl) rfl #[.slice A0 l0.length c0] rfl pL ?_; (with_reducible refine (entry_Batch.calls k1 _ _ l0 t351 _ ?side1 ?side2 A18.out).mono ?_); (case side1 => exact pC (Kd.C_below HR0.out HB.out)); (case side2 => exact HC0.out); rintro e w43 ⟨rfl, hb⟩; refine ⟨_, rfl, ?_⟩; have n0_ := Aside0.mk (Kd.R_below (pR HO347.out) hb); have n1_ := Aside0.mk (below_step (pB HB.out) hb); clear HO347 HB; have HO347 := n0_; have HB := n1_; clear n0_ n1_; (try clear hb); (try clear hb2); (try clear hk); (try clear hi)))
       go_ret
       exact ⟨by first | rfl | (simp [errW_none, errW_some] <;> rfl) | (simp [*, errW_none, errW_some] <;> rfl), by repeat (first | (with_reducible first | exact HB.out | apply below_alloc | apply pw_below_drewN | apply below_drew1) | exact HB.out)⟩
     ·replace c17 := Bool.eq_false_iff.mpr c17
      subst c17
      have H1 : ((entry_Batch.f k1 l0).bind fun t349 => (if t349 = 1 then (if t345 = 1 then (if (t344.length : Int) = 0 then ((garnerlaw06_awake.f k1).bind fun t350 => (some t350)) else (some false)) else (some false)) else (some false))) = some r := by rw [if_neg (show ¬ (false = true) by decide)] at H; exact H
      clear H
      have H := H1
      clear H1
      replace H := Option.bind_eq_some_iff.mp H
      obtain ⟨t349, A440, H⟩ := H
      replace H : (if t349 = 1 then (if t345 = 1 then (if (t344.length : Int) = 0 then ((garnerlaw06_awake.f k1).bind fun t350 => (some t350)) else (some false)) else (some false)) else (some false)) = some r := H
      have A44 := Aside0.mk A440
      clear A440
      by_cases c45 : t349 = 1
      ·rw [if_pos c45] at H
       have c45b0 : (t349 == 1) = true := beq_iff_eq.mpr c45
       have c45b1 : (t349 != 1) = false := bne_eq_false_iff_eq.mpr c45
       clear c45
       by_cases c46 : t345 = 1
       ·rw [if_pos c46] at H
        have c46b0 : (t345 == 1) = true := beq_iff_eq.mpr c46
        have c46b1 : (t345 != 1) = false := bne_eq_false_iff_eq.mpr c46
        clear c46
        by_cases c47 : (t344.length : Int) = 0
        ·rw [if_pos c47] at H
         have c47b0 : ((t344.length : Int) == 0) = true := beq_iff_eq.mpr c47
         have c47b1 : ((t344.length : Int) != 0) = false := bne_eq_false_iff_eq.mpr c47
         clear c47
         replace H := Option.bind_eq_some_iff.mp H
         obtain ⟨t350, A480, H⟩ := H
         replace H : (some t350) = some r := H
         have A48 := Aside0.mk A480
         clear A480
         obtain rfl := Option.some.inj H
         go_wp2_with (first | ((with_reducible refine gate_callee (f := 52) rfl ?_); refine goesL_ (some 30) rfl rfl Try.func52 (by kernel_rfl) rfl #[.slice A0 l0.length c0] rfl pL ?_; (with_reducible refine (entry_Put.calls k1 _ _ l0 t344 t345 _ ?side1 ?side2 A15.out).mono ?_); (case side1 => exact pC (Kd.C_below HR0.out HB.out)); (case side2 => exact HC0.out); rintro e w49 ⟨v346, rfl, ho0, hb⟩; refine ⟨_, rfl, ?_⟩; have n0_ := Aside0.mk (Kd.R_lower ho0 (below_size (pB HB.out))); have n1_ := Aside0.mk (below_step (pB HB.out) hb); clear HB; have HO347 := n0_; have HB := n1_; clear n0_ n1_; (try clear hb); (try clear hb2); (try clear hk); (try clear hi); (try clear ho0)) | ((with_reducible refine gate_callee (f := 53) rfl ?_); refine goesL_ (some 34) rfl rfl Try.func53 (by kernel_rfl) rfl #[.slice A0 l0.length c0] rfl pL ?_; (with_reducible refine (garnerref06_Batch.calls k1 _ _ l0 false _ ?side1 ?side2 A16.out).mono ?_); (case side1 => exact pC (Kd.C_below HR0.out HB.out)); (case side2 => exact HC0.out); rintro e w50 ⟨rfl, hb⟩; refine ⟨_, rfl, ?_⟩; have n0_ := Aside0.mk (Kd.R_below (pR HO347.out) hb); have n1_ := Aside0.mk (below_step (pB HB.out) hb); clear HO347 HB; have HO347 := n0_; have HB := n1_; clear n0_ n1_; (try clear hb); (try clear hb2); (try clear hk); (try clear hi)) | ((with_reducible refine gate_callee (f := 54) rfl ?_); refine goesL_ (some 37) rfl rfl Try.func54 (by kernel_rfl) rfl #[.slice A0 l0.length c0] rfl pL ?_; (with_reducible refine (entry_Batch.calls k1 _ _ l0 t349 _ ?side1 ?side2 A44.out).mono ?_); (case side1 => exact pC (Kd.C_below HR0.out HB.out)); (case side2 => exact HC0.out); rintro e w51 ⟨rfl, hb⟩; refine ⟨_, rfl, ?_⟩; have n0_ := Aside0.mk (Kd.R_below (pR HO347.out) hb); have n1_ := Aside0.mk (below_step (pB HB.out) hb); clear HO347 HB; have HO347 := n0_; have HB := n1_; clear n0_ n1_; (try clear hb); (try clear hb2); (try clear hk); (try clear hi); obtain ⟨Ao52, co52, eo52⟩ := Kd.R_slice HO347.out; subst eo52) | (go_at_call 49; (with_reducible refine (garnerlaw06_awake.calls k1  t350 _ A48.out).mono ?_); rintro e w53 ⟨rfl, hb⟩; have n0_ := Aside0.mk (Kd.R_below (pR HO347.out) hb); have n1_ := Aside0.mk (below_step (pB HB.out) hb); clear HO347 HB; have HO347 := n0_; have HB := n1_; clear n0_ n1_; (try clear hb); (try clear hb2); (try clear hk); (try clear hi)))
         go_ret
         exact ⟨by first | rfl | (simp [errW_none, errW_some] <;> rfl) | (simp [*, errW_none, errW_some] <;> rfl), by repeat (first | (with_reducible first | exact HB.out | apply below_alloc | apply pw_below_drewN | apply below_drew1) | exact HB.out)⟩
        ·rw [if_neg c47] at H
         have c47b0 : ((t344.length : Int) == 0) = false := beq_eq_false_iff_ne.mpr c47
         have c47b1 : ((t344.length : Int) != 0) = true := bne_iff_ne.mpr c47
         have c47b2 : ¬ (t344 = []) := fun h_ => c47 (by rw [h_]; rfl)
         obtain rfl := Option.some.inj H
         go_wp2_with (first | ((with_reducible refine gate_callee (f := 52) rfl ?_); refine goesL_ (some 30) rfl rfl Try.func52 (by kernel_rfl) rfl #[.slice A0 l0.length c0] rfl pL ?_; (with_reducible refine (entry_Put.calls k1 _ _ l0 t344 t345 _ ?side1 ?side2 A15.out).mono ?_); (case side1 => exact pC (Kd.C_below HR0.out HB.out)); (case side2 => exact HC0.out); rintro e w54 ⟨v346, rfl, ho0, hb⟩; refine ⟨_, rfl, ?_⟩; have n0_ := Aside0.mk (Kd.R_lower ho0 (below_size (pB HB.out))); have n1_ := Aside0.mk (below_step (pB HB.out) hb); clear HB; have HO347 := n0_; have HB := n1_; clear n0_ n1_; (try clear hb); (try clear hb2); (try clear hk); (try clear hi); (try clear ho0)) | ((with_reducible refine gate_callee (f := 53) rfl ?_); refine goesL_ (some 34) rfl rfl Try.func53 (by kernel_rfl) rfl #[.slice A0 l0.length c0] rfl pL ?_; (with_reducible refine (garnerref06_Batch.calls k1 _ _ l0 false _ ?side1 ?side2 A16.out).mono ?_); (case side1 => exact pC (Kd.C_below HR0.out HB.out)); (case side2 => exact HC0.out); rintro e w55 ⟨rfl, hb⟩; refine ⟨_, rfl, ?_⟩; have n0_ := Aside0.mk (Kd.R_below (pR HO347.out) hb); have n1_ := Aside0.mk (below_step (pB HB.out) hb); clear HO347 HB; have HO347 := n0_; have HB := n1_; clear n0_ n1_; (try clear hb); (try clear hb2); (try clear hk); (try clear hi)) | ((with_reducible refine gate_callee (f := 54) rfl ?_); refine goesL_ (some 37) rfl rfl Try.func54 (by kernel_rfl) rfl #[.slice A0 l0.length c0] rfl pL ?_; (with_reducible refine (entry_Batch.calls k1 _ _ l0 t349 _ ?side1 ?side2 A44.out).mono ?_); (case side1 => exact pC (Kd.C_below HR0.out HB.out)); (case side2 => exact HC0.out); rintro e w56 ⟨rfl, hb⟩; refine ⟨_, rfl, ?_⟩; have n0_ := Aside0.mk (Kd.R_below (pR HO347.out) hb); have n1_ := Aside0.mk (below_step (pB HB.out) hb); clear HO347 HB; have HO347 := n0_; have HB := n1_; clear n0_ n1_; (try clear hb); (try clear hb2); (try clear hk); (try clear hi); obtain ⟨Ao57, co57, eo57⟩ := Kd.R_slice HO347.out; subst eo57))
         go_ret
         exact ⟨by first | rfl | (simp [errW_none, errW_some] <;> rfl) | (simp [*, errW_none, errW_some] <;> rfl), by repeat (first | (with_reducible first | exact HB.out | apply below_alloc | apply pw_below_drewN | apply below_drew1) | exact HB.out)⟩
       ·rw [if_neg c46] at H
        have c46b0 : (t345 == 1) = false := beq_eq_false_iff_ne.mpr c46
        have c46b1 : (t345 != 1) = true := bne_iff_ne.mpr c46
        obtain rfl := Option.some.inj H
        go_wp2_with (first | ((with_reducible refine gate_callee (f := 52) rfl ?_); refine goesL_ (some 30) rfl rfl Try.func52 (by kernel_rfl) rfl #[.slice A0 l0.length c0] rfl pL ?_; (with_reducible refine (entry_Put.calls k1 _ _ l0 t344 t345 _ ?side1 ?side2 A15.out).mono ?_); (case side1 => exact pC (Kd.C_below HR0.out HB.out)); (case side2 => exact HC0.out); rintro e w58 ⟨v346, rfl, ho0, hb⟩; refine ⟨_, rfl, ?_⟩; have n0_ := Aside0.mk (Kd.R_lower ho0 (below_size (pB HB.out))); have n1_ := Aside0.mk (below_step (pB HB.out) hb); clear HB; have HO347 := n0_; have HB := n1_; clear n0_ n1_; (try clear hb); (try clear hb2); (try clear hk); (try clear hi); (try clear ho0)) | ((with_reducible refine gate_callee (f := 53) rfl ?_); refine goesL_ (some 34) rfl rfl Try.func53 (by kernel_rfl) rfl #[.slice A0 l0.length c0] rfl pL ?_; (with_reducible refine (garnerref06_Batch.calls k1 _ _ l0 false _ ?side1 ?side2 A16.out).mono ?_); (case side1 => exact pC (Kd.C_below HR0.out HB.out)); (case side2 => exact HC0.out); rintro e w59 ⟨rfl, hb⟩; refine ⟨_, rfl, ?_⟩; have n0_ := Aside0.mk (Kd.R_below (pR HO347.out) hb); have n1_ := Aside0.mk (below_step (pB HB.out) hb); clear HO347 HB; have HO347 := n0_; have HB := n1_; clear n0_ n1_; (try clear hb); (try clear hb2); (try clear hk); (try clear hi)) | ((with_reducible refine gate_callee (f := 54) rfl ?_); refine goesL_ (some 37) rfl rfl Try.func54 (by kernel_rfl) rfl #[.slice A0 l0.length c0] rfl pL ?_; (with_reducible refine (entry_Batch.calls k1 _ _ l0 t349 _ ?side1 ?side2 A44.out).mono ?_); (case side1 => exact pC (Kd.C_below HR0.out HB.out)); (case side2 => exact HC0.out); rintro e w60 ⟨rfl, hb⟩; refine ⟨_, rfl, ?_⟩; have n0_ := Aside0.mk (Kd.R_below (pR HO347.out) hb); have n1_ := Aside0.mk (below_step (pB HB.out) hb); clear HO347 HB; have HO347 := n0_; have HB := n1_; clear n0_ n1_; (try clear hb); (try clear hb2); (try clear hk); (try clear hi)))
        go_ret
        exact ⟨by first | rfl | (simp [errW_none, errW_some] <;> rfl) | (simp [*, errW_none, errW_some] <;> rfl), by repeat (first | (with_reducible first | exact HB.out | apply below_alloc | apply pw_below_drewN | apply below_drew1) | exact HB.out)⟩
      ·rw [if_neg c45] at H
       have c45b0 : (t349 == 1) = false := beq_eq_false_iff_ne.mpr c45
       have c45b1 : (t349 != 1) = true := bne_iff_ne.mpr c45
       obtain rfl := Option.some.inj H
       go_wp2_with (first | ((with_reducible refine gate_callee (f := 52) rfl ?_); refine goesL_ (some 30) rfl rfl Try.func52 (by kernel_rfl) rfl #[.slice A0 l0.length c0] rfl pL ?_; (with_reducible refine (entry_Put.calls k1 _ _ l0 t344 t345 _ ?side1 ?side2 A15.out).mono ?_); (case side1 => exact pC (Kd.C_below HR0.out HB.out)); (case side2 => exact HC0.out); rintro e w61 ⟨v346, rfl, ho0, hb⟩; refine ⟨_, rfl, ?_⟩; have n0_ := Aside0.mk (Kd.R_lower ho0 (below_size (pB HB.out))); have n1_ := Aside0.mk (below_step (pB HB.out) hb); clear HB; have HO347 := n0_; have HB := n1_; clear n0_ n1_; (try clear hb); (try clear hb2); (try clear hk); (try clear hi); (try clear ho0)) | ((with_reducible refine gate_callee (f := 53) rfl ?_); refine goesL_ (some 34) rfl rfl Try.func53 (by kernel_rfl) rfl #[.slice A0 l0.length c0] rfl pL ?_; (with_reducible refine (garnerref06_Batch.calls k1 _ _ l0 false _ ?side1 ?side2 A16.out).mono ?_); (case side1 => exact pC (Kd.C_below HR0.out HB.out)); (case side2 => exact HC0.out); rintro e w62 ⟨rfl, hb⟩; refine ⟨_, rfl, ?_⟩; have n0_ := Aside0.mk (Kd.R_below (pR HO347.out) hb); have n1_ := Aside0.mk (below_step (pB HB.out) hb); clear HO347 HB; have HO347 := n0_; have HB := n1_; clear n0_ n1_; (try clear hb); (try clear hb2); (try clear hk); (try clear hi)) | ((with_reducible refine gate_callee (f := 54) rfl ?_); refine goesL_ (some 37) rfl rfl Try.func54 (by kernel_rfl) rfl #[.slice A0 l0.length c0] rfl pL ?_; (with_reducible refine (entry_Batch.calls k1 _ _ l0 t349 _ ?side1 ?side2 A44.out).mono ?_); (case side1 => exact pC (Kd.C_below HR0.out HB.out)); (case side2 => exact HC0.out); rintro e w63 ⟨rfl, hb⟩; refine ⟨_, rfl, ?_⟩; have n0_ := Aside0.mk (Kd.R_below (pR HO347.out) hb); have n1_ := Aside0.mk (below_step (pB HB.out) hb); clear HO347 HB; have HO347 := n0_; have HB := n1_; clear n0_ n1_; (try clear hb); (try clear hb2); (try clear hk); (try clear hi)))
       go_ret
       exact ⟨by first | rfl | (simp [errW_none, errW_some] <;> rfl) | (simp [*, errW_none, errW_some] <;> rfl), by repeat (first | (with_reducible first | exact HB.out | apply below_alloc | apply pw_below_drewN | apply below_drew1) | exact HB.out)⟩
 ·replace c3 := Bool.eq_false_iff.mpr c3
  subst c3
  have H1 : ((garnerlaw06_awake.f k).bind fun t339 => (some t339)) = some r := by rw [if_neg (show ¬ (false = true) by decide)] at H; exact H
  clear H
  have H := H1
  clear H1
  replace H := Option.bind_eq_some_iff.mp H
  obtain ⟨t339, A640, H⟩ := H
  replace H : (some t339) = some r := H
  have A64 := Aside0.mk A640
  clear A640
  obtain rfl := Option.some.inj H
  go_enter Try.func11, Try.ntmps11
  go_wp2_with (first | ((with_reducible refine gate_callee (f := 48) rfl ?_); refine goesL_ (some 7) rfl rfl Try.func48 (by kernel_rfl) rfl #[.slice A0 l0.length c0] rfl pL ?_; (with_reducible refine (garnerlaw06_Light.calls k _ _ l0 false _ ?side1 ?side2 A2.out).mono ?_); (case side1 => repeat (first | exact HR0.out | (with_reducible refine Kd.C_alloc ?_ _) | (with_reducible refine Kd.C_drewN ?_ _) | (with_reducible refine Kd.C_drew ?_))); (case side2 => exact HC0.out); rintro e w' ⟨rfl, ⟨nd, rfl⟩⟩; refine ⟨_, rfl, ?_⟩) | ((with_reducible refine gate_callee (f := 49) rfl ?_); refine goesL_ (some 9) rfl rfl Try.func49 (by kernel_rfl) rfl #[] rfl pL ?_; (with_reducible refine (garnerlaw06_awake.calls k  t339 _ A64.out).mono ?_); rintro e w65 ⟨rfl, hb⟩; refine ⟨_, rfl, ?_⟩; have n0_ := Aside0.mk (below_step (pB HB.out) hb); clear HB; have HB := n0_; clear n0_; (try clear hb); (try clear hb2); (try clear hk); (try clear hi)))
  go_ret
  exact ⟨by first | rfl | (simp [errW_none, errW_some] <;> rfl) | (simp [*, errW_none, errW_some] <;> rfl), by repeat (first | (with_reducible first | exact HB.out | apply below_alloc | apply pw_below_drewN | apply below_drew1) | exact HB.out)⟩

end Go.Proofs.Ytohocfimdpneoaa.PEntryPuts
