/- Written by a program of this work (wip/tools/patch_print.py: the kit's print with changes of ours): the functions that the law reaches as plain Lean functions, and that the machine's calls answer just that. -/
import Derived.Test.YtohocfimdpneoaaPEntryPutsx0
import Derived.Test.YtohocfimdpneoaaPEntryPutsx8
import Derived.Test.YtohocfimdpneoaaPEntryPutsx9
namespace Go.Proofs.Ytohocfimdpneoaa.PEntryPuts
open Go.RowKit Go.Proofs.YtohocfimdpneoaaW.PrintWords Go.Proofs.YtohocfimdpneoaaW.PrintLast Go.Proofs.YtohocfimdpneoaaW.PrintMore
attribute [local go_sem] max2_int min2_int max_two min_two max_three min_three max_four min_four   -- for this text's walks alone
set_option linter.unusedVariables false
set_option linter.unusedSimpArgs false

attribute [local go_sem] wrap64_l1 wrap64_l2 wrap64_l3 wrap64_l4 wrap64_l5
/-! ### garnerref06_Put: function 55 -/
def garnerref06_Put.l0 : Nat → List (S78) → List Int → Int → Option (List Int)
 | 0, _, _, _ => none
 | k + 1, x0, x3, x4 => if x4 < (x0.length : Int) then (if 0 ≤ x4 then ((garnerref02_One.f k (IntKind.u64.wrap ((rd_T78 x0 x4).f1))).bind fun t314 => (if x3.length + t314.length < 140737488355328 then ((some (x3 ++ t314 : List Int)).bind fun y317 => (if y317.length < 140737488355328 then ((some (y317 ++ [((rd_T78 x0 x4).f2) % 256] : List Int)).bind fun y320 => ((garnerref02_One.f k (IntKind.u64.wrap ((((rd_T78 x0 x4).f3).size : Int)))).bind fun t323 => (if y320.length + t323.length < 140737488355328 then ((some (y320 ++ t323 : List Int)).bind fun y326 => (if y326.length + ((rd_T78 x0 x4).f3).size < 140737488355328 then ((some (y326 ++ bytesOf ((rd_T78 x0 x4).f3) : List Int)).bind fun y329 => (if ((rd_T78 x0 x4).f2) = 2 then (garnerref06_Put.l0 k x0 y329 (wrap64 (x4 + 1))) else ((garnerref05_Put.f k ((rd_T78 x0 x4).f4.f0) ((rd_T78 x0 x4).f4.f1) ((rd_T78 x0 x4).f4.f2.f0) ((rd_T78 x0 x4).f4.f2.f1) ((rd_T78 x0 x4).f4.f2.f2) ((rd_T78 x0 x4).f4.f2.f3)).bind fun t332 => (if y329.length + t332.length < 140737488355328 then (garnerref06_Put.l0 k x0 (y329 ++ t332) (wrap64 (x4 + 1))) else (none))))) else (none))) else (none)))) else (none))) else (none))) else (none)) else (some x3)
def garnerref06_Put.f (k : Nat) (l0 : List (S78)) : Option (List Int) := if 0 < (l0.length : Int) then ((garnerref02_Put.f k (([IntKind.u64.wrap ((l0.length : Int)), IntKind.u64.wrap ((rd_T78 l0 0).f0)] : List Int))).bind fun t309 => (garnerref06_Put.l0 k l0 t309 0)) else (none)
theorem garnerref06_Put.mono_l : ∀ k, (∀ y0 y1 y2, LeO (garnerref06_Put.l0 k y0 y1 y2) (garnerref06_Put.l0 (k + 1) y0 y1 y2))
 | 0 => fun _ _ _ r h => by simp [garnerref06_Put.l0] at h
 | k + 1 => by
  have ih0 := garnerref06_Put.mono_l k
  ·intro y0 y1 y2
   unfold garnerref06_Put.l0
   repeat' first
   | (with_reducible exact ih0 _ _ _)
   | (with_reducible exact garnerref02_One.mono _ _)
   | (with_reducible exact garnerref02_Put.mono _ _)
   | (with_reducible exact garnerref05_Put.mono _ _ _ _ _ _ _)
   | (with_reducible exact LeO.refl _)
   | (with_reducible exact LeO.none _)
   | (with_reducible refine LeO.ite ?_ ?_)
   | (with_reducible refine LeO.bind ?_ (fun _ => ?_))
   | exact ih0 _ _ _
   | exact garnerref02_One.mono _ _
   | exact garnerref02_Put.mono _ _
   | exact garnerref05_Put.mono _ _ _ _ _ _ _
   | exact LeO.none _
   | refine LeO.ite ?_ ?_
   | refine LeO.bind ?_ (fun _ => ?_)
theorem garnerref06_Put.mono : ∀ a0 k, LeO (garnerref06_Put.f k a0) (garnerref06_Put.f (k + 1) a0) := by
 intro a0 k
 have ih0 := garnerref06_Put.mono_l k
 unfold garnerref06_Put.f
 repeat' first
   | (with_reducible exact ih0 _ _ _)
   | (with_reducible exact garnerref02_One.mono _ _)
   | (with_reducible exact garnerref02_Put.mono _ _)
   | (with_reducible exact garnerref05_Put.mono _ _ _ _ _ _ _)
   | (with_reducible exact LeO.refl _)
   | (with_reducible exact LeO.none _)
   | (with_reducible refine LeO.ite ?_ ?_)
   | (with_reducible refine LeO.bind ?_ (fun _ => ?_))
   | exact ih0 _ _ _
   | exact garnerref02_One.mono _ _
   | exact garnerref02_Put.mono _ _
   | exact garnerref05_Put.mono _ _ _ _ _ _ _
   | exact LeO.none _
   | refine LeO.ite ?_ ?_
   | refine LeO.bind ?_ (fun _ => ?_)
def garnerref06_Put.T7 : Bool × List (List Nat × List Nat) := (true, [([], []), ([], []), ([1], [1]), ([2], [2]), ([3], [3]), ([0, 4], [0, 4]), ([], []), ([6], [6]), ([7], [7]), ([8], [8]), ([9, 5], [9]), ([5, 10, 10], [5, 10]), ([11, 11, 0, 1, 2, 3, 4, 5, 6, 7, 8, 9, 10, 11], [0, 11])])
def garnerref06_Put.B7 : List Nat := [0, 0, 2, 6, 14, 31, 0, 64, 192, 448, 1023, 2047, 4095]
theorem garnerref06_Put.tab7 : rtab .any (opsOf Try.f55 7) = garnerref06_Put.T7 := by kernel_rfl
theorem garnerref06_Put.bits7 : waitsOk garnerref06_Put.T7.2 garnerref06_Put.B7 = true := by kernel_rfl
set_option maxHeartbeats 8000000 in
set_option maxRecDepth 100000 in
theorem garnerref06_Put.calls (k : Nat) (A0 : Option Addr) (c0 : Nat) (l0 : List (S78)) (r : List Int) (w : World) (hr0 : Kd.C k78 w A0 l0.length l0) (hc0 : l0.length ≤ c0) (h : garnerref06_Put.f k l0 = some r) :
  Calls Try.prog 55 #[.slice A0 l0.length c0] w fun e w' => ∃ v0_ : Value, e = .returned (v0_) ∧ Kd.R (Kd.int .u8) 5 w' w.heap.size (fun _ => True) v0_ r ∧ Below w.heap.size w w' := by
 have hu78 := Try.underlying78
 have hu76 := Try.underlying76
 have HR0 := Aside0.mk hr0
 have HC0 := Aside0.mk hc0
 clear hr0 hc0
 have HB := Aside0.mk (Below.refl w.heap.size w)
 have H : (if 0 < (l0.length : Int) then ((garnerref02_Put.f k (([IntKind.u64.wrap ((l0.length : Int)), IntKind.u64.wrap ((rd_T78 l0 0).f0)] : List Int))).bind fun t309 => (garnerref06_Put.l0 k l0 t309 0)) else (none)) = some r := h
 clear h
 by_cases c2 : 0 < (l0.length : Int)
 ·rw [if_pos c2] at H
  have c2b0 : decide (0 < (l0.length : Int)) = true := decide_eq_true c2
  have c2b1 : decide (0 < l0.length) = true := decide_eq_true (by omega)
  clear c2
  obtain ⟨y306, hy306⟩ : ∃ y_ : List Int, y_ = (([IntKind.u64.wrap ((l0.length : Int)), IntKind.u64.wrap ((rd_T78 l0 0).f0)] : List Int)) := ⟨_, rfl⟩
  replace H : ((garnerref02_Put.f k y306).bind fun t309 => (garnerref06_Put.l0 k l0 t309 0)) = some r := by first | (rw [hy306]; with_reducible exact H) | (have H2_ := (Option.bind_some _ _).symm.trans H; rw [hy306]; with_reducible exact H2_) | (have H2_ := (Option.bind_some _ _).symm.trans H; with_reducible exact H2_) | with_reducible exact H | (rw [hy306]; exact H) | exact H
  have Ny306 := Aside0.mk hy306
  clear hy306
  replace H := Option.bind_eq_some_iff.mp H
  obtain ⟨t309, A30, H⟩ := H
  replace H : (garnerref06_Put.l0 k l0 t309 0) = some r := H
  have A3 := Aside0.mk A30
  clear A30
  have H' := Aside0.mk H
  clear H
  have p305 : 0 ≤ (0 : Int) := (by omega)
  have q305 : 0 < (l0.length : Int) := of_decide_eq_true pS
  obtain ⟨ad305, A305_5, c305_5, e305, hx305_0, hx305_1, hx305_2, hx305_3, hx305_4, hx305_5, hx305_6, hx305_7, hx305_8, hx305_9, hl305_5, hi305_5⟩ := at_T78 HR0.out 0 p305 q305
  cases e305
  have qi305 : (0 < l0.length) = True := eq_true (by omega)
  (try rw [show ((0 : Int)).toNat = 0 from rfl] at hx305_0)
  (try rw [show 0 * 10 = 0 from rfl] at hx305_0)
  (try rw [Addr.add_zero'] at hx305_0)
  (try rw [show ((0 : Int)).toNat = 0 from rfl] at hx305_1)
  (try rw [show 0 * 10 = 0 from rfl] at hx305_1)
  (try rw [Addr.add_zero'] at hx305_1)
  (try rw [show ((0 : Int)).toNat = 0 from rfl] at hx305_2)
  (try rw [show 0 * 10 = 0 from rfl] at hx305_2)
  (try rw [Addr.add_zero'] at hx305_2)
  (try rw [show ((0 : Int)).toNat = 0 from rfl] at hx305_3)
  (try rw [show 0 * 10 = 0 from rfl] at hx305_3)
  (try rw [Addr.add_zero'] at hx305_3)
  (try rw [show ((0 : Int)).toNat = 0 from rfl] at hx305_4)
  (try rw [show 0 * 10 = 0 from rfl] at hx305_4)
  (try rw [Addr.add_zero'] at hx305_4)
  (try rw [show ((0 : Int)).toNat = 0 from rfl] at hx305_5)
  (try rw [show 0 * 10 = 0 from rfl] at hx305_5)
  (try rw [Addr.add_zero'] at hx305_5)
  (try rw [show ((0 : Int)).toNat = 0 from rfl] at hx305_6)
  (try rw [show 0 * 10 = 0 from rfl] at hx305_6)
  (try rw [Addr.add_zero'] at hx305_6)
  (try rw [show ((0 : Int)).toNat = 0 from rfl] at hx305_7)
  (try rw [show 0 * 10 = 0 from rfl] at hx305_7)
  (try rw [Addr.add_zero'] at hx305_7)
  (try rw [show ((0 : Int)).toNat = 0 from rfl] at hx305_8)
  (try rw [show 0 * 10 = 0 from rfl] at hx305_8)
  (try rw [Addr.add_zero'] at hx305_8)
  (try rw [show ((0 : Int)).toNat = 0 from rfl] at hx305_9)
  (try rw [show 0 * 10 = 0 from rfl] at hx305_9)
  (try rw [Addr.add_zero'] at hx305_9)
  have HR305_5 := Aside0.mk hi305_5
  have HC305_5 := Aside0.mk hl305_5
  clear hi305_5 hl305_5
  replace p305 := eq_true p305
  replace q305 := eq_true q305
  go_enter Try.func55, Try.ntmps55
  go_wp2_with (first | ((with_reducible refine gate_dst (N := 14) rfl ?_); refine Kd.R_lit (Kd.int .u64) _ 43 ?hg (N := 14) ?hd (xs := ([IntKind.u64.wrap ((l0.length : Int)), IntKind.u64.wrap ((rd_T78 l0 0).f0)] : List Int)) (inner := [.int .u64 (IntKind.u64.wrap ((l0.length : Int))), .int .u64 (IntKind.u64.wrap ((rd_T78 l0 0).f0))]) (ok := fun _ => True) (okp := fun _ => True) ?hr ?hp (fun _ hk => hk) trivial (Below.refl _ _) (Nat.le_refl _) (by simp) ?_; (case hd => rfl); (case hg => rfl); (case hr => first | (go_simp; done) | (go_simp; rfl)); (case hp => exact (Reps.one (show Kd.M (Kd.int .u64) _ _ _ (IntKind.u64.wrap ((l0.length : Int))) [.int .u64 (IntKind.u64.wrap ((l0.length : Int)))] from rfl) (Reps.one (show Kd.M (Kd.int .u64) _ _ _ (IntKind.u64.wrap ((rd_T78 l0 0).f0)) [.int .u64 (IntKind.u64.wrap ((rd_T78 l0 0).f0))] from rfl) (Reps.none _ _)))); intro v307 w4 ho5 hb hg_ hnew_; clear hg_ hnew_; (first | rw [← Ny306.out] at ho5 | (simp only [Int.reduceToNat] at ho5; rw [← Ny306.out] at ho5)); have n0_ := Aside0.mk (Kd.R_lower ho5 (below_size (pB HB.out))); have n1_ := Aside0.mk (below_step (pB HB.out) hb); clear HB; have HO308 := n0_; have HB := n1_; clear n0_ n1_ hb ho5; obtain ⟨Ao6, co6, eo6⟩ := Kd.R_slice HO308.out; subst eo6) | ((with_reducible refine gate_callee (f := 91) rfl ?_); refine goesL_ (some 15) rfl rfl Try.func91 (by kernel_rfl) rfl #[.slice Ao6 y306.length co6] rfl pL ?_; (with_reducible refine (garnerref02_Put.calls k _ _ y306 t309 _ ?side1 ?side2 A3.out).mono ?_); (case side1 => exact pC (Kd.R_reads' HO308.out).2.2); (case side2 => exact (Kd.R_reads' HO308.out).2.1); rintro e w7 ⟨v310, rfl, ho0, hb⟩; refine ⟨_, rfl, ?_⟩; have n0_ := Aside0.mk (Kd.R_below (pR HO308.out) hb); have n1_ := Aside0.mk (Kd.R_lower ho0 (below_size (pB HB.out))); have n2_ := Aside0.mk (below_step (pB HB.out) hb); clear HO308 HB; have HO308 := n0_; have HO311 := n1_; have HB := n2_; clear n0_ n1_ n2_; (try clear hb); (try clear hb2); (try clear hk); (try clear hi); (try clear ho0)))
  go_loopg [3, 4] k (fun kq v3 v4 w' => ∃ (x3_1 : List Int) (x4_1 : Int), v4 = .int .i64 x4_1 ∧ Aside0 (garnerref06_Put.l0 kq l0 x3_1 x4_1 = some r) ∧ Aside0 (kq ≤ k) ∧ Aside0 (Kd.R (Kd.int .u8) 5 w' w.heap.size (fun _ => True) v3 x3_1) ∧ Aside0 (Below w.heap.size w w'))
  case atStart => exact ⟨(t309), (0), (by first | rfl | (simp; done) | (simp [*]; done)), H', ⟨Nat.le_refl _⟩, ⟨by (with_reducible repeat (first | apply Kd.R_alloc | apply Kd.R_drewN | apply Kd.R_drew)); exact HO311.out⟩, ⟨by repeat (first | (with_reducible first | exact HB.out | apply below_alloc | apply pw_below_drewN | apply below_drew1) | exact HB.out)⟩⟩
  case round =>
   clear H'
   try clear c2
   try clear c2b0
   try clear c2b1
   try clear p2
   try clear c3
   try clear p3
   try clear q3
   try clear hx3
   try clear qi3
   try clear c5
   try clear hx305_0
   try clear hx305_1
   try clear hx305_2
   try clear hx305_3
   try clear hx305_4
   try clear hx305_5
   try clear hx305_6
   try clear hx305_7
   try clear hx305_8
   try clear hx305_9
   try clear p305
   try clear q305
   obtain ⟨x3_1, x4_1, rfl, HA, HK1, HO_3, HB⟩ := hrel
   cases gk with
   | zero => exact absurd HA.out (by simp [garnerref06_Put.l0])
   | succ k1 =>
    have H := HA.out
    clear HA
    simp only [garnerref06_Put.l0] at H
    by_cases c8 : x4_1 < (l0.length : Int)
    ·rw [if_pos c8] at H
     have c8b0 : decide (x4_1 < (l0.length : Int)) = true := decide_eq_true c8
     clear c8
     by_cases c9 : 0 ≤ x4_1
     ·rw [if_pos c9] at H
      have c9b0 : decide (0 ≤ x4_1) = true := decide_eq_true c9
      clear c9
      replace H := Option.bind_eq_some_iff.mp H
      obtain ⟨t314, A100, H⟩ := H
      replace H : (if x3_1.length + t314.length < 140737488355328 then ((some (x3_1 ++ t314 : List Int)).bind fun y317 => (if y317.length < 140737488355328 then ((some (y317 ++ [((rd_T78 l0 x4_1).f2) % 256] : List Int)).bind fun y320 => ((garnerref02_One.f k1 (IntKind.u64.wrap ((((rd_T78 l0 x4_1).f3).size : Int)))).bind fun t323 => (if y320.length + t323.length < 140737488355328 then ((some (y320 ++ t323 : List Int)).bind fun y326 => (if y326.length + ((rd_T78 l0 x4_1).f3).size < 140737488355328 then ((some (y326 ++ bytesOf ((rd_T78 l0 x4_1).f3) : List Int)).bind fun y329 => (if ((rd_T78 l0 x4_1).f2) = 2 then (garnerref06_Put.l0 k1 l0 y329 (wrap64 (x4_1 + 1))) else ((garnerref05_Put.f k1 ((rd_T78 l0 x4_1).f4.f0) ((rd_T78 l0 x4_1).f4.f1) ((rd_T78 l0 x4_1).f4.f2.f0) ((rd_T78 l0 x4_1).f4.f2.f1) ((rd_T78 l0 x4_1).f4.f2.f2) ((rd_T78 l0 x4_1).f4.f2.f3)).bind fun t332 => (if y329.length + t332.length < 140737488355328 then (garnerref06_Put.l0 k1 l0 (y329 ++ t332) (wrap64 (x4_1 + 1))) else (none))))) else (none))) else (none)))) else (none))) else (none)) = some r := H
      have A10 := Aside0.mk A100
      clear A100
      by_cases c11 : x3_1.length + t314.length < 140737488355328
      ·rw [if_pos c11] at H
       have LMc11 := Aside0.mk c11
       clear c11
       obtain ⟨y317, hy317⟩ : ∃ y_ : List Int, y_ = (x3_1 ++ t314) := ⟨_, rfl⟩
       replace H : (if y317.length < 140737488355328 then ((some (y317 ++ [((rd_T78 l0 x4_1).f2) % 256] : List Int)).bind fun y320 => ((garnerref02_One.f k1 (IntKind.u64.wrap ((((rd_T78 l0 x4_1).f3).size : Int)))).bind fun t323 => (if y320.length + t323.length < 140737488355328 then ((some (y320 ++ t323 : List Int)).bind fun y326 => (if y326.length + ((rd_T78 l0 x4_1).f3).size < 140737488355328 then ((some (y326 ++ bytesOf ((rd_T78 l0 x4_1).f3) : List Int)).bind fun y329 => (if ((rd_T78 l0 x4_1).f2) = 2 then (garnerref06_Put.l0 k1 l0 y329 (wrap64 (x4_1 + 1))) else ((garnerref05_Put.f k1 ((rd_T78 l0 x4_1).f4.f0) ((rd_T78 l0 x4_1).f4.f1) ((rd_T78 l0 x4_1).f4.f2.f0) ((rd_T78 l0 x4_1).f4.f2.f1) ((rd_T78 l0 x4_1).f4.f2.f2) ((rd_T78 l0 x4_1).f4.f2.f3)).bind fun t332 => (if y329.length + t332.length < 140737488355328 then (garnerref06_Put.l0 k1 l0 (y329 ++ t332) (wrap64 (x4_1 + 1))) else (none))))) else (none))) else (none)))) else (none)) = some r := by first | (rw [hy317]; with_reducible exact H) | (have H2_ := (Option.bind_some _ _).symm.trans H; rw [hy317]; with_reducible exact H2_) | (have H2_ := (Option.bind_some _ _).symm.trans H; with_reducible exact H2_) | with_reducible exact H | (rw [hy317]; exact H) | exact H
       have Ny317 := Aside0.mk hy317
       clear hy317
       by_cases c12 : y317.length < 140737488355328
       ·rw [if_pos c12] at H
        have LMc12 := Aside0.mk c12
        clear c12
        obtain ⟨y320, hy320⟩ : ∃ y_ : List Int, y_ = (y317 ++ [((rd_T78 l0 x4_1).f2) % 256]) := ⟨_, rfl⟩
        replace H : ((garnerref02_One.f k1 (IntKind.u64.wrap ((((rd_T78 l0 x4_1).f3).size : Int)))).bind fun t323 => (if y320.length + t323.length < 140737488355328 then ((some (y320 ++ t323 : List Int)).bind fun y326 => (if y326.length + ((rd_T78 l0 x4_1).f3).size < 140737488355328 then ((some (y326 ++ bytesOf ((rd_T78 l0 x4_1).f3) : List Int)).bind fun y329 => (if ((rd_T78 l0 x4_1).f2) = 2 then (garnerref06_Put.l0 k1 l0 y329 (wrap64 (x4_1 + 1))) else ((garnerref05_Put.f k1 ((rd_T78 l0 x4_1).f4.f0) ((rd_T78 l0 x4_1).f4.f1) ((rd_T78 l0 x4_1).f4.f2.f0) ((rd_T78 l0 x4_1).f4.f2.f1) ((rd_T78 l0 x4_1).f4.f2.f2) ((rd_T78 l0 x4_1).f4.f2.f3)).bind fun t332 => (if y329.length + t332.length < 140737488355328 then (garnerref06_Put.l0 k1 l0 (y329 ++ t332) (wrap64 (x4_1 + 1))) else (none))))) else (none))) else (none))) = some r := by first | (rw [hy320]; with_reducible exact H) | (have H2_ := (Option.bind_some _ _).symm.trans H; rw [hy320]; with_reducible exact H2_) | (have H2_ := (Option.bind_some _ _).symm.trans H; with_reducible exact H2_) | with_reducible exact H | (rw [hy320]; exact H) | exact H
        have Ny320 := Aside0.mk hy320
        clear hy320
        replace H := Option.bind_eq_some_iff.mp H
        obtain ⟨t323, A130, H⟩ := H
        replace H : (if y320.length + t323.length < 140737488355328 then ((some (y320 ++ t323 : List Int)).bind fun y326 => (if y326.length + ((rd_T78 l0 x4_1).f3).size < 140737488355328 then ((some (y326 ++ bytesOf ((rd_T78 l0 x4_1).f3) : List Int)).bind fun y329 => (if ((rd_T78 l0 x4_1).f2) = 2 then (garnerref06_Put.l0 k1 l0 y329 (wrap64 (x4_1 + 1))) else ((garnerref05_Put.f k1 ((rd_T78 l0 x4_1).f4.f0) ((rd_T78 l0 x4_1).f4.f1) ((rd_T78 l0 x4_1).f4.f2.f0) ((rd_T78 l0 x4_1).f4.f2.f1) ((rd_T78 l0 x4_1).f4.f2.f2) ((rd_T78 l0 x4_1).f4.f2.f3)).bind fun t332 => (if y329.length + t332.length < 140737488355328 then (garnerref06_Put.l0 k1 l0 (y329 ++ t332) (wrap64 (x4_1 + 1))) else (none))))) else (none))) else (none)) = some r := H
        have A13 := Aside0.mk A130
        clear A130
        by_cases c14 : y320.length + t323.length < 140737488355328
        ·rw [if_pos c14] at H
         have LMc14 := Aside0.mk c14
         clear c14
         obtain ⟨y326, hy326⟩ : ∃ y_ : List Int, y_ = (y320 ++ t323) := ⟨_, rfl⟩
         replace H : (if y326.length + ((rd_T78 l0 x4_1).f3).size < 140737488355328 then ((some (y326 ++ bytesOf ((rd_T78 l0 x4_1).f3) : List Int)).bind fun y329 => (if ((rd_T78 l0 x4_1).f2) = 2 then (garnerref06_Put.l0 k1 l0 y329 (wrap64 (x4_1 + 1))) else ((garnerref05_Put.f k1 ((rd_T78 l0 x4_1).f4.f0) ((rd_T78 l0 x4_1).f4.f1) ((rd_T78 l0 x4_1).f4.f2.f0) ((rd_T78 l0 x4_1).f4.f2.f1) ((rd_T78 l0 x4_1).f4.f2.f2) ((rd_T78 l0 x4_1).f4.f2.f3)).bind fun t332 => (if y329.length + t332.length < 140737488355328 then (garnerref06_Put.l0 k1 l0 (y329 ++ t332) (wrap64 (x4_1 + 1))) else (none))))) else (none)) = some r := by first | (rw [hy326]; with_reducible exact H) | (have H2_ := (Option.bind_some _ _).symm.trans H; rw [hy326]; with_reducible exact H2_) | (have H2_ := (Option.bind_some _ _).symm.trans H; with_reducible exact H2_) | with_reducible exact H | (rw [hy326]; exact H) | exact H
         have Ny326 := Aside0.mk hy326
         clear hy326
         by_cases c15 : y326.length + ((rd_T78 l0 x4_1).f3).size < 140737488355328
         ·rw [if_pos c15] at H
          have LMc15 := Aside0.mk c15
          clear c15
          obtain ⟨y329, hy329⟩ : ∃ y_ : List Int, y_ = (y326 ++ bytesOf ((rd_T78 l0 x4_1).f3)) := ⟨_, rfl⟩
          replace H : (if ((rd_T78 l0 x4_1).f2) = 2 then (garnerref06_Put.l0 k1 l0 y329 (wrap64 (x4_1 + 1))) else ((garnerref05_Put.f k1 ((rd_T78 l0 x4_1).f4.f0) ((rd_T78 l0 x4_1).f4.f1) ((rd_T78 l0 x4_1).f4.f2.f0) ((rd_T78 l0 x4_1).f4.f2.f1) ((rd_T78 l0 x4_1).f4.f2.f2) ((rd_T78 l0 x4_1).f4.f2.f3)).bind fun t332 => (if y329.length + t332.length < 140737488355328 then (garnerref06_Put.l0 k1 l0 (y329 ++ t332) (wrap64 (x4_1 + 1))) else (none)))) = some r := by first | (rw [hy329]; with_reducible exact H) | (have H2_ := (Option.bind_some _ _).symm.trans H; rw [hy329]; with_reducible exact H2_) | (have H2_ := (Option.bind_some _ _).symm.trans H; with_reducible exact H2_) | with_reducible exact H | (rw [hy329]; exact H) | exact H
          have Ny329 := Aside0.mk hy329
          clear hy329
          by_cases c16 : ((rd_T78 l0 x4_1).f2) = 2
          ·rw [if_pos c16] at H
           have c16b0 : (((rd_T78 l0 x4_1).f2) == 2) = true := beq_iff_eq.mpr c16
           have c16b1 : (((rd_T78 l0 x4_1).f2) != 2) = false := bne_eq_false_iff_eq.mpr c16
           clear c16
           have H' := Aside0.mk H
           clear H
           have p312 : 0 ≤ (x4_1 : Int) := of_decide_eq_true pS
           have q312 : x4_1 < (l0.length : Int) := of_decide_eq_true pS
           obtain ⟨ad312, A312_5, c312_5, e312, hx312_0, hx312_1, hx312_2, hx312_3, hx312_4, hx312_5, hx312_6, hx312_7, hx312_8, hx312_9, hl312_5, hi312_5⟩ := at_T78 HR0.out x4_1 p312 q312
           obtain rfl : ad305 = ad312 := (by injection e312)
           replace hx312_0 := (HB.out.cell (World.block_lt_of_cell? w _ hx312_0)).trans hx312_0
           replace hx312_1 := (HB.out.cell (World.block_lt_of_cell? w _ hx312_1)).trans hx312_1
           replace hx312_2 := (HB.out.cell (World.block_lt_of_cell? w _ hx312_2)).trans hx312_2
           replace hx312_3 := (HB.out.cell (World.block_lt_of_cell? w _ hx312_3)).trans hx312_3
           replace hx312_4 := (HB.out.cell (World.block_lt_of_cell? w _ hx312_4)).trans hx312_4
           replace hx312_5 := (HB.out.cell (World.block_lt_of_cell? w _ hx312_5)).trans hx312_5
           replace hx312_6 := (HB.out.cell (World.block_lt_of_cell? w _ hx312_6)).trans hx312_6
           replace hx312_7 := (HB.out.cell (World.block_lt_of_cell? w _ hx312_7)).trans hx312_7
           replace hx312_8 := (HB.out.cell (World.block_lt_of_cell? w _ hx312_8)).trans hx312_8
           replace hx312_9 := (HB.out.cell (World.block_lt_of_cell? w _ hx312_9)).trans hx312_9
           have HR312_5 := Aside0.mk hi312_5
           have HC312_5 := Aside0.mk hl312_5
           clear hi312_5 hl312_5
           replace p312 := eq_true p312
           replace q312 := eq_true q312
           try go_wp2_with (first | ((with_reducible refine gate_dst (N := 5) rfl ?_); refine box_event ?hg (N := 5) ?hd (cs := #[.int .i64 0, .int .i64 0, .int .i64 0, .string (⟨#[]⟩ : ByteArray), .bool false, .slice none 0 0, .int .i64 0, .int .i64 0, .int .i64 0, .int .u32 0]) (t := 78) ?hr ?_; (case hd => rfl); (case hg => rfl); (case hr => first | (go_simp; done) | (go_simp; rfl)); intro gb313 hg w17 hbox hb; have n0_ := Aside0.mk (Kd.R_below (pR HO_3.out) hb); have n1_ := Aside0.mk (below_step (pB HB.out) hb); have n2_ := Aside0.mk (hbox); have n3_ := Aside0.mk ((by rw [hg]; exact (below_size (pB HB.out)) : w.heap.size ≤ gb313)); have n4_ := Aside0.mk ((by rw [hg]; exact (below_size (pB HB.out)) : w.heap.size ≤ gb313)); clear HO_3 HB; have HO_3 := n0_; have HB := n1_; have BK313 := n2_; have GW313 := n3_; have GE313 := n4_; clear n0_ n1_ n2_ n3_ n4_ hb hbox hg; have hcz18_0 : w17.cell? ⟨gb313, 0, none⟩ = some (.int .i64 0) := (blk_cell BK313.out 0).trans rfl; have hcz18_1 : w17.cell? ⟨gb313, 1, none⟩ = some (.int .i64 0) := (blk_cell BK313.out 1).trans rfl; have hcz18_2 : w17.cell? ⟨gb313, 2, none⟩ = some (.int .i64 0) := (blk_cell BK313.out 2).trans rfl; have hcz18_3 : w17.cell? ⟨gb313, 3, none⟩ = some (.string (⟨#[]⟩ : ByteArray)) := (blk_cell BK313.out 3).trans rfl; have hcz18_4 : w17.cell? ⟨gb313, 4, none⟩ = some (.bool false) := (blk_cell BK313.out 4).trans rfl; have hcz18_5 : w17.cell? ⟨gb313, 5, none⟩ = some (.slice none 0 0) := (blk_cell BK313.out 5).trans rfl; have hcz18_6 : w17.cell? ⟨gb313, 6, none⟩ = some (.int .i64 0) := (blk_cell BK313.out 6).trans rfl; have hcz18_7 : w17.cell? ⟨gb313, 7, none⟩ = some (.int .i64 0) := (blk_cell BK313.out 7).trans rfl; have hcz18_8 : w17.cell? ⟨gb313, 8, none⟩ = some (.int .i64 0) := (blk_cell BK313.out 8).trans rfl; have hcz18_9 : w17.cell? ⟨gb313, 9, none⟩ = some (.int .u32 0) := (blk_cell BK313.out 9).trans rfl; have hfz18_0 := blk_frozen BK313.out 0; have hfz18_1 := blk_frozen BK313.out 1; have hfz18_2 := blk_frozen BK313.out 2; have hfz18_3 := blk_frozen BK313.out 3; have hfz18_4 := blk_frozen BK313.out 4; have hfz18_5 := blk_frozen BK313.out 5; have hfz18_6 := blk_frozen BK313.out 6; have hfz18_7 := blk_frozen BK313.out 7; have hfz18_8 := blk_frozen BK313.out 8; have hfz18_9 := blk_frozen BK313.out 9) | ((with_reducible refine gate_callee (f := 28) rfl ?_); refine goesL_ (some 30) rfl rfl Try.func28 (by kernel_rfl) rfl #[.int .u64 (IntKind.u64.wrap ((rd_T78 l0 x4_1).f1))] rfl pL ?_; (with_reducible refine (garnerref02_One.calls k1 (IntKind.u64.wrap ((rd_T78 l0 x4_1).f1)) t314 _ A10.out).mono ?_); rintro e w19 ⟨v315, rfl, ho0, hb⟩; refine ⟨_, rfl, ?_⟩; have n0_ := Aside0.mk (Kd.R_elder' (by (with_reducible repeat (first | apply Kd.R_alloc | apply Kd.R_drewN | apply Kd.R_drew)); exact (Kd.R_mono (Kd.R_far (p := ⟨gb313, 9, none⟩) (Kd.R_far (p := ⟨gb313, 8, none⟩) (Kd.R_far (p := ⟨gb313, 7, none⟩) (Kd.R_far (p := ⟨gb313, 6, none⟩) (Kd.R_far (p := ⟨gb313, 5, none⟩) (Kd.R_far (p := ⟨gb313, 4, none⟩) (Kd.R_far (p := ⟨gb313, 3, none⟩) (Kd.R_far (p := ⟨gb313, 2, none⟩) (Kd.R_far (p := ⟨gb313, 1, none⟩) (Kd.R_far (p := ⟨gb313, 0, none⟩) (Kd.R_types HO_3.out BK313.out (by decide)) (fun _ hk => hk.2) (.int .i64 ((rd_T78 l0 x4_1).f0))) (fun _ hk => hk.2) (.int .i64 ((rd_T78 l0 x4_1).f1))) (fun _ hk => hk.2) (.int .i64 ((rd_T78 l0 x4_1).f2))) (fun _ hk => hk.2) (.string ((rd_T78 l0 x4_1).f3))) (fun _ hk => hk.2) (.bool ((rd_T78 l0 x4_1).f4.f0))) (fun _ hk => hk.2) (.slice A312_5 ((rd_T78 l0 x4_1).f4.f1).length c312_5)) (fun _ hk => hk.2) (.int .i64 ((rd_T78 l0 x4_1).f4.f2.f0))) (fun _ hk => hk.2) (.int .i64 ((rd_T78 l0 x4_1).f4.f2.f1))) (fun _ hk => hk.2) (.int .i64 ((rd_T78 l0 x4_1).f4.f2.f2))) (fun _ hk => hk.2) (.int .u32 ((rd_T78 l0 x4_1).f4.f2.f3))) (fun _ h_ => h_.1))) (Kd.R_base ho0) hb); have n1_ := Aside0.mk (Kd.R_lower (Kd.R_new' ho0 (Kd.R_lt (by (with_reducible repeat (first | apply Kd.R_alloc | apply Kd.R_drewN | apply Kd.R_drew)); exact (Kd.R_mono (Kd.R_far (p := ⟨gb313, 9, none⟩) (Kd.R_far (p := ⟨gb313, 8, none⟩) (Kd.R_far (p := ⟨gb313, 7, none⟩) (Kd.R_far (p := ⟨gb313, 6, none⟩) (Kd.R_far (p := ⟨gb313, 5, none⟩) (Kd.R_far (p := ⟨gb313, 4, none⟩) (Kd.R_far (p := ⟨gb313, 3, none⟩) (Kd.R_far (p := ⟨gb313, 2, none⟩) (Kd.R_far (p := ⟨gb313, 1, none⟩) (Kd.R_far (p := ⟨gb313, 0, none⟩) (Kd.R_types HO_3.out BK313.out (by decide)) (fun _ hk => hk.2) (.int .i64 ((rd_T78 l0 x4_1).f0))) (fun _ hk => hk.2) (.int .i64 ((rd_T78 l0 x4_1).f1))) (fun _ hk => hk.2) (.int .i64 ((rd_T78 l0 x4_1).f2))) (fun _ hk => hk.2) (.string ((rd_T78 l0 x4_1).f3))) (fun _ hk => hk.2) (.bool ((rd_T78 l0 x4_1).f4.f0))) (fun _ hk => hk.2) (.slice A312_5 ((rd_T78 l0 x4_1).f4.f1).length c312_5)) (fun _ hk => hk.2) (.int .i64 ((rd_T78 l0 x4_1).f4.f2.f0))) (fun _ hk => hk.2) (.int .i64 ((rd_T78 l0 x4_1).f4.f2.f1))) (fun _ hk => hk.2) (.int .i64 ((rd_T78 l0 x4_1).f4.f2.f2))) (fun _ hk => hk.2) (.int .u32 ((rd_T78 l0 x4_1).f4.f2.f3))) (fun _ h_ => h_.1))))) (below_size (pE HB.out GE313.out))); have n2_ := Aside0.mk (blk_below (g := gb313) (o := .cells #[.int .i64 ((rd_T78 l0 x4_1).f0), .int .i64 ((rd_T78 l0 x4_1).f1), .int .i64 ((rd_T78 l0 x4_1).f2), .string ((rd_T78 l0 x4_1).f3), .bool ((rd_T78 l0 x4_1).f4.f0), .slice A312_5 ((rd_T78 l0 x4_1).f4.f1).length c312_5, .int .i64 ((rd_T78 l0 x4_1).f4.f2.f0), .int .i64 ((rd_T78 l0 x4_1).f4.f2.f1), .int .i64 ((rd_T78 l0 x4_1).f4.f2.f2), .int .u32 ((rd_T78 l0 x4_1).f4.f2.f3)] 78 (0, 0)) (by (with_reducible repeat (first | refine blk_drewN ?_ _ | refine blk_drew ?_ | refine blk_alloc ?_ _)); refine blk_put (cs := #[.int .i64 ((rd_T78 l0 x4_1).f0), .int .i64 ((rd_T78 l0 x4_1).f1), .int .i64 ((rd_T78 l0 x4_1).f2), .string ((rd_T78 l0 x4_1).f3), .bool ((rd_T78 l0 x4_1).f4.f0), .slice A312_5 ((rd_T78 l0 x4_1).f4.f1).length c312_5, .int .i64 ((rd_T78 l0 x4_1).f4.f2.f0), .int .i64 ((rd_T78 l0 x4_1).f4.f2.f1), .int .i64 ((rd_T78 l0 x4_1).f4.f2.f2), .int .u32 0]) ?_ 9 _ rfl; (with_reducible repeat (first | refine blk_drewN ?_ _ | refine blk_drew ?_ | refine blk_alloc ?_ _)); refine blk_put (cs := #[.int .i64 ((rd_T78 l0 x4_1).f0), .int .i64 ((rd_T78 l0 x4_1).f1), .int .i64 ((rd_T78 l0 x4_1).f2), .string ((rd_T78 l0 x4_1).f3), .bool ((rd_T78 l0 x4_1).f4.f0), .slice A312_5 ((rd_T78 l0 x4_1).f4.f1).length c312_5, .int .i64 ((rd_T78 l0 x4_1).f4.f2.f0), .int .i64 ((rd_T78 l0 x4_1).f4.f2.f1), .int .i64 0, .int .u32 0]) ?_ 8 _ rfl; (with_reducible repeat (first | refine blk_drewN ?_ _ | refine blk_drew ?_ | refine blk_alloc ?_ _)); refine blk_put (cs := #[.int .i64 ((rd_T78 l0 x4_1).f0), .int .i64 ((rd_T78 l0 x4_1).f1), .int .i64 ((rd_T78 l0 x4_1).f2), .string ((rd_T78 l0 x4_1).f3), .bool ((rd_T78 l0 x4_1).f4.f0), .slice A312_5 ((rd_T78 l0 x4_1).f4.f1).length c312_5, .int .i64 ((rd_T78 l0 x4_1).f4.f2.f0), .int .i64 0, .int .i64 0, .int .u32 0]) ?_ 7 _ rfl; (with_reducible repeat (first | refine blk_drewN ?_ _ | refine blk_drew ?_ | refine blk_alloc ?_ _)); refine blk_put (cs := #[.int .i64 ((rd_T78 l0 x4_1).f0), .int .i64 ((rd_T78 l0 x4_1).f1), .int .i64 ((rd_T78 l0 x4_1).f2), .string ((rd_T78 l0 x4_1).f3), .bool ((rd_T78 l0 x4_1).f4.f0), .slice A312_5 ((rd_T78 l0 x4_1).f4.f1).length c312_5, .int .i64 0, .int .i64 0, .int .i64 0, .int .u32 0]) ?_ 6 _ rfl; (with_reducible repeat (first | refine blk_drewN ?_ _ | refine blk_drew ?_ | refine blk_alloc ?_ _)); refine blk_put (cs := #[.int .i64 ((rd_T78 l0 x4_1).f0), .int .i64 ((rd_T78 l0 x4_1).f1), .int .i64 ((rd_T78 l0 x4_1).f2), .string ((rd_T78 l0 x4_1).f3), .bool ((rd_T78 l0 x4_1).f4.f0), .slice none 0 0, .int .i64 0, .int .i64 0, .int .i64 0, .int .u32 0]) ?_ 5 _ rfl; (with_reducible repeat (first | refine blk_drewN ?_ _ | refine blk_drew ?_ | refine blk_alloc ?_ _)); refine blk_put (cs := #[.int .i64 ((rd_T78 l0 x4_1).f0), .int .i64 ((rd_T78 l0 x4_1).f1), .int .i64 ((rd_T78 l0 x4_1).f2), .string ((rd_T78 l0 x4_1).f3), .bool false, .slice none 0 0, .int .i64 0, .int .i64 0, .int .i64 0, .int .u32 0]) ?_ 4 _ rfl; (with_reducible repeat (first | refine blk_drewN ?_ _ | refine blk_drew ?_ | refine blk_alloc ?_ _)); refine blk_put (cs := #[.int .i64 ((rd_T78 l0 x4_1).f0), .int .i64 ((rd_T78 l0 x4_1).f1), .int .i64 ((rd_T78 l0 x4_1).f2), .string (⟨#[]⟩ : ByteArray), .bool false, .slice none 0 0, .int .i64 0, .int .i64 0, .int .i64 0, .int .u32 0]) ?_ 3 _ rfl; (with_reducible repeat (first | refine blk_drewN ?_ _ | refine blk_drew ?_ | refine blk_alloc ?_ _)); refine blk_put (cs := #[.int .i64 ((rd_T78 l0 x4_1).f0), .int .i64 ((rd_T78 l0 x4_1).f1), .int .i64 0, .string (⟨#[]⟩ : ByteArray), .bool false, .slice none 0 0, .int .i64 0, .int .i64 0, .int .i64 0, .int .u32 0]) ?_ 2 _ rfl; (with_reducible repeat (first | refine blk_drewN ?_ _ | refine blk_drew ?_ | refine blk_alloc ?_ _)); refine blk_put (cs := #[.int .i64 ((rd_T78 l0 x4_1).f0), .int .i64 0, .int .i64 0, .string (⟨#[]⟩ : ByteArray), .bool false, .slice none 0 0, .int .i64 0, .int .i64 0, .int .i64 0, .int .u32 0]) ?_ 1 _ rfl; (with_reducible repeat (first | refine blk_drewN ?_ _ | refine blk_drew ?_ | refine blk_alloc ?_ _)); refine blk_put (cs := #[.int .i64 0, .int .i64 0, .int .i64 0, .string (⟨#[]⟩ : ByteArray), .bool false, .slice none 0 0, .int .i64 0, .int .i64 0, .int .i64 0, .int .u32 0]) ?_ 0 _ rfl; (with_reducible repeat (first | refine blk_drewN ?_ _ | refine blk_drew ?_ | refine blk_alloc ?_ _)); exact BK313.out) hb); have n3_ := Aside0.mk (below_step (pE HB.out GE313.out) hb); clear HO_3 BK313 HB; have HO_3 := n0_; have HO316 := n1_; have BK313 := n2_; have HB := n3_; clear n0_ n1_ n2_ n3_; (try clear hb); (try clear hb2); (try clear hk); (try clear hi); (try clear ho0); obtain ⟨Ao21, co21, eo21⟩ := Kd.R_slice HO316.out; subst eo21) | ((with_reducible refine gate_builtin (b := .append) (xs := #[.tmp 26, .tmp 30]) rfl ?_); at_builtin; refine Kd.R_append_rows (Kd.int .u8) (w0 := w) w.heap.size rfl (.tmp 26) (.tmp 30) 25 5 (.int .u8 0) 1 rfl Try.underlying25 info5 rfl (by decide) (by omega) u3 x3_1 t314 _ _ _ (fun k_ => some k_ ≠ (.slice Ao21 t314.length co21 : Value).ownBlock) (fun _ => False) rfl rfl ?aO ?aR (fun _ _ h => h) (fun _ h => h.elim) ?aF ?aB ?aS ?aL ?_; (case aR => exact pC (Kd.R_reads' HO316.out).2.2); (case aB => exact (pE HB.out GE313.out)); (case aF => exact (fun k_ hk => Kd.fresh' (Kd.R_lt (pR HO316.out)) k_ hk)); (case aO => exact (by (with_reducible repeat (first | apply Kd.R_alloc | apply Kd.R_drewN | apply Kd.R_drew)); exact Kd.R_mono HO_3.out (fun _ hk => hk.2))); (case aS => exact (below_size (pE HB.out GE313.out))); (case aL => have := LMc11.out; omega); intro v318 w20 ho hb hg hat; rw [← Ny317.out] at ho; have n0_ := Aside0.mk (blk_grown (g := gb313) (o := .cells #[.int .i64 ((rd_T78 l0 x4_1).f0), .int .i64 ((rd_T78 l0 x4_1).f1), .int .i64 ((rd_T78 l0 x4_1).f2), .string ((rd_T78 l0 x4_1).f3), .bool ((rd_T78 l0 x4_1).f4.f0), .slice A312_5 ((rd_T78 l0 x4_1).f4.f1).length c312_5, .int .i64 ((rd_T78 l0 x4_1).f4.f2.f0), .int .i64 ((rd_T78 l0 x4_1).f4.f2.f1), .int .i64 ((rd_T78 l0 x4_1).f4.f2.f2), .int .u32 ((rd_T78 l0 x4_1).f4.f2.f3)] 78 (0, 0)) (pK BK313.out) hg (Kd.R_ne HO_3.out BK313.out (by decide))); have n1_ := Aside0.mk (Kd.R_after (ok := (fun _ => True)) (pR HO316.out) hg hat); have n2_ := Aside0.mk (hb); have n3_ := Aside0.mk (ho); clear BK313 HO316 HB HO_3; have BK313 := n0_; have HO316 := n1_; have HB := n2_; have HO319 := n3_; clear n0_ n1_ n2_ n3_ ho hb hg hat))
           have n0_ := Aside0.mk (Kd.R_drew HO316.out)
           have n1_ := Aside0.mk (Kd.R_drew HO319.out)
           have n2_ := Aside0.mk (blk_drew BK313.out)
           have n3_ := Aside0.mk (below_drew1 HB.out)
           clear HO316
           clear HO319
           clear BK313
           clear HB
           have HO316 := n0_
           have HO319 := n1_
           have BK313 := n2_
           have HB := n3_
           clear n0_ n1_ n2_ n3_
           refine start_ (n := 13) (S := fun w' => w'.cell? ⟨gb313, 0, none⟩ = some (.int .i64 ((rd_T78 l0 x4_1).f0)) ∧ w'.cell? ⟨gb313, 1, none⟩ = some (.int .i64 ((rd_T78 l0 x4_1).f1)) ∧ w'.cell? ⟨gb313, 2, none⟩ = some (.int .i64 ((rd_T78 l0 x4_1).f2)) ∧ w'.cell? ⟨gb313, 3, none⟩ = some (.string ((rd_T78 l0 x4_1).f3)) ∧ w'.cell? ⟨gb313, 4, none⟩ = some (.bool ((rd_T78 l0 x4_1).f4.f0)) ∧ w'.cell? ⟨gb313, 5, none⟩ = some (.slice A312_5 ((rd_T78 l0 x4_1).f4.f1).length c312_5) ∧ w'.cell? ⟨gb313, 6, none⟩ = some (.int .i64 ((rd_T78 l0 x4_1).f4.f2.f0)) ∧ w'.cell? ⟨gb313, 7, none⟩ = some (.int .i64 ((rd_T78 l0 x4_1).f4.f2.f1)) ∧ w'.cell? ⟨gb313, 8, none⟩ = some (.int .i64 ((rd_T78 l0 x4_1).f4.f2.f2)) ∧ w'.cell? ⟨gb313, 9, none⟩ = some (.int .u32 ((rd_T78 l0 x4_1).f4.f2.f3))) (ds := []) #[false, false, false, false, false, false, false, false, false, false, false, false, false] (by kernel_rfl) rfl rfl ⟨(blk_cell BK313.out 0).trans rfl, (blk_cell BK313.out 1).trans rfl, (blk_cell BK313.out 2).trans rfl, (blk_cell BK313.out 3).trans rfl, (blk_cell BK313.out 4).trans rfl, (blk_cell BK313.out 5).trans rfl, (blk_cell BK313.out 6).trans rfl, (blk_cell BK313.out 7).trans rfl, (blk_cell BK313.out 8).trans rfl, (blk_cell BK313.out 9).trans rfl⟩ (fun hHeld => ?_); refine with_tabW garnerref06_Put.tab7 garnerref06_Put.bits7 (fun HT_ HW_ => ?_)
           generalize w20.drew = w22 at HO316 HO319 BK313 HB hHeld ⊢
           refine pure_ (i := 0) (N := some 32) (v := ?_) (a' := ?_) #[true, false, false, false, false, false, false, false, false, false, false, false, false] rfl rfl (any_of HT_.out (by kernel_rfl)) (fun _ _ _ h => h) (Or.inl ⟨by rfl, ?_⟩) ?_ ?_
           rotate_left
           ·intro w'
            go_simp
            with_reducible rfl
           rotate_left
           ·simp only [Act.put, List.setIfInBounds_toArray, List.set_cons_zero, List.set_cons_succ, i64_w, i32_w]
            rfl
           refine pure_ (i := 1) (N := some 33) (v := ?_) (a' := ?_) #[true, true, false, false, false, false, false, false, false, false, false, false, false] rfl rfl (any_of HT_.out (by kernel_rfl)) (fun _ _ _ h => h) (Or.inl ⟨by rfl, ?_⟩) ?_ ?_
           rotate_left
           ·intro w'
            go_simp
            with_reducible rfl
           rotate_left
           ·simp only [Act.put, List.setIfInBounds_toArray, List.set_cons_zero, List.set_cons_succ, i64_w, i32_w]
            rfl
           refine pure_ (i := 6) (N := some 38) (v := ?_) (a' := ?_) #[true, true, false, false, false, false, true, false, false, false, false, false, false] rfl rfl (any_of HT_.out (by kernel_rfl)) (fun _ _ _ h => h) (Or.inl ⟨by rfl, ?_⟩) ?_ ?_
           rotate_left
           ·intro w'
            go_simp
            with_reducible rfl
           rotate_left
           ·simp only [Act.put, List.setIfInBounds_toArray, List.set_cons_zero, List.set_cons_succ, i64_w, i32_w]
            rfl
           refine take_ (i := 2) (N := some 34) (v := ?_) (a' := ?_) #[true, true, true, false, false, false, true, false, false, false, false, false, false] rfl rfl (take_ofW HT_.out HW_.out (by kernel_rfl)) (fun _ _ _ h => h) (Or.inl ⟨by rfl, ?_⟩) hHeld ?_ ?_
           rotate_left
           ·rintro w' ⟨s0, s1, s2, s3, s4, s5, s6, s7, s8, s9⟩
            go_simp
            with_reducible rfl
           rotate_left
           ·simp only [Act.put, List.setIfInBounds_toArray, List.set_cons_zero, List.set_cons_succ, i64_w, i32_w]
            rfl
           refine pure_ (i := 3) (N := some 35) (v := ?_) (a' := ?_) #[true, true, true, true, false, false, true, false, false, false, false, false, false] rfl rfl (any_of HT_.out (by kernel_rfl)) (fun _ _ _ h => h) (Or.inl ⟨by rfl, ?_⟩) ?_ ?_
           rotate_left
           ·intro w'
            go_simp
            with_reducible rfl
           rotate_left
           ·simp only [Act.put, List.setIfInBounds_toArray, List.set_cons_zero, List.set_cons_succ, i64_w, i32_w]
            rfl
           refine take_ (i := 7) (N := some 39) (v := ?_) (a' := ?_) #[true, true, true, true, false, false, true, true, false, false, false, false, false] rfl rfl (take_ofW HT_.out HW_.out (by kernel_rfl)) (fun _ _ _ h => h) (Or.inl ⟨by rfl, ?_⟩) hHeld ?_ ?_
           rotate_left
           ·rintro w' ⟨s0, s1, s2, s3, s4, s5, s6, s7, s8, s9⟩
            go_simp
            with_reducible rfl
           rotate_left
           ·simp only [Act.put, List.setIfInBounds_toArray, List.set_cons_zero, List.set_cons_succ, i64_w, i32_w]
            rfl
           refine pure_ (i := 8) (N := some 40) (v := ?_) (a' := ?_) #[true, true, true, true, false, false, true, true, true, false, false, false, false] rfl rfl (any_of HT_.out (by kernel_rfl)) (fun _ _ _ h => h) (Or.inl ⟨by rfl, ?_⟩) ?_ ?_
           rotate_left
           ·intro w'
            go_simp
            with_reducible rfl
           rotate_left
           ·simp only [Act.put, List.setIfInBounds_toArray, List.set_cons_zero, List.set_cons_succ, i64_w, i32_w]
            rfl
           refine pure_ (i := 9) (N := some 41) (v := ?_) (a' := ?_) #[true, true, true, true, false, false, true, true, true, true, false, false, false] rfl rfl (any_of HT_.out (by kernel_rfl)) (fun _ _ _ h => h) (Or.inl ⟨by rfl, ?_⟩) ?_ ?_
           rotate_left
           ·intro w'
            go_simp
            with_reducible rfl
           rotate_left
           ·simp only [Act.put, List.setIfInBounds_toArray, List.set_cons_zero, List.set_cons_succ, i64_w, i32_w]
            rfl
           refine one_ (i := 4) (N := some 36) #[true, true, true, true, true, false, true, true, true, true, false, false, false] rfl rfl (one_of HT_.out (by kernel_rfl)) (by decide) (fun K hK => ?_)
           refine value_ (w1 := ?_) (v := ?_) (by rfl) rfl ?_ ?_
           rotate_left 2
           ·go_simp
            constructor
            ·rfl
            ·rfl
           refine hK.out _ _ ⟨(blk_cell (blk_alloc BK313.out _) 0).trans rfl, (blk_cell (blk_alloc BK313.out _) 1).trans rfl, (blk_cell (blk_alloc BK313.out _) 2).trans rfl, (blk_cell (blk_alloc BK313.out _) 3).trans rfl, (blk_cell (blk_alloc BK313.out _) 4).trans rfl, (blk_cell (blk_alloc BK313.out _) 5).trans rfl, (blk_cell (blk_alloc BK313.out _) 6).trans rfl, (blk_cell (blk_alloc BK313.out _) 7).trans rfl, (blk_cell (blk_alloc BK313.out _) 8).trans rfl, (blk_cell (blk_alloc BK313.out _) 9).trans rfl⟩ (fun hHeld => ?_)
           clear hK K
           refine norm_ (a' := ?_) ?_ ?_
           rotate_left
           ·show Act.put _ (some 36) _ = _
            simp only [Act.put, List.setIfInBounds_toArray, List.set_cons_zero, List.set_cons_succ, i64_w, i32_w]
            rfl
           refine one_ (i := 5) (N := some 37) #[true, true, true, true, true, true, true, true, true, true, false, false, false] rfl rfl (one_of HT_.out (by kernel_rfl)) (by decide) (fun K hK => ?_)
           refine Kd.R_append_step (Kd.int .u8) (w0 := w) w.heap.size (by rfl) (.tmp 32) (.tmp 36) 25 5 (.int .u8 0) 1 rfl Try.underlying25 info5 rfl (by decide) (by omega) v318 y317 (((rd_T78 l0 x4_1).f2) % 256) [.int .u8 (((rd_T78 l0 x4_1).f2) % 256)] (fun k_ => some k_ ≠ (.slice Ao21 t314.length co21 : Value).ownBlock) (fun _ => False) rfl rfl ?aP (fun _ hk => hk.elim) ?aF ?aO ?aB ?aS ?aL ?_
           (case aP => exact rfl)
           (case aB => exact (pE HB.out GE313.out))
           (case aF => exact (fun k_ hk => Kd.fresh' (Kd.R_lt (pR HO316.out)) k_ hk))
           (case aO => exact (pR HO319.out))
           (case aS => exact (below_size (pE HB.out GE313.out)))
           (case aL => have := LMc12.out; omega)
           intro v321 w23 ho hb hg hat
           rw [← Ny320.out] at ho
           have n0_ := Aside0.mk (blk_grown (g := gb313) (o := .cells #[.int .i64 ((rd_T78 l0 x4_1).f0), .int .i64 ((rd_T78 l0 x4_1).f1), .int .i64 ((rd_T78 l0 x4_1).f2), .string ((rd_T78 l0 x4_1).f3), .bool ((rd_T78 l0 x4_1).f4.f0), .slice A312_5 ((rd_T78 l0 x4_1).f4.f1).length c312_5, .int .i64 ((rd_T78 l0 x4_1).f4.f2.f0), .int .i64 ((rd_T78 l0 x4_1).f4.f2.f1), .int .i64 ((rd_T78 l0 x4_1).f4.f2.f2), .int .u32 ((rd_T78 l0 x4_1).f4.f2.f3)] 78 (0, 0)) (pK BK313.out) hg (Kd.R_ne HO319.out BK313.out (by decide)))
           have n1_ := Aside0.mk (Kd.R_after (ok := (fun _ => True)) (pR HO316.out) hg hat)
           have n2_ := Aside0.mk (hb)
           have n3_ := Aside0.mk (ho)
           clear BK313
           clear HO316
           clear HB
           clear HO319
           have BK313 := n0_
           have HO316 := n1_
           have HB := n2_
           have HO322 := n3_
           clear n0_ n1_ n2_ n3_
           clear ho hb hg hat
           refine hK.out _ _ ⟨(blk_cell BK313.out 0).trans rfl, (blk_cell BK313.out 1).trans rfl, (blk_cell BK313.out 2).trans rfl, (blk_cell BK313.out 3).trans rfl, (blk_cell BK313.out 4).trans rfl, (blk_cell BK313.out 5).trans rfl, (blk_cell BK313.out 6).trans rfl, (blk_cell BK313.out 7).trans rfl, (blk_cell BK313.out 8).trans rfl, (blk_cell BK313.out 9).trans rfl⟩ (fun hHeld => ?_)
           clear hK K
           refine norm_ (a' := ?_) ?_ ?_
           rotate_left
           ·show Act.put _ (some 37) _ = _
            simp only [Act.put, List.setIfInBounds_toArray, List.set_cons_zero, List.set_cons_succ, i64_w, i32_w]
            rfl
           refine one_ (i := 10) (N := some 42) #[true, true, true, true, true, true, true, true, true, true, true, false, false] rfl rfl (one_of HT_.out (by kernel_rfl)) (by decide) (fun K hK => ?_)
           refine goes_ Try.func28 (by kernel_rfl) rfl #[.int .u64 (IntKind.u64.wrap ((((rd_T78 l0 x4_1).f3).size : Int)))] (by rfl) rfl rfl pL ?_
           with_reducible refine (garnerref02_One.calls k1 (IntKind.u64.wrap ((((rd_T78 l0 x4_1).f3).size : Int))) t323 _ A13.out).mono ?_
           rintro e w24 ⟨v324, rfl, ho0, hb⟩
           refine ⟨_, rfl, ?_⟩
           have n0_ := Aside0.mk (Kd.R_elder' (pR HO316.out) (Kd.R_base ho0) hb)
           have n1_ := Aside0.mk (Kd.R_elder' (pR HO322.out) (Kd.R_base ho0) hb)
           have n2_ := Aside0.mk (Kd.R_lower (Kd.R_new' (Kd.R_new' ho0 (Kd.R_lt (pR HO316.out))) (Kd.R_lt (pR HO322.out))) (below_size (pE HB.out GE313.out)))
           have n3_ := Aside0.mk (blk_below (g := gb313) (o := .cells #[.int .i64 ((rd_T78 l0 x4_1).f0), .int .i64 ((rd_T78 l0 x4_1).f1), .int .i64 ((rd_T78 l0 x4_1).f2), .string ((rd_T78 l0 x4_1).f3), .bool ((rd_T78 l0 x4_1).f4.f0), .slice A312_5 ((rd_T78 l0 x4_1).f4.f1).length c312_5, .int .i64 ((rd_T78 l0 x4_1).f4.f2.f0), .int .i64 ((rd_T78 l0 x4_1).f4.f2.f1), .int .i64 ((rd_T78 l0 x4_1).f4.f2.f2), .int .u32 ((rd_T78 l0 x4_1).f4.f2.f3)] 78 (0, 0)) (pK BK313.out) hb)
           have n4_ := Aside0.mk (below_step (pE HB.out GE313.out) hb)
           clear HO316
           clear HO322
           clear BK313
           clear HB
           have HO316 := n0_
           have HO322 := n1_
           have HO325 := n2_
           have BK313 := n3_
           have HB := n4_
           clear n0_ n1_ n2_ n3_ n4_
           (try clear hb)
           (try clear hb2)
           (try clear hk)
           (try clear hi)
           (try clear ho0)
           obtain ⟨Ao26, co26, eo26⟩ := Kd.R_slice HO325.out
           (first | subst eo26 | (injection eo26 with f1_ f2_ f3_; have f4_ := f1_.symm; have f5_ := f3_.symm; clear f1_ f2_ f3_; subst f4_; subst f5_))
           refine hK.out _ _ ⟨(blk_cell BK313.out 0).trans rfl, (blk_cell BK313.out 1).trans rfl, (blk_cell BK313.out 2).trans rfl, (blk_cell BK313.out 3).trans rfl, (blk_cell BK313.out 4).trans rfl, (blk_cell BK313.out 5).trans rfl, (blk_cell BK313.out 6).trans rfl, (blk_cell BK313.out 7).trans rfl, (blk_cell BK313.out 8).trans rfl, (blk_cell BK313.out 9).trans rfl⟩ (fun hHeld => ?_)
           clear hK K
           refine norm_ (a' := ?_) ?_ ?_
           rotate_left
           ·show Act.put _ (some 42) _ = _
            simp only [Act.put, List.setIfInBounds_toArray, List.set_cons_zero, List.set_cons_succ, i64_w, i32_w]
            rfl
           refine one_ (i := 11) (N := some 43) #[true, true, true, true, true, true, true, true, true, true, true, true, false] rfl rfl (one_of HT_.out (by kernel_rfl)) (by decide) (fun K hK => ?_)
           refine Kd.R_append_rows_step (Kd.int .u8) (w0 := w) w.heap.size (by rfl) (.tmp 37) (.tmp 42) 25 5 (.int .u8 0) 1 rfl Try.underlying25 info5 rfl (by decide) (by omega) v321 y320 t323 _ _ _ (fun k_ => some k_ ≠ (.slice Ao21 t314.length co21 : Value).ownBlock ∧ some k_ ≠ (.slice Ao26 t323.length co26 : Value).ownBlock) (fun _ => False) rfl rfl ?aO ?aR (fun _ _ h => h) (fun _ h => h.elim) ?aF ?aB ?aS ?aL ?_
           (case aR => exact pC (Kd.R_reads' HO325.out).2.2)
           (case aB => exact (pE HB.out GE313.out))
           (case aF => exact (fun k_ hk => ⟨Kd.fresh' (Kd.R_lt (pR HO316.out)) k_ hk, Kd.fresh' (Kd.R_lt (pR HO325.out)) k_ hk⟩))
           (case aO => exact (pR HO322.out))
           (case aS => exact (below_size (pE HB.out GE313.out)))
           (case aL => have := LMc14.out; omega)
           intro v327 w25 ho hb hg hat
           rw [← Ny326.out] at ho
           have n0_ := Aside0.mk (blk_grown (g := gb313) (o := .cells #[.int .i64 ((rd_T78 l0 x4_1).f0), .int .i64 ((rd_T78 l0 x4_1).f1), .int .i64 ((rd_T78 l0 x4_1).f2), .string ((rd_T78 l0 x4_1).f3), .bool ((rd_T78 l0 x4_1).f4.f0), .slice A312_5 ((rd_T78 l0 x4_1).f4.f1).length c312_5, .int .i64 ((rd_T78 l0 x4_1).f4.f2.f0), .int .i64 ((rd_T78 l0 x4_1).f4.f2.f1), .int .i64 ((rd_T78 l0 x4_1).f4.f2.f2), .int .u32 ((rd_T78 l0 x4_1).f4.f2.f3)] 78 (0, 0)) (pK BK313.out) hg (Kd.R_ne HO322.out BK313.out (by decide)))
           have n1_ := Aside0.mk (Kd.R_after (ok := (fun k_ => some k_ ≠ (.slice Ao26 t323.length co26 : Value).ownBlock)) (by (with_reducible repeat (first | apply Kd.R_alloc | apply Kd.R_drewN | apply Kd.R_drew)); exact Kd.R_mono HO316.out (fun _ hk => ⟨hk.2, hk.1.2⟩)) hg hat)
           have n2_ := Aside0.mk (Kd.R_after (ok := (fun k_ => some k_ ≠ (.slice Ao21 t314.length co21 : Value).ownBlock)) (by (with_reducible repeat (first | apply Kd.R_alloc | apply Kd.R_drewN | apply Kd.R_drew)); exact Kd.R_mono HO325.out (fun _ hk => ⟨hk.1.2, hk.2⟩)) hg hat)
           have n3_ := Aside0.mk (hb)
           have n4_ := Aside0.mk (ho)
           clear BK313
           clear HO316
           clear HO325
           clear HB
           clear HO322
           have BK313 := n0_
           have HO316 := n1_
           have HO325 := n2_
           have HB := n3_
           have HO328 := n4_
           clear n0_ n1_ n2_ n3_ n4_
           clear ho hb hg hat
           refine hK.out _ _ ⟨(blk_cell BK313.out 0).trans rfl, (blk_cell BK313.out 1).trans rfl, (blk_cell BK313.out 2).trans rfl, (blk_cell BK313.out 3).trans rfl, (blk_cell BK313.out 4).trans rfl, (blk_cell BK313.out 5).trans rfl, (blk_cell BK313.out 6).trans rfl, (blk_cell BK313.out 7).trans rfl, (blk_cell BK313.out 8).trans rfl, (blk_cell BK313.out 9).trans rfl⟩ (fun hHeld => ?_)
           clear hK K
           refine norm_ (a' := ?_) ?_ ?_
           rotate_left
           ·show Act.put _ (some 43) _ = _
            simp only [Act.put, List.setIfInBounds_toArray, List.set_cons_zero, List.set_cons_succ, i64_w, i32_w]
            rfl
           refine pure_ (i := 12) (N := some 3) (v := ?_) (a' := ?_) #[true, true, true, true, true, true, true, true, true, true, true, true, true] rfl rfl (any_of HT_.out (by kernel_rfl)) (fun _ _ _ h => h) (Or.inl ⟨by rfl, ?_⟩) ?_ ?_
           rotate_left
           ·intro w'
            go_simp
            with_reducible rfl
           rotate_left
           ·simp only [Act.put, List.setIfInBounds_toArray, List.set_cons_zero, List.set_cons_succ, i64_w, i32_w]
            rfl
           refine done_ (done_of HT_.out (by kernel_rfl)) ?_
           have hcz27_0 : w25.cell? ⟨gb313, 0, none⟩ = some (.int .i64 ((rd_T78 l0 x4_1).f0)) := (blk_cell BK313.out 0).trans rfl
           have hcz27_1 : w25.cell? ⟨gb313, 1, none⟩ = some (.int .i64 ((rd_T78 l0 x4_1).f1)) := (blk_cell BK313.out 1).trans rfl
           have hcz27_2 : w25.cell? ⟨gb313, 2, none⟩ = some (.int .i64 ((rd_T78 l0 x4_1).f2)) := (blk_cell BK313.out 2).trans rfl
           have hcz27_3 : w25.cell? ⟨gb313, 3, none⟩ = some (.string ((rd_T78 l0 x4_1).f3)) := (blk_cell BK313.out 3).trans rfl
           have hcz27_4 : w25.cell? ⟨gb313, 4, none⟩ = some (.bool ((rd_T78 l0 x4_1).f4.f0)) := (blk_cell BK313.out 4).trans rfl
           have hcz27_5 : w25.cell? ⟨gb313, 5, none⟩ = some (.slice A312_5 ((rd_T78 l0 x4_1).f4.f1).length c312_5) := (blk_cell BK313.out 5).trans rfl
           have hcz27_6 : w25.cell? ⟨gb313, 6, none⟩ = some (.int .i64 ((rd_T78 l0 x4_1).f4.f2.f0)) := (blk_cell BK313.out 6).trans rfl
           have hcz27_7 : w25.cell? ⟨gb313, 7, none⟩ = some (.int .i64 ((rd_T78 l0 x4_1).f4.f2.f1)) := (blk_cell BK313.out 7).trans rfl
           have hcz27_8 : w25.cell? ⟨gb313, 8, none⟩ = some (.int .i64 ((rd_T78 l0 x4_1).f4.f2.f2)) := (blk_cell BK313.out 8).trans rfl
           have hcz27_9 : w25.cell? ⟨gb313, 9, none⟩ = some (.int .u32 ((rd_T78 l0 x4_1).f4.f2.f3)) := (blk_cell BK313.out 9).trans rfl
           have hfz27_0 := blk_frozen BK313.out 0
           have hfz27_1 := blk_frozen BK313.out 1
           have hfz27_2 := blk_frozen BK313.out 2
           have hfz27_3 := blk_frozen BK313.out 3
           have hfz27_4 := blk_frozen BK313.out 4
           have hfz27_5 := blk_frozen BK313.out 5
           have hfz27_6 := blk_frozen BK313.out 6
           have hfz27_7 := blk_frozen BK313.out 7
           have hfz27_8 := blk_frozen BK313.out 8
           have hfz27_9 := blk_frozen BK313.out 9
           try go_wp2_with (first | (at_builtin; refine R_append_str (w0 := w) w.heap.size rfl (.tmp 44) _ 25 9 5 rfl Try.underlying25 Try.underlying9 info5 v327 y326 ((rd_T78 l0 x4_1).f3) (fun k_ => some k_ ≠ (.slice Ao21 t314.length co21 : Value).ownBlock ∧ some k_ ≠ (.slice Ao26 t323.length co26 : Value).ownBlock) rfl rfl ?aO ?aF ?aB ?aS ?aL ?_; (case aB => exact (pE HB.out GE313.out)); (case aF => exact (fun k_ hk => ⟨Kd.fresh' (Kd.R_lt (pR HO316.out)) k_ hk, Kd.fresh' (Kd.R_lt (pR HO325.out)) k_ hk⟩)); (case aO => exact (pR HO328.out)); (case aS => exact (below_size (pE HB.out GE313.out))); (case aL => have := LMc15.out; omega); intro v330 w28 ho hb hg hat; rw [← Ny329.out] at ho; have n0_ := Aside0.mk (blk_grown (g := gb313) (o := .cells #[.int .i64 ((rd_T78 l0 x4_1).f0), .int .i64 ((rd_T78 l0 x4_1).f1), .int .i64 ((rd_T78 l0 x4_1).f2), .string ((rd_T78 l0 x4_1).f3), .bool ((rd_T78 l0 x4_1).f4.f0), .slice A312_5 ((rd_T78 l0 x4_1).f4.f1).length c312_5, .int .i64 ((rd_T78 l0 x4_1).f4.f2.f0), .int .i64 ((rd_T78 l0 x4_1).f4.f2.f1), .int .i64 ((rd_T78 l0 x4_1).f4.f2.f2), .int .u32 ((rd_T78 l0 x4_1).f4.f2.f3)] 78 (0, 0)) (pK BK313.out) hg (Kd.R_ne HO328.out BK313.out (by decide))); have n1_ := Aside0.mk (Kd.R_after (ok := (fun k_ => some k_ ≠ (.slice Ao26 t323.length co26 : Value).ownBlock)) (pR HO316.out) hg hat); have n2_ := Aside0.mk (Kd.R_after (ok := (fun k_ => some k_ ≠ (.slice Ao21 t314.length co21 : Value).ownBlock)) (pR HO325.out) hg hat); have n3_ := Aside0.mk (hb); have n4_ := Aside0.mk (ho); clear BK313 HO316 HO325 HB HO328; have BK313 := n0_; have HO316 := n1_; have HO325 := n2_; have HB := n3_; have HO331 := n4_; clear n0_ n1_ n2_ n3_ n4_ ho hb hg hat; have hcz29_0 : w28.cell? ⟨gb313, 0, none⟩ = some (.int .i64 ((rd_T78 l0 x4_1).f0)) := (blk_cell BK313.out 0).trans rfl; have hcz29_1 : w28.cell? ⟨gb313, 1, none⟩ = some (.int .i64 ((rd_T78 l0 x4_1).f1)) := (blk_cell BK313.out 1).trans rfl; have hcz29_2 : w28.cell? ⟨gb313, 2, none⟩ = some (.int .i64 ((rd_T78 l0 x4_1).f2)) := (blk_cell BK313.out 2).trans rfl; have hcz29_3 : w28.cell? ⟨gb313, 3, none⟩ = some (.string ((rd_T78 l0 x4_1).f3)) := (blk_cell BK313.out 3).trans rfl; have hcz29_4 : w28.cell? ⟨gb313, 4, none⟩ = some (.bool ((rd_T78 l0 x4_1).f4.f0)) := (blk_cell BK313.out 4).trans rfl; have hcz29_5 : w28.cell? ⟨gb313, 5, none⟩ = some (.slice A312_5 ((rd_T78 l0 x4_1).f4.f1).length c312_5) := (blk_cell BK313.out 5).trans rfl; have hcz29_6 : w28.cell? ⟨gb313, 6, none⟩ = some (.int .i64 ((rd_T78 l0 x4_1).f4.f2.f0)) := (blk_cell BK313.out 6).trans rfl; have hcz29_7 : w28.cell? ⟨gb313, 7, none⟩ = some (.int .i64 ((rd_T78 l0 x4_1).f4.f2.f1)) := (blk_cell BK313.out 7).trans rfl; have hcz29_8 : w28.cell? ⟨gb313, 8, none⟩ = some (.int .i64 ((rd_T78 l0 x4_1).f4.f2.f2)) := (blk_cell BK313.out 8).trans rfl; have hcz29_9 : w28.cell? ⟨gb313, 9, none⟩ = some (.int .u32 ((rd_T78 l0 x4_1).f4.f2.f3)) := (blk_cell BK313.out 9).trans rfl; have hfz29_0 := blk_frozen BK313.out 0; have hfz29_1 := blk_frozen BK313.out 1; have hfz29_2 := blk_frozen BK313.out 2; have hfz29_3 := blk_frozen BK313.out 3; have hfz29_4 := blk_frozen BK313.out 4; have hfz29_5 := blk_frozen BK313.out 5; have hfz29_6 := blk_frozen BK313.out 6; have hfz29_7 := blk_frozen BK313.out 7; have hfz29_8 := blk_frozen BK313.out 8; have hfz29_9 := blk_frozen BK313.out 9))
           go_roundg k1
           case measure => have := HK1.out; omega
           case rel => exact ⟨(y329), (wrap64 (x4_1 + 1)), (by first | rfl | (simp; done) | (simp [*]; done)), H', ⟨by have := HK1.out; omega⟩, ⟨by (with_reducible repeat (first | apply Kd.R_alloc | apply Kd.R_drewN | apply Kd.R_drew)); exact Kd.R_mono HO331.out (fun _ hk => trivial)⟩, ⟨by repeat (first | (with_reducible first | exact HB.out | apply below_alloc | apply pw_below_drewN | apply below_drew1 | refine below_set ?_ GE313.out) | exact HB.out)⟩⟩
          ·rw [if_neg c16] at H
           have c16b0 : (((rd_T78 l0 x4_1).f2) == 2) = false := beq_eq_false_iff_ne.mpr c16
           have c16b1 : (((rd_T78 l0 x4_1).f2) != 2) = true := bne_iff_ne.mpr c16
           replace H := Option.bind_eq_some_iff.mp H
           obtain ⟨t332, A300, H⟩ := H
           replace H : (if y329.length + t332.length < 140737488355328 then (garnerref06_Put.l0 k1 l0 (y329 ++ t332) (wrap64 (x4_1 + 1))) else (none)) = some r := H
           have A30 := Aside0.mk A300
           clear A300
           by_cases c31 : y329.length + t332.length < 140737488355328
           ·rw [if_pos c31] at H
            have LMc31 := Aside0.mk c31
            clear c31
            obtain ⟨y335, hy335⟩ : ∃ y_ : List Int, y_ = (y329 ++ t332) := ⟨_, rfl⟩
            replace H : (garnerref06_Put.l0 k1 l0 y335 (wrap64 (x4_1 + 1))) = some r := by first | (rw [hy335]; with_reducible exact H) | (have H2_ := (Option.bind_some _ _).symm.trans H; rw [hy335]; with_reducible exact H2_) | (have H2_ := (Option.bind_some _ _).symm.trans H; with_reducible exact H2_) | with_reducible exact H | (rw [hy335]; exact H) | exact H
            have Ny335 := Aside0.mk hy335
            clear hy335
            have H' := Aside0.mk H
            clear H
            have p312 : 0 ≤ (x4_1 : Int) := of_decide_eq_true pS
            have q312 : x4_1 < (l0.length : Int) := of_decide_eq_true pS
            obtain ⟨ad312, A312_5, c312_5, e312, hx312_0, hx312_1, hx312_2, hx312_3, hx312_4, hx312_5, hx312_6, hx312_7, hx312_8, hx312_9, hl312_5, hi312_5⟩ := at_T78 HR0.out x4_1 p312 q312
            obtain rfl : ad305 = ad312 := (by injection e312)
            replace hx312_0 := (HB.out.cell (World.block_lt_of_cell? w _ hx312_0)).trans hx312_0
            replace hx312_1 := (HB.out.cell (World.block_lt_of_cell? w _ hx312_1)).trans hx312_1
            replace hx312_2 := (HB.out.cell (World.block_lt_of_cell? w _ hx312_2)).trans hx312_2
            replace hx312_3 := (HB.out.cell (World.block_lt_of_cell? w _ hx312_3)).trans hx312_3
            replace hx312_4 := (HB.out.cell (World.block_lt_of_cell? w _ hx312_4)).trans hx312_4
            replace hx312_5 := (HB.out.cell (World.block_lt_of_cell? w _ hx312_5)).trans hx312_5
            replace hx312_6 := (HB.out.cell (World.block_lt_of_cell? w _ hx312_6)).trans hx312_6
            replace hx312_7 := (HB.out.cell (World.block_lt_of_cell? w _ hx312_7)).trans hx312_7
            replace hx312_8 := (HB.out.cell (World.block_lt_of_cell? w _ hx312_8)).trans hx312_8
            replace hx312_9 := (HB.out.cell (World.block_lt_of_cell? w _ hx312_9)).trans hx312_9
            have HR312_5 := Aside0.mk hi312_5
            have HC312_5 := Aside0.mk hl312_5
            clear hi312_5 hl312_5
            replace p312 := eq_true p312
            replace q312 := eq_true q312
            try go_wp2_with (first | ((with_reducible refine gate_dst (N := 5) rfl ?_); refine box_event ?hg (N := 5) ?hd (cs := #[.int .i64 0, .int .i64 0, .int .i64 0, .string (⟨#[]⟩ : ByteArray), .bool false, .slice none 0 0, .int .i64 0, .int .i64 0, .int .i64 0, .int .u32 0]) (t := 78) ?hr ?_; (case hd => rfl); (case hg => rfl); (case hr => first | (go_simp; done) | (go_simp; rfl)); intro gb313 hg w32 hbox hb; have n0_ := Aside0.mk (Kd.R_below (pR HO_3.out) hb); have n1_ := Aside0.mk (below_step (pB HB.out) hb); have n2_ := Aside0.mk (hbox); have n3_ := Aside0.mk ((by rw [hg]; exact (below_size (pB HB.out)) : w.heap.size ≤ gb313)); have n4_ := Aside0.mk ((by rw [hg]; exact (below_size (pB HB.out)) : w.heap.size ≤ gb313)); clear HO_3 HB; have HO_3 := n0_; have HB := n1_; have BK313 := n2_; have GW313 := n3_; have GE313 := n4_; clear n0_ n1_ n2_ n3_ n4_ hb hbox hg; have hcz33_0 : w32.cell? ⟨gb313, 0, none⟩ = some (.int .i64 0) := (blk_cell BK313.out 0).trans rfl; have hcz33_1 : w32.cell? ⟨gb313, 1, none⟩ = some (.int .i64 0) := (blk_cell BK313.out 1).trans rfl; have hcz33_2 : w32.cell? ⟨gb313, 2, none⟩ = some (.int .i64 0) := (blk_cell BK313.out 2).trans rfl; have hcz33_3 : w32.cell? ⟨gb313, 3, none⟩ = some (.string (⟨#[]⟩ : ByteArray)) := (blk_cell BK313.out 3).trans rfl; have hcz33_4 : w32.cell? ⟨gb313, 4, none⟩ = some (.bool false) := (blk_cell BK313.out 4).trans rfl; have hcz33_5 : w32.cell? ⟨gb313, 5, none⟩ = some (.slice none 0 0) := (blk_cell BK313.out 5).trans rfl; have hcz33_6 : w32.cell? ⟨gb313, 6, none⟩ = some (.int .i64 0) := (blk_cell BK313.out 6).trans rfl; have hcz33_7 : w32.cell? ⟨gb313, 7, none⟩ = some (.int .i64 0) := (blk_cell BK313.out 7).trans rfl; have hcz33_8 : w32.cell? ⟨gb313, 8, none⟩ = some (.int .i64 0) := (blk_cell BK313.out 8).trans rfl; have hcz33_9 : w32.cell? ⟨gb313, 9, none⟩ = some (.int .u32 0) := (blk_cell BK313.out 9).trans rfl; have hfz33_0 := blk_frozen BK313.out 0; have hfz33_1 := blk_frozen BK313.out 1; have hfz33_2 := blk_frozen BK313.out 2; have hfz33_3 := blk_frozen BK313.out 3; have hfz33_4 := blk_frozen BK313.out 4; have hfz33_5 := blk_frozen BK313.out 5; have hfz33_6 := blk_frozen BK313.out 6; have hfz33_7 := blk_frozen BK313.out 7; have hfz33_8 := blk_frozen BK313.out 8; have hfz33_9 := blk_frozen BK313.out 9) | ((with_reducible refine gate_callee (f := 28) rfl ?_); refine goesL_ (some 30) rfl rfl Try.func28 (by kernel_rfl) rfl #[.int .u64 (IntKind.u64.wrap ((rd_T78 l0 x4_1).f1))] rfl pL ?_; (with_reducible refine (garnerref02_One.calls k1 (IntKind.u64.wrap ((rd_T78 l0 x4_1).f1)) t314 _ A10.out).mono ?_); rintro e w34 ⟨v315, rfl, ho0, hb⟩; refine ⟨_, rfl, ?_⟩; have n0_ := Aside0.mk (Kd.R_elder' (by (with_reducible repeat (first | apply Kd.R_alloc | apply Kd.R_drewN | apply Kd.R_drew)); exact (Kd.R_mono (Kd.R_far (p := ⟨gb313, 9, none⟩) (Kd.R_far (p := ⟨gb313, 8, none⟩) (Kd.R_far (p := ⟨gb313, 7, none⟩) (Kd.R_far (p := ⟨gb313, 6, none⟩) (Kd.R_far (p := ⟨gb313, 5, none⟩) (Kd.R_far (p := ⟨gb313, 4, none⟩) (Kd.R_far (p := ⟨gb313, 3, none⟩) (Kd.R_far (p := ⟨gb313, 2, none⟩) (Kd.R_far (p := ⟨gb313, 1, none⟩) (Kd.R_far (p := ⟨gb313, 0, none⟩) (Kd.R_types HO_3.out BK313.out (by decide)) (fun _ hk => hk.2) (.int .i64 ((rd_T78 l0 x4_1).f0))) (fun _ hk => hk.2) (.int .i64 ((rd_T78 l0 x4_1).f1))) (fun _ hk => hk.2) (.int .i64 ((rd_T78 l0 x4_1).f2))) (fun _ hk => hk.2) (.string ((rd_T78 l0 x4_1).f3))) (fun _ hk => hk.2) (.bool ((rd_T78 l0 x4_1).f4.f0))) (fun _ hk => hk.2) (.slice A312_5 ((rd_T78 l0 x4_1).f4.f1).length c312_5)) (fun _ hk => hk.2) (.int .i64 ((rd_T78 l0 x4_1).f4.f2.f0))) (fun _ hk => hk.2) (.int .i64 ((rd_T78 l0 x4_1).f4.f2.f1))) (fun _ hk => hk.2) (.int .i64 ((rd_T78 l0 x4_1).f4.f2.f2))) (fun _ hk => hk.2) (.int .u32 ((rd_T78 l0 x4_1).f4.f2.f3))) (fun _ h_ => h_.1))) (Kd.R_base ho0) hb); have n1_ := Aside0.mk (Kd.R_lower (Kd.R_new' ho0 (Kd.R_lt (by (with_reducible repeat (first | apply Kd.R_alloc | apply Kd.R_drewN | apply Kd.R_drew)); exact (Kd.R_mono (Kd.R_far (p := ⟨gb313, 9, none⟩) (Kd.R_far (p := ⟨gb313, 8, none⟩) (Kd.R_far (p := ⟨gb313, 7, none⟩) (Kd.R_far (p := ⟨gb313, 6, none⟩) (Kd.R_far (p := ⟨gb313, 5, none⟩) (Kd.R_far (p := ⟨gb313, 4, none⟩) (Kd.R_far (p := ⟨gb313, 3, none⟩) (Kd.R_far (p := ⟨gb313, 2, none⟩) (Kd.R_far (p := ⟨gb313, 1, none⟩) (Kd.R_far (p := ⟨gb313, 0, none⟩) (Kd.R_types HO_3.out BK313.out (by decide)) (fun _ hk => hk.2) (.int .i64 ((rd_T78 l0 x4_1).f0))) (fun _ hk => hk.2) (.int .i64 ((rd_T78 l0 x4_1).f1))) (fun _ hk => hk.2) (.int .i64 ((rd_T78 l0 x4_1).f2))) (fun _ hk => hk.2) (.string ((rd_T78 l0 x4_1).f3))) (fun _ hk => hk.2) (.bool ((rd_T78 l0 x4_1).f4.f0))) (fun _ hk => hk.2) (.slice A312_5 ((rd_T78 l0 x4_1).f4.f1).length c312_5)) (fun _ hk => hk.2) (.int .i64 ((rd_T78 l0 x4_1).f4.f2.f0))) (fun _ hk => hk.2) (.int .i64 ((rd_T78 l0 x4_1).f4.f2.f1))) (fun _ hk => hk.2) (.int .i64 ((rd_T78 l0 x4_1).f4.f2.f2))) (fun _ hk => hk.2) (.int .u32 ((rd_T78 l0 x4_1).f4.f2.f3))) (fun _ h_ => h_.1))))) (below_size (pE HB.out GE313.out))); have n2_ := Aside0.mk (blk_below (g := gb313) (o := .cells #[.int .i64 ((rd_T78 l0 x4_1).f0), .int .i64 ((rd_T78 l0 x4_1).f1), .int .i64 ((rd_T78 l0 x4_1).f2), .string ((rd_T78 l0 x4_1).f3), .bool ((rd_T78 l0 x4_1).f4.f0), .slice A312_5 ((rd_T78 l0 x4_1).f4.f1).length c312_5, .int .i64 ((rd_T78 l0 x4_1).f4.f2.f0), .int .i64 ((rd_T78 l0 x4_1).f4.f2.f1), .int .i64 ((rd_T78 l0 x4_1).f4.f2.f2), .int .u32 ((rd_T78 l0 x4_1).f4.f2.f3)] 78 (0, 0)) (by (with_reducible repeat (first | refine blk_drewN ?_ _ | refine blk_drew ?_ | refine blk_alloc ?_ _)); refine blk_put (cs := #[.int .i64 ((rd_T78 l0 x4_1).f0), .int .i64 ((rd_T78 l0 x4_1).f1), .int .i64 ((rd_T78 l0 x4_1).f2), .string ((rd_T78 l0 x4_1).f3), .bool ((rd_T78 l0 x4_1).f4.f0), .slice A312_5 ((rd_T78 l0 x4_1).f4.f1).length c312_5, .int .i64 ((rd_T78 l0 x4_1).f4.f2.f0), .int .i64 ((rd_T78 l0 x4_1).f4.f2.f1), .int .i64 ((rd_T78 l0 x4_1).f4.f2.f2), .int .u32 0]) ?_ 9 _ rfl; (with_reducible repeat (first | refine blk_drewN ?_ _ | refine blk_drew ?_ | refine blk_alloc ?_ _)); refine blk_put (cs := #[.int .i64 ((rd_T78 l0 x4_1).f0), .int .i64 ((rd_T78 l0 x4_1).f1), .int .i64 ((rd_T78 l0 x4_1).f2), .string ((rd_T78 l0 x4_1).f3), .bool ((rd_T78 l0 x4_1).f4.f0), .slice A312_5 ((rd_T78 l0 x4_1).f4.f1).length c312_5, .int .i64 ((rd_T78 l0 x4_1).f4.f2.f0), .int .i64 ((rd_T78 l0 x4_1).f4.f2.f1), .int .i64 0, .int .u32 0]) ?_ 8 _ rfl; (with_reducible repeat (first | refine blk_drewN ?_ _ | refine blk_drew ?_ | refine blk_alloc ?_ _)); refine blk_put (cs := #[.int .i64 ((rd_T78 l0 x4_1).f0), .int .i64 ((rd_T78 l0 x4_1).f1), .int .i64 ((rd_T78 l0 x4_1).f2), .string ((rd_T78 l0 x4_1).f3), .bool ((rd_T78 l0 x4_1).f4.f0), .slice A312_5 ((rd_T78 l0 x4_1).f4.f1).length c312_5, .int .i64 ((rd_T78 l0 x4_1).f4.f2.f0), .int .i64 0, .int .i64 0, .int .u32 0]) ?_ 7 _ rfl; (with_reducible repeat (first | refine blk_drewN ?_ _ | refine blk_drew ?_ | refine blk_alloc ?_ _)); refine blk_put (cs := #[.int .i64 ((rd_T78 l0 x4_1).f0), .int .i64 ((rd_T78 l0 x4_1).f1), .int .i64 ((rd_T78 l0 x4_1).f2), .string ((rd_T78 l0 x4_1).f3), .bool ((rd_T78 l0 x4_1).f4.f0), .slice A312_5 ((rd_T78 l0 x4_1).f4.f1).length c312_5, .int .i64 0, .int .i64 0, .int .i64 0, .int .u32 0]) ?_ 6 _ rfl; (with_reducible repeat (first | refine blk_drewN ?_ _ | refine blk_drew ?_ | refine blk_alloc ?_ _)); refine blk_put (cs := #[.int .i64 ((rd_T78 l0 x4_1).f0), .int .i64 ((rd_T78 l0 x4_1).f1), .int .i64 ((rd_T78 l0 x4_1).f2), .string ((rd_T78 l0 x4_1).f3), .bool ((rd_T78 l0 x4_1).f4.f0), .slice none 0 0, .int .i64 0, .int .i64 0, .int .i64 0, .int .u32 0]) ?_ 5 _ rfl; (with_reducible repeat (first | refine blk_drewN ?_ _ | refine blk_drew ?_ | refine blk_alloc ?_ _)); refine blk_put (cs := #[.int .i64 ((rd_T78 l0 x4_1).f0), .int .i64 ((rd_T78 l0 x4_1).f1), .int .i64 ((rd_T78 l0 x4_1).f2), .string ((rd_T78 l0 x4_1).f3), .bool false, .slice none 0 0, .int .i64 0, .int .i64 0, .int .i64 0, .int .u32 0]) ?_ 4 _ rfl; (with_reducible repeat (first | refine blk_drewN ?_ _ | refine blk_drew ?_ | refine blk_alloc ?_ _)); refine blk_put (cs := #[.int .i64 ((rd_T78 l0 x4_1).f0), .int .i64 ((rd_T78 l0 x4_1).f1), .int .i64 ((rd_T78 l0 x4_1).f2), .string (⟨#[]⟩ : ByteArray), .bool false, .slice none 0 0, .int .i64 0, .int .i64 0, .int .i64 0, .int .u32 0]) ?_ 3 _ rfl; (with_reducible repeat (first | refine blk_drewN ?_ _ | refine blk_drew ?_ | refine blk_alloc ?_ _)); refine blk_put (cs := #[.int .i64 ((rd_T78 l0 x4_1).f0), .int .i64 ((rd_T78 l0 x4_1).f1), .int .i64 0, .string (⟨#[]⟩ : ByteArray), .bool false, .slice none 0 0, .int .i64 0, .int .i64 0, .int .i64 0, .int .u32 0]) ?_ 2 _ rfl; (with_reducible repeat (first | refine blk_drewN ?_ _ | refine blk_drew ?_ | refine blk_alloc ?_ _)); refine blk_put (cs := #[.int .i64 ((rd_T78 l0 x4_1).f0), .int .i64 0, .int .i64 0, .string (⟨#[]⟩ : ByteArray), .bool false, .slice none 0 0, .int .i64 0, .int .i64 0, .int .i64 0, .int .u32 0]) ?_ 1 _ rfl; (with_reducible repeat (first | refine blk_drewN ?_ _ | refine blk_drew ?_ | refine blk_alloc ?_ _)); refine blk_put (cs := #[.int .i64 0, .int .i64 0, .int .i64 0, .string (⟨#[]⟩ : ByteArray), .bool false, .slice none 0 0, .int .i64 0, .int .i64 0, .int .i64 0, .int .u32 0]) ?_ 0 _ rfl; (with_reducible repeat (first | refine blk_drewN ?_ _ | refine blk_drew ?_ | refine blk_alloc ?_ _)); exact BK313.out) hb); have n3_ := Aside0.mk (below_step (pE HB.out GE313.out) hb); clear HO_3 BK313 HB; have HO_3 := n0_; have HO316 := n1_; have BK313 := n2_; have HB := n3_; clear n0_ n1_ n2_ n3_; (try clear hb); (try clear hb2); (try clear hk); (try clear hi); (try clear ho0); obtain ⟨Ao36, co36, eo36⟩ := Kd.R_slice HO316.out; subst eo36) | ((with_reducible refine gate_builtin (b := .append) (xs := #[.tmp 26, .tmp 30]) rfl ?_); at_builtin; refine Kd.R_append_rows (Kd.int .u8) (w0 := w) w.heap.size rfl (.tmp 26) (.tmp 30) 25 5 (.int .u8 0) 1 rfl Try.underlying25 info5 rfl (by decide) (by omega) u3 x3_1 t314 _ _ _ (fun k_ => some k_ ≠ (.slice Ao36 t314.length co36 : Value).ownBlock) (fun _ => False) rfl rfl ?aO ?aR (fun _ _ h => h) (fun _ h => h.elim) ?aF ?aB ?aS ?aL ?_; (case aR => exact pC (Kd.R_reads' HO316.out).2.2); (case aB => exact (pE HB.out GE313.out)); (case aF => exact (fun k_ hk => Kd.fresh' (Kd.R_lt (pR HO316.out)) k_ hk)); (case aO => exact (by (with_reducible repeat (first | apply Kd.R_alloc | apply Kd.R_drewN | apply Kd.R_drew)); exact Kd.R_mono HO_3.out (fun _ hk => hk.2))); (case aS => exact (below_size (pE HB.out GE313.out))); (case aL => have := LMc11.out; omega); intro v318 w35 ho hb hg hat; rw [← Ny317.out] at ho; have n0_ := Aside0.mk (blk_grown (g := gb313) (o := .cells #[.int .i64 ((rd_T78 l0 x4_1).f0), .int .i64 ((rd_T78 l0 x4_1).f1), .int .i64 ((rd_T78 l0 x4_1).f2), .string ((rd_T78 l0 x4_1).f3), .bool ((rd_T78 l0 x4_1).f4.f0), .slice A312_5 ((rd_T78 l0 x4_1).f4.f1).length c312_5, .int .i64 ((rd_T78 l0 x4_1).f4.f2.f0), .int .i64 ((rd_T78 l0 x4_1).f4.f2.f1), .int .i64 ((rd_T78 l0 x4_1).f4.f2.f2), .int .u32 ((rd_T78 l0 x4_1).f4.f2.f3)] 78 (0, 0)) (pK BK313.out) hg (Kd.R_ne HO_3.out BK313.out (by decide))); have n1_ := Aside0.mk (Kd.R_after (ok := (fun _ => True)) (pR HO316.out) hg hat); have n2_ := Aside0.mk (hb); have n3_ := Aside0.mk (ho); clear BK313 HO316 HB HO_3; have BK313 := n0_; have HO316 := n1_; have HB := n2_; have HO319 := n3_; clear n0_ n1_ n2_ n3_ ho hb hg hat))
            have n0_ := Aside0.mk (Kd.R_drew HO316.out)
            have n1_ := Aside0.mk (Kd.R_drew HO319.out)
            have n2_ := Aside0.mk (blk_drew BK313.out)
            have n3_ := Aside0.mk (below_drew1 HB.out)
            clear HO316
            clear HO319
            clear BK313
            clear HB
            have HO316 := n0_
            have HO319 := n1_
            have BK313 := n2_
            have HB := n3_
            clear n0_ n1_ n2_ n3_
            refine start_ (n := 13) (S := fun w' => w'.cell? ⟨gb313, 0, none⟩ = some (.int .i64 ((rd_T78 l0 x4_1).f0)) ∧ w'.cell? ⟨gb313, 1, none⟩ = some (.int .i64 ((rd_T78 l0 x4_1).f1)) ∧ w'.cell? ⟨gb313, 2, none⟩ = some (.int .i64 ((rd_T78 l0 x4_1).f2)) ∧ w'.cell? ⟨gb313, 3, none⟩ = some (.string ((rd_T78 l0 x4_1).f3)) ∧ w'.cell? ⟨gb313, 4, none⟩ = some (.bool ((rd_T78 l0 x4_1).f4.f0)) ∧ w'.cell? ⟨gb313, 5, none⟩ = some (.slice A312_5 ((rd_T78 l0 x4_1).f4.f1).length c312_5) ∧ w'.cell? ⟨gb313, 6, none⟩ = some (.int .i64 ((rd_T78 l0 x4_1).f4.f2.f0)) ∧ w'.cell? ⟨gb313, 7, none⟩ = some (.int .i64 ((rd_T78 l0 x4_1).f4.f2.f1)) ∧ w'.cell? ⟨gb313, 8, none⟩ = some (.int .i64 ((rd_T78 l0 x4_1).f4.f2.f2)) ∧ w'.cell? ⟨gb313, 9, none⟩ = some (.int .u32 ((rd_T78 l0 x4_1).f4.f2.f3))) (ds := []) #[false, false, false, false, false, false, false, false, false, false, false, false, false] (by kernel_rfl) rfl rfl ⟨(blk_cell BK313.out 0).trans rfl, (blk_cell BK313.out 1).trans rfl, (blk_cell BK313.out 2).trans rfl, (blk_cell BK313.out 3).trans rfl, (blk_cell BK313.out 4).trans rfl, (blk_cell BK313.out 5).trans rfl, (blk_cell BK313.out 6).trans rfl, (blk_cell BK313.out 7).trans rfl, (blk_cell BK313.out 8).trans rfl, (blk_cell BK313.out 9).trans rfl⟩ (fun hHeld => ?_); refine with_tabW garnerref06_Put.tab7 garnerref06_Put.bits7 (fun HT_ HW_ => ?_)
            generalize w35.drew = w37 at HO316 HO319 BK313 HB hHeld ⊢
            refine pure_ (i := 0) (N := some 32) (v := ?_) (a' := ?_) #[true, false, false, false, false, false, false, false, false, false, false, false, false] rfl rfl (any_of HT_.out (by kernel_rfl)) (fun _ _ _ h => h) (Or.inl ⟨by rfl, ?_⟩) ?_ ?_
            rotate_left
            ·intro w'
             go_simp
             with_reducible rfl
            rotate_left
            ·simp only [Act.put, List.setIfInBounds_toArray, List.set_cons_zero, List.set_cons_succ, i64_w, i32_w]
             rfl
            refine pure_ (i := 1) (N := some 33) (v := ?_) (a' := ?_) #[true, true, false, false, false, false, false, false, false, false, false, false, false] rfl rfl (any_of HT_.out (by kernel_rfl)) (fun _ _ _ h => h) (Or.inl ⟨by rfl, ?_⟩) ?_ ?_
            rotate_left
            ·intro w'
             go_simp
             with_reducible rfl
            rotate_left
            ·simp only [Act.put, List.setIfInBounds_toArray, List.set_cons_zero, List.set_cons_succ, i64_w, i32_w]
             rfl
            refine pure_ (i := 6) (N := some 38) (v := ?_) (a' := ?_) #[true, true, false, false, false, false, true, false, false, false, false, false, false] rfl rfl (any_of HT_.out (by kernel_rfl)) (fun _ _ _ h => h) (Or.inl ⟨by rfl, ?_⟩) ?_ ?_
            rotate_left
            ·intro w'
             go_simp
             with_reducible rfl
            rotate_left
            ·simp only [Act.put, List.setIfInBounds_toArray, List.set_cons_zero, List.set_cons_succ, i64_w, i32_w]
             rfl
            refine take_ (i := 2) (N := some 34) (v := ?_) (a' := ?_) #[true, true, true, false, false, false, true, false, false, false, false, false, false] rfl rfl (take_ofW HT_.out HW_.out (by kernel_rfl)) (fun _ _ _ h => h) (Or.inl ⟨by rfl, ?_⟩) hHeld ?_ ?_
            rotate_left
            ·rintro w' ⟨s0, s1, s2, s3, s4, s5, s6, s7, s8, s9⟩
             go_simp
             with_reducible rfl
            rotate_left
            ·simp only [Act.put, List.setIfInBounds_toArray, List.set_cons_zero, List.set_cons_succ, i64_w, i32_w]
             rfl
            refine pure_ (i := 3) (N := some 35) (v := ?_) (a' := ?_) #[true, true, true, true, false, false, true, false, false, false, false, false, false] rfl rfl (any_of HT_.out (by kernel_rfl)) (fun _ _ _ h => h) (Or.inl ⟨by rfl, ?_⟩) ?_ ?_
            rotate_left
            ·intro w'
             go_simp
             with_reducible rfl
            rotate_left
            ·simp only [Act.put, List.setIfInBounds_toArray, List.set_cons_zero, List.set_cons_succ, i64_w, i32_w]
             rfl
            refine take_ (i := 7) (N := some 39) (v := ?_) (a' := ?_) #[true, true, true, true, false, false, true, true, false, false, false, false, false] rfl rfl (take_ofW HT_.out HW_.out (by kernel_rfl)) (fun _ _ _ h => h) (Or.inl ⟨by rfl, ?_⟩) hHeld ?_ ?_
            rotate_left
            ·rintro w' ⟨s0, s1, s2, s3, s4, s5, s6, s7, s8, s9⟩
             go_simp
             with_reducible rfl
            rotate_left
            ·simp only [Act.put, List.setIfInBounds_toArray, List.set_cons_zero, List.set_cons_succ, i64_w, i32_w]
             rfl
            refine pure_ (i := 8) (N := some 40) (v := ?_) (a' := ?_) #[true, true, true, true, false, false, true, true, true, false, false, false, false] rfl rfl (any_of HT_.out (by kernel_rfl)) (fun _ _ _ h => h) (Or.inl ⟨by rfl, ?_⟩) ?_ ?_
            rotate_left
            ·intro w'
             go_simp
             with_reducible rfl
            rotate_left
            ·simp only [Act.put, List.setIfInBounds_toArray, List.set_cons_zero, List.set_cons_succ, i64_w, i32_w]
             rfl
            refine pure_ (i := 9) (N := some 41) (v := ?_) (a' := ?_) #[true, true, true, true, false, false, true, true, true, true, false, false, false] rfl rfl (any_of HT_.out (by kernel_rfl)) (fun _ _ _ h => h) (Or.inl ⟨by rfl, ?_⟩) ?_ ?_
            rotate_left
            ·intro w'
             go_simp
             with_reducible rfl
            rotate_left
            ·simp only [Act.put, List.setIfInBounds_toArray, List.set_cons_zero, List.set_cons_succ, i64_w, i32_w]
             rfl
            refine one_ (i := 4) (N := some 36) #[true, true, true, true, true, false, true, true, true, true, false, false, false] rfl rfl (one_of HT_.out (by kernel_rfl)) (by decide) (fun K hK => ?_)
            refine value_ (w1 := ?_) (v := ?_) (by rfl) rfl ?_ ?_
            rotate_left 2
            ·go_simp
             constructor
             ·rfl
             ·rfl
            refine hK.out _ _ ⟨(blk_cell (blk_alloc BK313.out _) 0).trans rfl, (blk_cell (blk_alloc BK313.out _) 1).trans rfl, (blk_cell (blk_alloc BK313.out _) 2).trans rfl, (blk_cell (blk_alloc BK313.out _) 3).trans rfl, (blk_cell (blk_alloc BK313.out _) 4).trans rfl, (blk_cell (blk_alloc BK313.out _) 5).trans rfl, (blk_cell (blk_alloc BK313.out _) 6).trans rfl, (blk_cell (blk_alloc BK313.out _) 7).trans rfl, (blk_cell (blk_alloc BK313.out _) 8).trans rfl, (blk_cell (blk_alloc BK313.out _) 9).trans rfl⟩ (fun hHeld => ?_)
            clear hK K
            refine norm_ (a' := ?_) ?_ ?_
            rotate_left
            ·show Act.put _ (some 36) _ = _
             simp only [Act.put, List.setIfInBounds_toArray, List.set_cons_zero, List.set_cons_succ, i64_w, i32_w]
             rfl
            refine one_ (i := 5) (N := some 37) #[true, true, true, true, true, true, true, true, true, true, false, false, false] rfl rfl (one_of HT_.out (by kernel_rfl)) (by decide) (fun K hK => ?_)
            refine Kd.R_append_step (Kd.int .u8) (w0 := w) w.heap.size (by rfl) (.tmp 32) (.tmp 36) 25 5 (.int .u8 0) 1 rfl Try.underlying25 info5 rfl (by decide) (by omega) v318 y317 (((rd_T78 l0 x4_1).f2) % 256) [.int .u8 (((rd_T78 l0 x4_1).f2) % 256)] (fun k_ => some k_ ≠ (.slice Ao36 t314.length co36 : Value).ownBlock) (fun _ => False) rfl rfl ?aP (fun _ hk => hk.elim) ?aF ?aO ?aB ?aS ?aL ?_
            (case aP => exact rfl)
            (case aB => exact (pE HB.out GE313.out))
            (case aF => exact (fun k_ hk => Kd.fresh' (Kd.R_lt (pR HO316.out)) k_ hk))
            (case aO => exact (pR HO319.out))
            (case aS => exact (below_size (pE HB.out GE313.out)))
            (case aL => have := LMc12.out; omega)
            intro v321 w38 ho hb hg hat
            rw [← Ny320.out] at ho
            have n0_ := Aside0.mk (blk_grown (g := gb313) (o := .cells #[.int .i64 ((rd_T78 l0 x4_1).f0), .int .i64 ((rd_T78 l0 x4_1).f1), .int .i64 ((rd_T78 l0 x4_1).f2), .string ((rd_T78 l0 x4_1).f3), .bool ((rd_T78 l0 x4_1).f4.f0), .slice A312_5 ((rd_T78 l0 x4_1).f4.f1).length c312_5, .int .i64 ((rd_T78 l0 x4_1).f4.f2.f0), .int .i64 ((rd_T78 l0 x4_1).f4.f2.f1), .int .i64 ((rd_T78 l0 x4_1).f4.f2.f2), .int .u32 ((rd_T78 l0 x4_1).f4.f2.f3)] 78 (0, 0)) (pK BK313.out) hg (Kd.R_ne HO319.out BK313.out (by decide)))
            have n1_ := Aside0.mk (Kd.R_after (ok := (fun _ => True)) (pR HO316.out) hg hat)
            have n2_ := Aside0.mk (hb)
            have n3_ := Aside0.mk (ho)
            clear BK313
            clear HO316
            clear HB
            clear HO319
            have BK313 := n0_
            have HO316 := n1_
            have HB := n2_
            have HO322 := n3_
            clear n0_ n1_ n2_ n3_
            clear ho hb hg hat
            refine hK.out _ _ ⟨(blk_cell BK313.out 0).trans rfl, (blk_cell BK313.out 1).trans rfl, (blk_cell BK313.out 2).trans rfl, (blk_cell BK313.out 3).trans rfl, (blk_cell BK313.out 4).trans rfl, (blk_cell BK313.out 5).trans rfl, (blk_cell BK313.out 6).trans rfl, (blk_cell BK313.out 7).trans rfl, (blk_cell BK313.out 8).trans rfl, (blk_cell BK313.out 9).trans rfl⟩ (fun hHeld => ?_)
            clear hK K
            refine norm_ (a' := ?_) ?_ ?_
            rotate_left
            ·show Act.put _ (some 37) _ = _
             simp only [Act.put, List.setIfInBounds_toArray, List.set_cons_zero, List.set_cons_succ, i64_w, i32_w]
             rfl
            refine one_ (i := 10) (N := some 42) #[true, true, true, true, true, true, true, true, true, true, true, false, false] rfl rfl (one_of HT_.out (by kernel_rfl)) (by decide) (fun K hK => ?_)
            refine goes_ Try.func28 (by kernel_rfl) rfl #[.int .u64 (IntKind.u64.wrap ((((rd_T78 l0 x4_1).f3).size : Int)))] (by rfl) rfl rfl pL ?_
            with_reducible refine (garnerref02_One.calls k1 (IntKind.u64.wrap ((((rd_T78 l0 x4_1).f3).size : Int))) t323 _ A13.out).mono ?_
            rintro e w39 ⟨v324, rfl, ho0, hb⟩
            refine ⟨_, rfl, ?_⟩
            have n0_ := Aside0.mk (Kd.R_elder' (pR HO316.out) (Kd.R_base ho0) hb)
            have n1_ := Aside0.mk (Kd.R_elder' (pR HO322.out) (Kd.R_base ho0) hb)
            have n2_ := Aside0.mk (Kd.R_lower (Kd.R_new' (Kd.R_new' ho0 (Kd.R_lt (pR HO316.out))) (Kd.R_lt (pR HO322.out))) (below_size (pE HB.out GE313.out)))
            have n3_ := Aside0.mk (blk_below (g := gb313) (o := .cells #[.int .i64 ((rd_T78 l0 x4_1).f0), .int .i64 ((rd_T78 l0 x4_1).f1), .int .i64 ((rd_T78 l0 x4_1).f2), .string ((rd_T78 l0 x4_1).f3), .bool ((rd_T78 l0 x4_1).f4.f0), .slice A312_5 ((rd_T78 l0 x4_1).f4.f1).length c312_5, .int .i64 ((rd_T78 l0 x4_1).f4.f2.f0), .int .i64 ((rd_T78 l0 x4_1).f4.f2.f1), .int .i64 ((rd_T78 l0 x4_1).f4.f2.f2), .int .u32 ((rd_T78 l0 x4_1).f4.f2.f3)] 78 (0, 0)) (pK BK313.out) hb)
            have n4_ := Aside0.mk (below_step (pE HB.out GE313.out) hb)
            clear HO316
            clear HO322
            clear BK313
            clear HB
            have HO316 := n0_
            have HO322 := n1_
            have HO325 := n2_
            have BK313 := n3_
            have HB := n4_
            clear n0_ n1_ n2_ n3_ n4_
            (try clear hb)
            (try clear hb2)
            (try clear hk)
            (try clear hi)
            (try clear ho0)
            obtain ⟨Ao41, co41, eo41⟩ := Kd.R_slice HO325.out
            (first | subst eo41 | (injection eo41 with f1_ f2_ f3_; have f4_ := f1_.symm; have f5_ := f3_.symm; clear f1_ f2_ f3_; subst f4_; subst f5_))
            refine hK.out _ _ ⟨(blk_cell BK313.out 0).trans rfl, (blk_cell BK313.out 1).trans rfl, (blk_cell BK313.out 2).trans rfl, (blk_cell BK313.out 3).trans rfl, (blk_cell BK313.out 4).trans rfl, (blk_cell BK313.out 5).trans rfl, (blk_cell BK313.out 6).trans rfl, (blk_cell BK313.out 7).trans rfl, (blk_cell BK313.out 8).trans rfl, (blk_cell BK313.out 9).trans rfl⟩ (fun hHeld => ?_)
            clear hK K
            refine norm_ (a' := ?_) ?_ ?_
            rotate_left
            ·show Act.put _ (some 42) _ = _
             simp only [Act.put, List.setIfInBounds_toArray, List.set_cons_zero, List.set_cons_succ, i64_w, i32_w]
             rfl
            refine one_ (i := 11) (N := some 43) #[true, true, true, true, true, true, true, true, true, true, true, true, false] rfl rfl (one_of HT_.out (by kernel_rfl)) (by decide) (fun K hK => ?_)
            refine Kd.R_append_rows_step (Kd.int .u8) (w0 := w) w.heap.size (by rfl) (.tmp 37) (.tmp 42) 25 5 (.int .u8 0) 1 rfl Try.underlying25 info5 rfl (by decide) (by omega) v321 y320 t323 _ _ _ (fun k_ => some k_ ≠ (.slice Ao36 t314.length co36 : Value).ownBlock ∧ some k_ ≠ (.slice Ao41 t323.length co41 : Value).ownBlock) (fun _ => False) rfl rfl ?aO ?aR (fun _ _ h => h) (fun _ h => h.elim) ?aF ?aB ?aS ?aL ?_
            (case aR => exact pC (Kd.R_reads' HO325.out).2.2)
            (case aB => exact (pE HB.out GE313.out))
            (case aF => exact (fun k_ hk => ⟨Kd.fresh' (Kd.R_lt (pR HO316.out)) k_ hk, Kd.fresh' (Kd.R_lt (pR HO325.out)) k_ hk⟩))
            (case aO => exact (pR HO322.out))
            (case aS => exact (below_size (pE HB.out GE313.out)))
            (case aL => have := LMc14.out; omega)
            intro v327 w40 ho hb hg hat
            rw [← Ny326.out] at ho
            have n0_ := Aside0.mk (blk_grown (g := gb313) (o := .cells #[.int .i64 ((rd_T78 l0 x4_1).f0), .int .i64 ((rd_T78 l0 x4_1).f1), .int .i64 ((rd_T78 l0 x4_1).f2), .string ((rd_T78 l0 x4_1).f3), .bool ((rd_T78 l0 x4_1).f4.f0), .slice A312_5 ((rd_T78 l0 x4_1).f4.f1).length c312_5, .int .i64 ((rd_T78 l0 x4_1).f4.f2.f0), .int .i64 ((rd_T78 l0 x4_1).f4.f2.f1), .int .i64 ((rd_T78 l0 x4_1).f4.f2.f2), .int .u32 ((rd_T78 l0 x4_1).f4.f2.f3)] 78 (0, 0)) (pK BK313.out) hg (Kd.R_ne HO322.out BK313.out (by decide)))
            have n1_ := Aside0.mk (Kd.R_after (ok := (fun k_ => some k_ ≠ (.slice Ao41 t323.length co41 : Value).ownBlock)) (by (with_reducible repeat (first | apply Kd.R_alloc | apply Kd.R_drewN | apply Kd.R_drew)); exact Kd.R_mono HO316.out (fun _ hk => ⟨hk.2, hk.1.2⟩)) hg hat)
            have n2_ := Aside0.mk (Kd.R_after (ok := (fun k_ => some k_ ≠ (.slice Ao36 t314.length co36 : Value).ownBlock)) (by (with_reducible repeat (first | apply Kd.R_alloc | apply Kd.R_drewN | apply Kd.R_drew)); exact Kd.R_mono HO325.out (fun _ hk => ⟨hk.1.2, hk.2⟩)) hg hat)
            have n3_ := Aside0.mk (hb)
            have n4_ := Aside0.mk (ho)
            clear BK313
            clear HO316
            clear HO325
            clear HB
            clear HO322
            have BK313 := n0_
            have HO316 := n1_
            have HO325 := n2_
            have HB := n3_
            have HO328 := n4_
            clear n0_ n1_ n2_ n3_ n4_
            clear ho hb hg hat
            refine hK.out _ _ ⟨(blk_cell BK313.out 0).trans rfl, (blk_cell BK313.out 1).trans rfl, (blk_cell BK313.out 2).trans rfl, (blk_cell BK313.out 3).trans rfl, (blk_cell BK313.out 4).trans rfl, (blk_cell BK313.out 5).trans rfl, (blk_cell BK313.out 6).trans rfl, (blk_cell BK313.out 7).trans rfl, (blk_cell BK313.out 8).trans rfl, (blk_cell BK313.out 9).trans rfl⟩ (fun hHeld => ?_)
            clear hK K
            refine norm_ (a' := ?_) ?_ ?_
            rotate_left
            ·show Act.put _ (some 43) _ = _
             simp only [Act.put, List.setIfInBounds_toArray, List.set_cons_zero, List.set_cons_succ, i64_w, i32_w]
             rfl
            refine pure_ (i := 12) (N := some 3) (v := ?_) (a' := ?_) #[true, true, true, true, true, true, true, true, true, true, true, true, true] rfl rfl (any_of HT_.out (by kernel_rfl)) (fun _ _ _ h => h) (Or.inl ⟨by rfl, ?_⟩) ?_ ?_
            rotate_left
            ·intro w'
             go_simp
             with_reducible rfl
            rotate_left
            ·simp only [Act.put, List.setIfInBounds_toArray, List.set_cons_zero, List.set_cons_succ, i64_w, i32_w]
             rfl
            refine done_ (done_of HT_.out (by kernel_rfl)) ?_
            have hcz42_0 : w40.cell? ⟨gb313, 0, none⟩ = some (.int .i64 ((rd_T78 l0 x4_1).f0)) := (blk_cell BK313.out 0).trans rfl
            have hcz42_1 : w40.cell? ⟨gb313, 1, none⟩ = some (.int .i64 ((rd_T78 l0 x4_1).f1)) := (blk_cell BK313.out 1).trans rfl
            have hcz42_2 : w40.cell? ⟨gb313, 2, none⟩ = some (.int .i64 ((rd_T78 l0 x4_1).f2)) := (blk_cell BK313.out 2).trans rfl
            have hcz42_3 : w40.cell? ⟨gb313, 3, none⟩ = some (.string ((rd_T78 l0 x4_1).f3)) := (blk_cell BK313.out 3).trans rfl
            have hcz42_4 : w40.cell? ⟨gb313, 4, none⟩ = some (.bool ((rd_T78 l0 x4_1).f4.f0)) := (blk_cell BK313.out 4).trans rfl
            have hcz42_5 : w40.cell? ⟨gb313, 5, none⟩ = some (.slice A312_5 ((rd_T78 l0 x4_1).f4.f1).length c312_5) := (blk_cell BK313.out 5).trans rfl
            have hcz42_6 : w40.cell? ⟨gb313, 6, none⟩ = some (.int .i64 ((rd_T78 l0 x4_1).f4.f2.f0)) := (blk_cell BK313.out 6).trans rfl
            have hcz42_7 : w40.cell? ⟨gb313, 7, none⟩ = some (.int .i64 ((rd_T78 l0 x4_1).f4.f2.f1)) := (blk_cell BK313.out 7).trans rfl
            have hcz42_8 : w40.cell? ⟨gb313, 8, none⟩ = some (.int .i64 ((rd_T78 l0 x4_1).f4.f2.f2)) := (blk_cell BK313.out 8).trans rfl
            have hcz42_9 : w40.cell? ⟨gb313, 9, none⟩ = some (.int .u32 ((rd_T78 l0 x4_1).f4.f2.f3)) := (blk_cell BK313.out 9).trans rfl
            have hfz42_0 := blk_frozen BK313.out 0
            have hfz42_1 := blk_frozen BK313.out 1
            have hfz42_2 := blk_frozen BK313.out 2
            have hfz42_3 := blk_frozen BK313.out 3
            have hfz42_4 := blk_frozen BK313.out 4
            have hfz42_5 := blk_frozen BK313.out 5
            have hfz42_6 := blk_frozen BK313.out 6
            have hfz42_7 := blk_frozen BK313.out 7
            have hfz42_8 := blk_frozen BK313.out 8
            have hfz42_9 := blk_frozen BK313.out 9
            try go_wp2_with (first | (at_builtin; refine R_append_str (w0 := w) w.heap.size rfl (.tmp 44) _ 25 9 5 rfl Try.underlying25 Try.underlying9 info5 v327 y326 ((rd_T78 l0 x4_1).f3) (fun k_ => some k_ ≠ (.slice Ao36 t314.length co36 : Value).ownBlock ∧ some k_ ≠ (.slice Ao41 t323.length co41 : Value).ownBlock) rfl rfl ?aO ?aF ?aB ?aS ?aL ?_; (case aB => exact (pE HB.out GE313.out)); (case aF => exact (fun k_ hk => ⟨Kd.fresh' (Kd.R_lt (pR HO316.out)) k_ hk, Kd.fresh' (Kd.R_lt (pR HO325.out)) k_ hk⟩)); (case aO => exact (pR HO328.out)); (case aS => exact (below_size (pE HB.out GE313.out))); (case aL => have := LMc15.out; omega); intro v330 w43 ho hb hg hat; rw [← Ny329.out] at ho; have n0_ := Aside0.mk (blk_grown (g := gb313) (o := .cells #[.int .i64 ((rd_T78 l0 x4_1).f0), .int .i64 ((rd_T78 l0 x4_1).f1), .int .i64 ((rd_T78 l0 x4_1).f2), .string ((rd_T78 l0 x4_1).f3), .bool ((rd_T78 l0 x4_1).f4.f0), .slice A312_5 ((rd_T78 l0 x4_1).f4.f1).length c312_5, .int .i64 ((rd_T78 l0 x4_1).f4.f2.f0), .int .i64 ((rd_T78 l0 x4_1).f4.f2.f1), .int .i64 ((rd_T78 l0 x4_1).f4.f2.f2), .int .u32 ((rd_T78 l0 x4_1).f4.f2.f3)] 78 (0, 0)) (pK BK313.out) hg (Kd.R_ne HO328.out BK313.out (by decide))); have n1_ := Aside0.mk (Kd.R_after (ok := (fun k_ => some k_ ≠ (.slice Ao41 t323.length co41 : Value).ownBlock)) (pR HO316.out) hg hat); have n2_ := Aside0.mk (Kd.R_after (ok := (fun k_ => some k_ ≠ (.slice Ao36 t314.length co36 : Value).ownBlock)) (pR HO325.out) hg hat); have n3_ := Aside0.mk (hb); have n4_ := Aside0.mk (ho); clear BK313 HO316 HO325 HB HO328; have BK313 := n0_; have HO316 := n1_; have HO325 := n2_; have HB := n3_; have HO331 := n4_; clear n0_ n1_ n2_ n3_ n4_ ho hb hg hat; have hcz44_0 : w43.cell? ⟨gb313, 0, none⟩ = some (.int .i64 ((rd_T78 l0 x4_1).f0)) := (blk_cell BK313.out 0).trans rfl; have hcz44_1 : w43.cell? ⟨gb313, 1, none⟩ = some (.int .i64 ((rd_T78 l0 x4_1).f1)) := (blk_cell BK313.out 1).trans rfl; have hcz44_2 : w43.cell? ⟨gb313, 2, none⟩ = some (.int .i64 ((rd_T78 l0 x4_1).f2)) := (blk_cell BK313.out 2).trans rfl; have hcz44_3 : w43.cell? ⟨gb313, 3, none⟩ = some (.string ((rd_T78 l0 x4_1).f3)) := (blk_cell BK313.out 3).trans rfl; have hcz44_4 : w43.cell? ⟨gb313, 4, none⟩ = some (.bool ((rd_T78 l0 x4_1).f4.f0)) := (blk_cell BK313.out 4).trans rfl; have hcz44_5 : w43.cell? ⟨gb313, 5, none⟩ = some (.slice A312_5 ((rd_T78 l0 x4_1).f4.f1).length c312_5) := (blk_cell BK313.out 5).trans rfl; have hcz44_6 : w43.cell? ⟨gb313, 6, none⟩ = some (.int .i64 ((rd_T78 l0 x4_1).f4.f2.f0)) := (blk_cell BK313.out 6).trans rfl; have hcz44_7 : w43.cell? ⟨gb313, 7, none⟩ = some (.int .i64 ((rd_T78 l0 x4_1).f4.f2.f1)) := (blk_cell BK313.out 7).trans rfl; have hcz44_8 : w43.cell? ⟨gb313, 8, none⟩ = some (.int .i64 ((rd_T78 l0 x4_1).f4.f2.f2)) := (blk_cell BK313.out 8).trans rfl; have hcz44_9 : w43.cell? ⟨gb313, 9, none⟩ = some (.int .u32 ((rd_T78 l0 x4_1).f4.f2.f3)) := (blk_cell BK313.out 9).trans rfl; have hfz44_0 := blk_frozen BK313.out 0; have hfz44_1 := blk_frozen BK313.out 1; have hfz44_2 := blk_frozen BK313.out 2; have hfz44_3 := blk_frozen BK313.out 3; have hfz44_4 := blk_frozen BK313.out 4; have hfz44_5 := blk_frozen BK313.out 5; have hfz44_6 := blk_frozen BK313.out 6; have hfz44_7 := blk_frozen BK313.out 7; have hfz44_8 := blk_frozen BK313.out 8; have hfz44_9 := blk_frozen BK313.out 9) | ((with_reducible refine gate_callee (f := 92) rfl ?_); refine goesL_ (some 54) rfl rfl Try.func92 (by kernel_rfl) rfl #[.agg #[.bool ((rd_T78 l0 x4_1).f4.f0), .slice A312_5 ((rd_T78 l0 x4_1).f4.f1).length c312_5, .int .i64 ((rd_T78 l0 x4_1).f4.f2.f0), .int .i64 ((rd_T78 l0 x4_1).f4.f2.f1), .int .i64 ((rd_T78 l0 x4_1).f4.f2.f2), .int .u32 ((rd_T78 l0 x4_1).f4.f2.f3)]] rfl pL ?_; (with_reducible refine (garnerref05_Put.calls k1 ((rd_T78 l0 x4_1).f4.f0) _ _ ((rd_T78 l0 x4_1).f4.f1) ((rd_T78 l0 x4_1).f4.f2.f0) ((rd_T78 l0 x4_1).f4.f2.f1) ((rd_T78 l0 x4_1).f4.f2.f2) ((rd_T78 l0 x4_1).f4.f2.f3) t332 _ ?side1 ?side2 A30.out).mono ?_); (case side1 => exact pC (Kd.C_below HR312_5.out HB.out)); (case side2 => exact HC312_5.out); rintro e w45 ⟨v333, rfl, ho0, hb⟩; refine ⟨_, rfl, ?_⟩; have n0_ := Aside0.mk (Kd.R_elder' (pR HO316.out) (Kd.R_base ho0) hb); have n1_ := Aside0.mk (Kd.R_elder' (pR HO325.out) (Kd.R_base ho0) hb); have n2_ := Aside0.mk (Kd.R_elder' (pR HO331.out) (Kd.R_base ho0) hb); have n3_ := Aside0.mk (Kd.R_lower (Kd.R_new' (Kd.R_new' (Kd.R_new' ho0 (Kd.R_lt (pR HO316.out))) (Kd.R_lt (pR HO325.out))) (Kd.R_lt (pR HO331.out))) (below_size (pE HB.out GE313.out))); have n4_ := Aside0.mk (blk_below (g := gb313) (o := .cells #[.int .i64 ((rd_T78 l0 x4_1).f0), .int .i64 ((rd_T78 l0 x4_1).f1), .int .i64 ((rd_T78 l0 x4_1).f2), .string ((rd_T78 l0 x4_1).f3), .bool ((rd_T78 l0 x4_1).f4.f0), .slice A312_5 ((rd_T78 l0 x4_1).f4.f1).length c312_5, .int .i64 ((rd_T78 l0 x4_1).f4.f2.f0), .int .i64 ((rd_T78 l0 x4_1).f4.f2.f1), .int .i64 ((rd_T78 l0 x4_1).f4.f2.f2), .int .u32 ((rd_T78 l0 x4_1).f4.f2.f3)] 78 (0, 0)) (pK BK313.out) hb); have n5_ := Aside0.mk (below_step (pE HB.out GE313.out) hb); clear HO316 HO325 HO331 BK313 HB; have HO316 := n0_; have HO325 := n1_; have HO331 := n2_; have HO334 := n3_; have BK313 := n4_; have HB := n5_; clear n0_ n1_ n2_ n3_ n4_ n5_; (try clear hb); (try clear hb2); (try clear hk); (try clear hi); (try clear ho0); obtain ⟨Ao47, co47, eo47⟩ := Kd.R_slice HO334.out; subst eo47) | ((with_reducible refine gate_builtin (b := .append) (xs := #[.tmp 51, .tmp 54]) rfl ?_); at_builtin; refine Kd.R_append_rows (Kd.int .u8) (w0 := w) w.heap.size rfl (.tmp 51) (.tmp 54) 25 5 (.int .u8 0) 1 rfl Try.underlying25 info5 rfl (by decide) (by omega) v330 y329 t332 _ _ _ (fun k_ => some k_ ≠ (.slice Ao36 t314.length co36 : Value).ownBlock ∧ some k_ ≠ (.slice Ao41 t323.length co41 : Value).ownBlock ∧ some k_ ≠ (.slice Ao47 t332.length co47 : Value).ownBlock) (fun _ => False) rfl rfl ?aO ?aR (fun _ _ h => h) (fun _ h => h.elim) ?aF ?aB ?aS ?aL ?_; (case aR => exact pC (Kd.R_reads' HO334.out).2.2); (case aB => exact (pE HB.out GE313.out)); (case aF => exact (fun k_ hk => ⟨Kd.fresh' (Kd.R_lt (pR HO316.out)) k_ hk, Kd.fresh' (Kd.R_lt (pR HO325.out)) k_ hk, Kd.fresh' (Kd.R_lt (pR HO334.out)) k_ hk⟩)); (case aO => exact (by (with_reducible repeat (first | apply Kd.R_alloc | apply Kd.R_drewN | apply Kd.R_drew)); exact Kd.R_mono HO331.out (fun _ hk => ⟨hk.1.1, ⟨hk.1.2, hk.2⟩⟩))); (case aS => exact (below_size (pE HB.out GE313.out))); (case aL => have := LMc31.out; omega); intro v336 w46 ho hb hg hat; rw [← Ny335.out] at ho; have n0_ := Aside0.mk (blk_grown (g := gb313) (o := .cells #[.int .i64 ((rd_T78 l0 x4_1).f0), .int .i64 ((rd_T78 l0 x4_1).f1), .int .i64 ((rd_T78 l0 x4_1).f2), .string ((rd_T78 l0 x4_1).f3), .bool ((rd_T78 l0 x4_1).f4.f0), .slice A312_5 ((rd_T78 l0 x4_1).f4.f1).length c312_5, .int .i64 ((rd_T78 l0 x4_1).f4.f2.f0), .int .i64 ((rd_T78 l0 x4_1).f4.f2.f1), .int .i64 ((rd_T78 l0 x4_1).f4.f2.f2), .int .u32 ((rd_T78 l0 x4_1).f4.f2.f3)] 78 (0, 0)) (pK BK313.out) hg (Kd.R_ne HO331.out BK313.out (by decide))); have n1_ := Aside0.mk (Kd.R_after (ok := (fun k_ => some k_ ≠ (.slice Ao41 t323.length co41 : Value).ownBlock ∧ some k_ ≠ (.slice Ao47 t332.length co47 : Value).ownBlock)) (by (with_reducible repeat (first | apply Kd.R_alloc | apply Kd.R_drewN | apply Kd.R_drew)); exact Kd.R_mono HO316.out (fun _ hk => ⟨⟨hk.1.1, hk.2⟩, hk.1.2⟩)) hg hat); have n2_ := Aside0.mk (Kd.R_after (ok := (fun k_ => some k_ ≠ (.slice Ao36 t314.length co36 : Value).ownBlock ∧ some k_ ≠ (.slice Ao47 t332.length co47 : Value).ownBlock)) (by (with_reducible repeat (first | apply Kd.R_alloc | apply Kd.R_drewN | apply Kd.R_drew)); exact Kd.R_mono HO325.out (fun _ hk => ⟨⟨hk.1.1, hk.2⟩, hk.1.2⟩)) hg hat); have n3_ := Aside0.mk (Kd.R_after (ok := (fun k_ => some k_ ≠ (.slice Ao36 t314.length co36 : Value).ownBlock ∧ some k_ ≠ (.slice Ao41 t323.length co41 : Value).ownBlock)) (by (with_reducible repeat (first | apply Kd.R_alloc | apply Kd.R_drewN | apply Kd.R_drew)); exact Kd.R_mono HO334.out (fun _ hk => ⟨⟨hk.1.1.2, hk.1.2⟩, hk.2⟩)) hg hat); have n4_ := Aside0.mk (hb); have n5_ := Aside0.mk (ho); clear BK313 HO316 HO325 HO334 HB HO331; have BK313 := n0_; have HO316 := n1_; have HO325 := n2_; have HO334 := n3_; have HB := n4_; have HO337 := n5_; clear n0_ n1_ n2_ n3_ n4_ n5_ ho hb hg hat))
            go_roundg k1
            case measure => have := HK1.out; omega
            case rel => exact ⟨(y335), (wrap64 (x4_1 + 1)), (by first | rfl | (simp; done) | (simp [*]; done)), H', ⟨by have := HK1.out; omega⟩, ⟨by (with_reducible repeat (first | apply Kd.R_alloc | apply Kd.R_drewN | apply Kd.R_drew)); exact Kd.R_mono HO337.out (fun _ hk => trivial)⟩, ⟨by repeat (first | (with_reducible first | exact HB.out | apply below_alloc | apply pw_below_drewN | apply below_drew1 | refine below_set ?_ GE313.out) | exact HB.out)⟩⟩
           ·rw [if_neg c31] at H
            exact absurd H (by simp)
         ·rw [if_neg c15] at H
          exact absurd H (by simp)
        ·rw [if_neg c14] at H
         exact absurd H (by simp)
       ·rw [if_neg c12] at H
        exact absurd H (by simp)
      ·rw [if_neg c11] at H
       exact absurd H (by simp)
     ·rw [if_neg c9] at H
      exact absurd H (by simp)
    ·rw [if_neg c8] at H
     have c8b0 : decide (x4_1 < (l0.length : Int)) = false := decide_eq_false c8
     clear c8
     obtain rfl := Option.some.inj H
     go_wp2
     go_ret
     exact ⟨_, by first | rfl | (simp [errW_none, errW_some] <;> rfl) | (simp [*, errW_none, errW_some] <;> rfl), by (with_reducible repeat (first | apply Kd.R_alloc | apply Kd.R_drewN | apply Kd.R_drew)); exact HO_3.out, by repeat (first | (with_reducible first | exact HB.out | apply below_alloc | apply pw_below_drewN | apply below_drew1) | exact HB.out)⟩
 ·rw [if_neg c2] at H
  exact absurd H (by simp)

end Go.Proofs.Ytohocfimdpneoaa.PEntryPuts
