/- What the law reaches, as plain Lean functions, and that the machine's calls answer just that. -/
import Derived.Test.YtapamplgajkjlaaPExportPutsx0
import Derived.Test.YtapamplgajkjlaaPExportPutsx2
import Derived.Test.YtapamplgajkjlaaPExportPutsx5
namespace Go.Proofs.Ytapamplgajkjlaa.PExportPuts
open Go.RowKit Go.Proofs.YtapamplgajkjlaaW.PrintWords Go.Proofs.YtapamplgajkjlaaW.PrintLast Go.Proofs.YtapamplgajkjlaaW.PrintMore
attribute [local go_sem] max2_int min2_int max_two min_two max_three min_three max_four min_four
set_option linter.unusedVariables false
set_option linter.unusedSimpArgs false
attribute [local go_sem] wrap64_l1 wrap64_l2 wrap64_l3 wrap64_l4 wrap64_l5 str_leq str_gtr str_geq
mutual
def export_Get.j0 : Nat → List Int → List (S135) → List (S83) → Bool → Option (Int × Int × (List (S135)) × Int)
 | 0, _, _, _, _ => none
 | k + 1, x0, x4, x6, x31 => if x31 = true then (some (0, 0, ([] : List (S135)), 2)) else (if 0 < (x6.length : Int) then ((varint_All.f k ((rd_T83 x6 0).f1) 3).bind fun bt269 => (if bt269.2.2 = 0 then (if 0 < (bt269.1.length : Int) then (if (rd bt269.1 0) > 2147483647 then (export_Get.j1 k x0 x4 x6 bt269.1 true) else (if 1 < (bt269.1.length : Int) then (export_Get.j1 k x0 x4 x6 bt269.1 (decide ((rd bt269.1 1) > 2147483647))) else (none))) else (none)) else (export_Get.j1 k x0 x4 x6 bt269.1 true))) else (none))
def export_Get.j1 : Nat → List Int → List (S135) → List (S83) → List Int → Bool → Option (Int × Int × (List (S135)) × Int)
 | 0, _, _, _, _, _ => none
 | k + 1, x0, x4, x6, x9, x54 => if x54 = true then (some (0, 0, ([] : List (S135)), 2)) else (if 1 ≤ (wrap64 ((x6.length : Int) - 1)) then (if (wrap64 ((x6.length : Int) - 1)) ≤ (x6.length : Int) then ((some ((x6.take ((wrap64 ((x6.length : Int) - 1)) : Int).toNat).drop 1 : List (S83))).bind fun y276 => (export_Get.l0 k x0 x4 x9 y276 (y276.length : Int) 0)) else (none)) else (none))
def export_Get.l0 : Nat → List Int → List (S135) → List Int → List (S83) → Int → Int → Option (Int × Int × (List (S135)) × Int)
 | 0, _, _, _, _, _, _ => none
 | k + 1, x0, x4, x9, x59, x60, x61 => if x61 < x60 then (if 0 ≤ x61 then (if x61 < (x59.length : Int) then ((export_pair.f k ((rd_T83 x59 x61).f1)).bind fun bt283 => (if bt283.2.2 = true then (if x4.length < 3518437208883 then (export_Get.l0 k x0 (x4 ++ [(⟨bt283.1, bt283.2.1⟩ : S135)]) x9 x59 x60 (wrap64 (x61 + 1))) else (none)) else (some (0, 0, ([] : List (S135)), 2)))) else (none)) else (none)) else (if 0 < (x9.length : Int) then (if 1 < (x9.length : Int) then ((export_Put.f k (wrap64 (rd x9 0)) (wrap64 (rd x9 1)) x4).bind fun bt294 => (if bt294.2 = 0 then ((bytes_Equal.f bt294.1 x0).bind fun t298 => (if t298 = true then (some (wrap64 (rd x9 0), wrap64 (rd x9 1), x4, 0)) else (some (0, 0, ([] : List (S135)), 2)))) else (some (0, 0, ([] : List (S135)), 2)))) else (none)) else (none))
end
def export_Get.f (k : Nat) (l0 : List Int) : Option (Int × Int × (List (S135)) × Int) := (frame_Scan.f k l0).bind fun bt260 => (if (bt260.1.length : Int) < 2 then (export_Get.j0 k l0 ([] : List (S135)) bt260.1 true) else (if 0 < (bt260.1.length : Int) then (export_Get.j0 k l0 ([] : List (S135)) bt260.1 (((rd_T83 bt260.1 0).f0) != 21)) else (none)))
theorem export_Get.mono_l : ∀ k, (∀ y0 y1 y2 y3, LeO (export_Get.j0 k y0 y1 y2 y3) (export_Get.j0 (k + 1) y0 y1 y2 y3)) ∧ (∀ y0 y1 y2 y3 y4, LeO (export_Get.j1 k y0 y1 y2 y3 y4) (export_Get.j1 (k + 1) y0 y1 y2 y3 y4)) ∧ (∀ y0 y1 y2 y3 y4 y5, LeO (export_Get.l0 k y0 y1 y2 y3 y4 y5) (export_Get.l0 (k + 1) y0 y1 y2 y3 y4 y5))
 | 0 => ⟨fun _ _ _ _ r h => by simp [export_Get.j0] at h, fun _ _ _ _ _ r h => by simp [export_Get.j1] at h, fun _ _ _ _ _ _ r h => by simp [export_Get.l0] at h⟩
 | k + 1 => by
  obtain ⟨ih0, ih1, ih2⟩ := export_Get.mono_l k
  refine ⟨?_, ?_, ?_⟩
  ·intro y0 y1 y2 y3
   unfold export_Get.j0
   repeat' first
   | (with_reducible exact ih0 _ _ _ _)
   | (with_reducible exact ih1 _ _ _ _ _)
   | (with_reducible exact ih2 _ _ _ _ _ _)
   | (with_reducible exact export_Put.mono _ _ _ _)
   | (with_reducible exact export_pair.mono _ _)
   | (with_reducible exact frame_Scan.mono _ _)
   | (with_reducible exact varint_All.mono _ _ _)
   | (with_reducible exact LeO.refl _)
   | (with_reducible exact LeO.none _)
   | (with_reducible refine LeO.ite ?_ ?_)
   | (with_reducible refine LeO.bind ?_ (fun _ => ?_))
   | exact ih0 _ _ _ _
   | exact ih1 _ _ _ _ _
   | exact ih2 _ _ _ _ _ _
   | exact export_Put.mono _ _ _ _
   | exact export_pair.mono _ _
   | exact frame_Scan.mono _ _
   | exact varint_All.mono _ _ _
   | exact LeO.none _
   | refine LeO.ite ?_ ?_
   | refine LeO.bind ?_ (fun _ => ?_)
  ·intro y0 y1 y2 y3 y4
   unfold export_Get.j1
   repeat' first
   | (with_reducible exact ih0 _ _ _ _)
   | (with_reducible exact ih1 _ _ _ _ _)
   | (with_reducible exact ih2 _ _ _ _ _ _)
   | (with_reducible exact export_Put.mono _ _ _ _)
   | (with_reducible exact export_pair.mono _ _)
   | (with_reducible exact frame_Scan.mono _ _)
   | (with_reducible exact varint_All.mono _ _ _)
   | (with_reducible exact LeO.refl _)
   | (with_reducible exact LeO.none _)
   | (with_reducible refine LeO.ite ?_ ?_)
   | (with_reducible refine LeO.bind ?_ (fun _ => ?_))
   | exact ih0 _ _ _ _
   | exact ih1 _ _ _ _ _
   | exact ih2 _ _ _ _ _ _
   | exact export_Put.mono _ _ _ _
   | exact export_pair.mono _ _
   | exact frame_Scan.mono _ _
   | exact varint_All.mono _ _ _
   | exact LeO.none _
   | refine LeO.ite ?_ ?_
   | refine LeO.bind ?_ (fun _ => ?_)
  ·intro y0 y1 y2 y3 y4 y5
   unfold export_Get.l0
   repeat' first
   | (with_reducible exact ih0 _ _ _ _)
   | (with_reducible exact ih1 _ _ _ _ _)
   | (with_reducible exact ih2 _ _ _ _ _ _)
   | (with_reducible exact export_Put.mono _ _ _ _)
   | (with_reducible exact export_pair.mono _ _)
   | (with_reducible exact frame_Scan.mono _ _)
   | (with_reducible exact varint_All.mono _ _ _)
   | (with_reducible exact LeO.refl _)
   | (with_reducible exact LeO.none _)
   | (with_reducible refine LeO.ite ?_ ?_)
   | (with_reducible refine LeO.bind ?_ (fun _ => ?_))
   | exact ih0 _ _ _ _
   | exact ih1 _ _ _ _ _
   | exact ih2 _ _ _ _ _ _
   | exact export_Put.mono _ _ _ _
   | exact export_pair.mono _ _
   | exact frame_Scan.mono _ _
   | exact varint_All.mono _ _ _
   | exact LeO.none _
   | refine LeO.ite ?_ ?_
   | refine LeO.bind ?_ (fun _ => ?_)
theorem export_Get.mono : ∀ a0 k, LeO (export_Get.f k a0) (export_Get.f (k + 1) a0) := by
 intro a0 k
 obtain ⟨ih0, ih1, ih2⟩ := export_Get.mono_l k
 unfold export_Get.f
 repeat' first
   | (with_reducible exact ih0 _ _ _ _)
   | (with_reducible exact ih1 _ _ _ _ _)
   | (with_reducible exact ih2 _ _ _ _ _ _)
   | (with_reducible exact export_Put.mono _ _ _ _)
   | (with_reducible exact export_pair.mono _ _)
   | (with_reducible exact frame_Scan.mono _ _)
   | (with_reducible exact varint_All.mono _ _ _)
   | (with_reducible exact LeO.refl _)
   | (with_reducible exact LeO.none _)
   | (with_reducible refine LeO.ite ?_ ?_)
   | (with_reducible refine LeO.bind ?_ (fun _ => ?_))
   | exact ih0 _ _ _ _
   | exact ih1 _ _ _ _ _
   | exact ih2 _ _ _ _ _ _
   | exact export_Put.mono _ _ _ _
   | exact export_pair.mono _ _
   | exact frame_Scan.mono _ _
   | exact varint_All.mono _ _ _
   | exact LeO.none _
   | refine LeO.ite ?_ ?_
   | refine LeO.bind ?_ (fun _ => ?_)
def export_Get.T15 : Bool × List (List Nat × List Nat) := (true, [([], []), ([0], [0]), ([1], [1]), ([2], [2]), ([], []), ([4], [4]), ([5], [5]), ([6], [6]), ([], []), ([3, 7, 8], [3, 7, 8]), ([9], [9]), ([10], [10]), ([10], [10]), ([11, 9, 0, 1, 2, 3, 4, 5, 6, 7, 8, 9, 10, 11], [11]), ([12, 13, 0, 1, 2, 3, 4, 5, 6, 7, 8, 9, 10, 11, 12, 13], [12])])
def export_Get.B15 : List Nat := [0, 1, 3, 7, 0, 16, 48, 112, 0, 511, 1023, 2047, 2047, 4095, 16383]
theorem export_Get.tab15 : rtab .any (opsOf Try.f16 15) = export_Get.T15 := by kernel_rfl
theorem export_Get.bits15 : waitsOk export_Get.T15.2 export_Get.B15 = true := by kernel_rfl
def export_Get.T18 : Bool × List (List Nat × List Nat) := (true, [([], []), ([0], [0]), ([1], [1]), ([2], [2]), ([], []), ([4], [4]), ([5], [5]), ([6], [6]), ([], []), ([3, 0, 1, 2, 3], [3]), ([7, 9, 0, 1, 2, 3, 4, 5, 6, 7, 9], [7]), ([8, 10, 0, 1, 2, 3, 4, 5, 6, 7, 8, 9, 10], [8]), ([11, 0, 1, 2, 3, 4, 5, 6, 7, 8, 9, 10, 11], [])])
def export_Get.B18 : List Nat := [0, 1, 3, 7, 0, 16, 48, 112, 0, 15, 767, 2047, 4095]
theorem export_Get.tab18 : rtab .any (opsOf Try.f16 18) = export_Get.T18 := by kernel_rfl
theorem export_Get.bits18 : waitsOk export_Get.T18.2 export_Get.B18 = true := by kernel_rfl
set_option maxHeartbeats 8000000 in
set_option maxRecDepth 100000 in
theorem export_Get.calls (k : Nat) (A0 : Option Addr) (c0 : Nat) (l0 : List Int) (r1 : Int) (r2 : Int) (r3 : List (S135)) (r4 : Int) (w : World) (hr0 : Kd.C (Kd.int .u8) w A0 l0.length l0) (hc0 : l0.length ≤ c0) (h : export_Get.f k l0 = some (r1, r2, r3, r4)) :
  Calls Try.prog 16 #[.slice A0 l0.length c0] w fun e w' => ∃ v2_ : Value, e = .returned (.tuple #[.int .i64 r1, .int .i64 r2, v2_, .int .i64 r4]) ∧ Kd.N k135 135 w' w.heap.size (fun k_ => (w.heap.size ≤ k_)) v2_ r3 ∧ Below w.heap.size w w' := by
 have hu83 := Try.underlying83
 have hu135 := Try.underlying135
 have HR0 := Aside0.mk hr0
 have HC0 := Aside0.mk hc0
 clear hr0 hc0
 have HB := Aside0.mk (Below.refl w.heap.size w)
 have H : ((frame_Scan.f k l0).bind fun bt260 => (if (bt260.1.length : Int) < 2 then (export_Get.j0 k l0 ([] : List (S135)) bt260.1 true) else (if 0 < (bt260.1.length : Int) then (export_Get.j0 k l0 ([] : List (S135)) bt260.1 (((rd_T83 bt260.1 0).f0) != 21)) else (none)))) = some (r1, r2, r3, r4) := h
 clear h
 replace H := Option.bind_eq_some_iff.mp H
 obtain ⟨⟨t260, t261, t262⟩, A20, H⟩ := H
 replace H : (if (t260.length : Int) < 2 then (export_Get.j0 k l0 ([] : List (S135)) t260 true) else (if 0 < (t260.length : Int) then (export_Get.j0 k l0 ([] : List (S135)) t260 (((rd_T83 t260 0).f0) != 21)) else (none))) = some (r1, r2, r3, r4) := H
 have A2 := Aside0.mk A20
 clear A20
 have HC3 := Aside0.mk H
 clear H
 go_enter Try.func16, Try.ntmps16
 go_upto_region 2 with (first | ((with_reducible refine gate_callee (f := 67) rfl ?_); refine goesL_ (some 18) rfl rfl Try.func67 (by kernel_rfl) rfl #[.slice A0 l0.length c0] rfl pL ?_; (with_reducible refine (frame_Scan.calls k _ _ l0 t260 t261 t262 _ ?side1 ?side2 A2.out).mono ?_); (case side1 => repeat (first | exact HR0.out | (with_reducible refine Kd.C_alloc ?_ _) | (with_reducible refine Kd.C_drewN ?_ _) | (with_reducible refine Kd.C_drew ?_))); (case side2 => exact HC0.out); rintro e w4 ⟨v263, v265, rfl, ho0, ho1, hb⟩; refine ⟨_, rfl, ?_⟩; have n0_ := Aside0.mk (Kd.N_lower (Kd.N_mono (ok' := fun k_ => (w.heap.size ≤ k_) ∧ some k_ ≠ (v265 : Value).ownBlock) (Kd.S_N (Kd.S_bound (Kd.S_apart' ho0 (Kd.R_typed ho1) (by decide)))) (fun k_ hk_ => ⟨(Nat.le_trans (below_size (pB HB.out)) hk_.2.1), hk_.1.2⟩)) (below_size (pB HB.out))); have n1_ := Aside0.mk (Kd.R_lower (Kd.R_newM (M := fun k_ => (w.heap.size ≤ k_)) ho1 (below_size (pB HB.out)) (fun k_ h_ => h_)) (below_size (pB HB.out))); have n2_ := Aside0.mk (below_step (pB HB.out) hb); clear HB; have HO264 := n0_; have HO266 := n1_; have HB := n2_; clear n0_ n1_ n2_; (try clear hb); (try clear hb2); (try clear hk); (try clear hi); (try clear ho0); (try clear ho1)))
 (try simp only [Act.put, List.setIfInBounds_toArray, List.set_cons_zero, List.set_cons_succ])
 go_cut [31] (fun v31 wc => ∃ (kq : Nat) (x31_2 : Bool), v31 = .bool x31_2 ∧ Aside0 (export_Get.j0 kq l0 ([] : List (S135)) t260 x31_2 = some (r1, r2, r3, r4)) ∧ Aside0 (kq ≤ k) ∧ Aside0 (Kd.N k135 135 wc w.heap.size (fun k_ => (w.heap.size ≤ k_) ∧ some k_ ≠ (v263 : Value).ownBlock) (.slice none 0 0) ([] : List (S135))) ∧ Aside0 (Kd.N k83 83 wc w.heap.size (fun k_ => (w.heap.size ≤ k_) ∧ some k_ ≠ ((.slice none 0 0) : Value).ownBlock) v263 t260) ∧ Aside0 (Below w.heap.size w wc))
 case first =>
  have H := HC3.out
  clear HC3
  by_cases c5 : (t260.length : Int) < 2
  ·rw [if_pos c5] at H
   have c5b0 : decide ((t260.length : Int) < 2) = true := decide_eq_true c5
   have c5b1 : decide (t260.length < 2) = true := decide_eq_true (by omega)
   clear c5
   (first | rw [c5b0] | (simp only [i64_w, i32_w]; rw [c5b0]) | skip)
   have H' := Aside0.mk H
   clear H
   obtain ⟨Ao6, co6, eo6⟩ := Kd.N_slice HO264.out
   subst eo6
   go_wp2
   go_meet
   case rel => exact ⟨_, (true), (by first | rfl | (simp; done) | (simp [*]; done)), H', ⟨by first | omega | exact Nat.le_refl _⟩, ⟨by first | exact Kd.S_nil _ _ _ _ _ | exact Kd.N_nil _ _ _ _ _ | exact Kd.V_nil _ _ _ _ _ | exact Kd.Q_nil _ _ _ _ _ | exact Kd.R_nil _ _ _ _ _⟩, ⟨by (with_reducible repeat (first | apply Kd.N_alloc | apply Kd.N_drewN | apply Kd.N_drew)); exact Kd.N_mono HO264.out (fun _ hk => ⟨hk.1, (by simp [Value.ownBlock])⟩)⟩, ⟨by repeat (first | (with_reducible first | exact HB.out | apply below_alloc | apply pw_below_drewN | apply below_drew1) | exact HB.out)⟩⟩
  ·rw [if_neg c5] at H
   have c5b0 : decide ((t260.length : Int) < 2) = false := decide_eq_false c5
   have c5b1 : decide (t260.length < 2) = false := decide_eq_false (by omega)
   clear c5
   (first | rw [c5b0] | (simp only [i64_w, i32_w]; rw [c5b0]) | skip)
   by_cases c7 : 0 < (t260.length : Int)
   ·rw [if_pos c7] at H
    have c7b0 : decide (0 < (t260.length : Int)) = true := decide_eq_true c7
    have c7b1 : decide (0 < t260.length) = true := decide_eq_true (by omega)
    clear c7
    have H' := Aside0.mk H
    clear H
    obtain ⟨Ao8, co8, eo8⟩ := Kd.N_slice HO264.out
    subst eo8
    have p267 : 0 ≤ (0 : Int) := (by omega)
    have q267 : 0 < (t260.length : Int) := of_decide_eq_true pS
    obtain ⟨ad267, A267_1, c267_1, e267, hx267_0, hx267_1, hl267_1, hi267_1⟩ := at_T83 (Kd.N_reads' HO264.out).2.2 0 p267 q267
    cases e267
    obtain ⟨ce267, hce267, hMe267, hcc267⟩ := Kd.N_get HO264.out z83 0 p267 (by first | exact q267 | exact of_decide_eq_true pS | (have e_ := (Kd.N_reads' HO264.out).1; omega))
    obtain ⟨ua267_1, uc267_1, rfl, ul267_1, ge267_1⟩ := k83_openF hMe267
    have hv267_1 := hcc267 1 _ rfl
    rw [add_field _ _ 1 (by omega)] at hv267_1
    replace hv267_1 := Option.some.inj (hv267_1.symm.trans hx267_1)
    injection hv267_1 with hva_ hvn_ hvc_
    rw [hva_] at ge267_1
    rw [hvc_] at ul267_1
    have HL267_1 := Aside0.mk (show Kd.V (Kd.int .u8) 5 _ w.heap.size _ _ ((rd_T83 t260 0).f1) from Kd.V_mk ul267_1 ge267_1)
    clear hva_ hvn_ hvc_ ge267_1 ul267_1
    clear hcc267 hce267
    have qi267 : (0 < t260.length) = True := eq_true (by omega)
    (try rw [show ((0 : Int)).toNat = 0 from rfl] at hx267_0)
    (try rw [show 0 * 2 = 0 from rfl] at hx267_0)
    (try rw [Addr.add_zero'] at hx267_0)
    (try rw [show ((0 : Int)).toNat = 0 from rfl] at hx267_1)
    (try rw [show 0 * 2 = 0 from rfl] at hx267_1)
    (try rw [Addr.add_zero'] at hx267_1)
    have HR267_1 := Aside0.mk hi267_1
    have HC267_1 := Aside0.mk hl267_1
    clear hi267_1 hl267_1
    replace p267 := eq_true p267
    replace q267 := eq_true q267
    go_wp2
    go_meet
    case rel => exact ⟨_, ((((rd_T83 t260 0).f0) != 21)), (by first | rfl | (simp; done) | (simp [*]; done)), H', ⟨by first | omega | exact Nat.le_refl _⟩, ⟨by first | exact Kd.S_nil _ _ _ _ _ | exact Kd.N_nil _ _ _ _ _ | exact Kd.V_nil _ _ _ _ _ | exact Kd.Q_nil _ _ _ _ _ | exact Kd.R_nil _ _ _ _ _⟩, ⟨by (with_reducible repeat (first | apply Kd.N_alloc | apply Kd.N_drewN | apply Kd.N_drew)); exact Kd.N_mono HO264.out (fun _ hk => ⟨hk.1, (by simp [Value.ownBlock])⟩)⟩, ⟨by repeat (first | (with_reducible first | exact HB.out | apply below_alloc | apply pw_below_drewN | apply below_drew1) | exact HB.out)⟩⟩
   ·rw [if_neg c7] at H
    exact absurd H (by simp)
 case rest =>
  clear HC3
  try clear c1
  try clear c2
  try clear p2
  try clear q2
  try clear hx2
  try clear qi2
  try clear c5
  try clear c5b0
  try clear c5b1
  try clear c6
  try clear c7
  try clear c7b0
  try clear c7b1
  try clear hx267_0
  try clear hx267_1
  try clear p267
  try clear q267
  obtain ⟨kq, x31_2, rfl, HA, HJ2, HO_4, HO_6, HB⟩ := hcut
  cases kq with
  | zero => exact absurd HA.out (by simp [export_Get.j0])
  | succ kj2 =>
   have H := HA.out
   clear HA
   simp only [export_Get.j0] at H
   by_cases c9 : x31_2 = true
   ·subst c9
    have H1 : (some (0, 0, ([] : List (S135)), 2)) = some (r1, r2, r3, r4) := by rw [if_pos rfl] at H; exact H
    clear H
    have H := H1
    clear H1
    simp only [Option.some.injEq, Prod.mk.injEq] at H
    obtain ⟨rfl, rfl, rfl, rfl⟩ := H
    go_wp2
    refine bodyPost_ret (results_list (rs := [.tmp 2, .tmp 3, .tmp 4, .tmp 5]) rfl (by simp) (.tmp (.tmp (.tmp (.tmp .nil))))) rfl ?_
    exact ⟨_, by first | rfl | (simp [errW_none, errW_some] <;> rfl) | (simp [*, errW_none, errW_some] <;> rfl), by first | exact Kd.S_nil _ _ _ _ _ | exact Kd.N_nil _ _ _ _ _ | exact Kd.V_nil _ _ _ _ _ | exact Kd.Q_nil _ _ _ _ _ | exact Kd.R_nil _ _ _ _ _, by repeat (first | (with_reducible first | exact HB.out | apply below_alloc | apply pw_below_drewN | apply below_drew1) | exact HB.out)⟩
   ·replace c9 := Bool.eq_false_iff.mpr c9
    subst c9
    have H1 : (if 0 < (t260.length : Int) then ((varint_All.f kj2 ((rd_T83 t260 0).f1) 3).bind fun bt269 => (if bt269.2.2 = 0 then (if 0 < (bt269.1.length : Int) then (if (rd bt269.1 0) > 2147483647 then (export_Get.j1 kj2 l0 ([] : List (S135)) t260 bt269.1 true) else (if 1 < (bt269.1.length : Int) then (export_Get.j1 kj2 l0 ([] : List (S135)) t260 bt269.1 (decide ((rd bt269.1 1) > 2147483647))) else (none))) else (none)) else (export_Get.j1 kj2 l0 ([] : List (S135)) t260 bt269.1 true))) else (none)) = some (r1, r2, r3, r4) := by rw [if_neg (show ¬ (false = true) by decide)] at H; exact H
    clear H
    have H := H1
    clear H1
    by_cases c10 : 0 < (t260.length : Int)
    ·rw [if_pos c10] at H
     have c10b0 : decide (0 < (t260.length : Int)) = true := decide_eq_true c10
     have c10b1 : decide (0 < t260.length) = true := decide_eq_true (by omega)
     clear c10
     replace H := Option.bind_eq_some_iff.mp H
     obtain ⟨⟨t269, t270, t271⟩, A110, H⟩ := H
     replace H : (if t271 = 0 then (if 0 < (t269.length : Int) then (if (rd t269 0) > 2147483647 then (export_Get.j1 kj2 l0 ([] : List (S135)) t260 t269 true) else (if 1 < (t269.length : Int) then (export_Get.j1 kj2 l0 ([] : List (S135)) t260 t269 (decide ((rd t269 1) > 2147483647))) else (none))) else (none)) else (export_Get.j1 kj2 l0 ([] : List (S135)) t260 t269 true)) = some (r1, r2, r3, r4) := H
     have A11 := Aside0.mk A110
     clear A110
     have HC12 := Aside0.mk H
     clear H
     obtain ⟨Ao13, co13, eo13⟩ := Kd.N_slice HO_6.out
     subst eo13
     have p268 : 0 ≤ (0 : Int) := (by omega)
     have q268 : 0 < (t260.length : Int) := of_decide_eq_true pS
     obtain ⟨ad268, A268_1, c268_1, e268, hx268_0, hx268_1, hl268_1, hi268_1⟩ := at_T83 (Kd.N_reads' HO_6.out).2.2 0 p268 q268
     cases e268
     obtain ⟨ce268, hce268, hMe268, hcc268⟩ := Kd.N_get HO_6.out z83 0 p268 (by first | exact q268 | exact of_decide_eq_true pS | (have e_ := (Kd.N_reads' HO_6.out).1; omega))
     obtain ⟨ua268_1, uc268_1, rfl, ul268_1, ge268_1⟩ := k83_openF hMe268
     have hv268_1 := hcc268 1 _ rfl
     rw [add_field _ _ 1 (by omega)] at hv268_1
     replace hv268_1 := Option.some.inj (hv268_1.symm.trans hx268_1)
     injection hv268_1 with hva_ hvn_ hvc_
     rw [hva_] at ge268_1
     rw [hvc_] at ul268_1
     have HL268_1 := Aside0.mk (show Kd.V (Kd.int .u8) 5 _ w.heap.size _ _ ((rd_T83 t260 0).f1) from Kd.V_mk ul268_1 ge268_1)
     clear hva_ hvn_ hvc_ ge268_1 ul268_1
     clear hcc268 hce268
     have qi268 : (0 < t260.length) = True := eq_true (by omega)
     (try rw [show ((0 : Int)).toNat = 0 from rfl] at hx268_0)
     (try rw [show 0 * 2 = 0 from rfl] at hx268_0)
     (try rw [Addr.add_zero'] at hx268_0)
     (try rw [show ((0 : Int)).toNat = 0 from rfl] at hx268_1)
     (try rw [show 0 * 2 = 0 from rfl] at hx268_1)
     (try rw [Addr.add_zero'] at hx268_1)
     have HR268_1 := Aside0.mk hi268_1
     have HC268_1 := Aside0.mk hl268_1
     clear hi268_1 hl268_1
     replace p268 := eq_true p268
     replace q268 := eq_true q268
     go_upto_region 5 with (first | ((with_reducible refine gate_callee (f := 68) rfl ?_); refine goesL_ (some 37) rfl rfl Try.func68 (by kernel_rfl) rfl #[.slice A268_1 ((rd_T83 t260 0).f1).length c268_1, .int .i64 3] rfl pL ?_; (with_reducible refine (varint_All.calls kj2 _ _ ((rd_T83 t260 0).f1) 3 t269 t270 t271 _ ?side1 ?side2 A11.out).mono ?_); (case side1 => repeat (first | exact (by repeat (first | (with_reducible exact HR268_1.out) | (with_reducible refine Kd.C_alloc ?_ _) | (with_reducible refine Kd.C_drewN ?_ _) | (with_reducible refine Kd.C_drew ?_) | exact HR268_1.out)) | (with_reducible refine Kd.C_alloc ?_ _) | (with_reducible refine Kd.C_drewN ?_ _) | (with_reducible refine Kd.C_drew ?_))); (case side2 => exact HC268_1.out); rintro e w14 ⟨v272, rfl, ho0, hb⟩; refine ⟨_, rfl, ?_⟩; have n0_ := Aside0.mk (Kd.N_elder' (pN HO_4.out) (Kd.R_base ho0) hb); have n1_ := Aside0.mk (Kd.N_elder' (pN HO_6.out) (Kd.R_base ho0) hb); have n2_ := Aside0.mk (Kd.V_elder' (pV HL268_1.out) (Kd.R_base ho0) hb); have n3_ := Aside0.mk (Kd.R_lower (Kd.R_newM (M := fun k_ => (w.heap.size ≤ k_)) ho0 (below_size (pB HB.out)) (fun k_ h_ => h_)) (below_size (pB HB.out))); have n4_ := Aside0.mk (Kd.C_below (by repeat (first | (with_reducible exact HR268_1.out) | (with_reducible refine Kd.C_alloc ?_ _) | (with_reducible refine Kd.C_drewN ?_ _) | (with_reducible refine Kd.C_drew ?_) | exact HR268_1.out)) hb); have n5_ := Aside0.mk (below_step (pB HB.out) hb); clear HO_4 HO_6 HL268_1 HR268_1 HB; have HO_4 := n0_; have HO_6 := n1_; have HL268_1 := n2_; have HO273 := n3_; have HR268_1 := n4_; have HB := n5_; clear n0_ n1_ n2_ n3_ n4_ n5_; (try clear hb); (try clear hb2); (try clear hk); (try clear hi); (try clear ho0)))
     (try simp only [Act.put, List.setIfInBounds_toArray, List.set_cons_zero, List.set_cons_succ])
     go_cut [54] (fun v54 wc => ∃ (kq : Nat) (x54_11 : Bool), v54 = .bool x54_11 ∧ Aside0 (export_Get.j1 kq l0 ([] : List (S135)) t260 t269 x54_11 = some (r1, r2, r3, r4)) ∧ Aside0 (kq ≤ kj2) ∧ Aside0 (Kd.N k135 135 wc w.heap.size (fun k_ => (w.heap.size ≤ k_) ∧ some k_ ≠ ((.slice (some ad268) t260.length co13) : Value).ownBlock ∧ some k_ ≠ (v272 : Value).ownBlock) (.slice none 0 0) ([] : List (S135))) ∧ Aside0 (Kd.N k83 83 wc w.heap.size (fun k_ => (w.heap.size ≤ k_) ∧ some k_ ≠ ((.slice none 0 0) : Value).ownBlock ∧ some k_ ≠ (v272 : Value).ownBlock) (.slice (some ad268) t260.length co13) t260) ∧ Aside0 (Kd.R (Kd.int .u64) 133 wc w.heap.size (fun k_ => (w.heap.size ≤ k_)) v272 t269) ∧ Aside0 (Kd.C (Kd.int .u8) wc A268_1 ((rd_T83 t260 0).f1).length ((rd_T83 t260 0).f1)) ∧ Aside0 (Below w.heap.size w wc))
     case first =>
      have H := HC12.out
      clear HC12
      by_cases c15 : t271 = 0
      ·rw [if_pos c15] at H
       have c15b0 : (t271 == 0) = true := beq_iff_eq.mpr c15
       have c15b1 : (t271 != 0) = false := bne_eq_false_iff_eq.mpr c15
       clear c15
       (first | rw [c15b0] | (simp only [i64_w, i32_w]; rw [c15b0]) | skip)
       by_cases c16 : 0 < (t269.length : Int)
       ·rw [if_pos c16] at H
        have c16b0 : decide (0 < (t269.length : Int)) = true := decide_eq_true c16
        have c16b1 : decide (0 < t269.length) = true := decide_eq_true (by omega)
        clear c16
        by_cases c17 : (rd t269 0) > 2147483647
        ·rw [if_pos c17] at H
         have c17b0 : decide (2147483647 < (rd t269 0)) = true := decide_eq_true c17
         clear c17
         have H' := Aside0.mk H
         clear H
         obtain ⟨Ao18, co18, eo18⟩ := Kd.R_slice HO273.out
         subst eo18
         have p274 : 0 ≤ (0 : Int) := (by omega)
         have q274 : 0 < (t269.length : Int) := of_decide_eq_true pS
         obtain ⟨ad274, e274, hx274_0⟩ := Kd.at_int (Kd.R_reads' HO273.out).2.2 0 p274 q274
         cases e274
         have qi274 : (0 < t269.length) = True := eq_true (by omega)
         (try rw [show ((0 : Int)).toNat = 0 from rfl] at hx274_0)
         (try rw [Addr.add_zero'] at hx274_0)
         replace p274 := eq_true p274
         replace q274 := eq_true q274
         go_wp2
         go_meet
         case rel => exact ⟨_, (true), (by first | rfl | (simp; done) | (simp [*]; done)), H', ⟨by have := HJ2.out; first | omega | exact Nat.le_refl _⟩, ⟨by (with_reducible repeat (first | apply Kd.N_alloc | apply Kd.N_drewN | apply Kd.N_drew)); exact Kd.N_mono HO_4.out (fun _ hk => ⟨hk.1.1, ⟨hk.1.2, hk.2⟩⟩)⟩, ⟨by (with_reducible repeat (first | apply Kd.N_alloc | apply Kd.N_drewN | apply Kd.N_drew)); exact Kd.N_mono HO_6.out (fun _ hk => ⟨hk.1.1, ⟨hk.1.2, hk.2⟩⟩)⟩, ⟨by (with_reducible repeat (first | apply Kd.R_alloc | apply Kd.R_drewN | apply Kd.R_drew)); exact Kd.R_mono HO273.out (fun _ hk => hk.1)⟩, ⟨by repeat (first | (with_reducible exact HR268_1.out) | (with_reducible refine Kd.C_alloc ?_ _) | (with_reducible refine Kd.C_drewN ?_ _) | (with_reducible refine Kd.C_drew ?_) | exact HR268_1.out)⟩, ⟨by repeat (first | (with_reducible first | exact HB.out | apply below_alloc | apply pw_below_drewN | apply below_drew1) | exact HB.out)⟩⟩
        ·rw [if_neg c17] at H
         have c17b0 : decide (2147483647 < (rd t269 0)) = false := decide_eq_false c17
         clear c17
         by_cases c19 : 1 < (t269.length : Int)
         ·rw [if_pos c19] at H
          have c19b0 : decide (1 < (t269.length : Int)) = true := decide_eq_true c19
          have c19b1 : decide (1 < t269.length) = true := decide_eq_true (by omega)
          clear c19
          have H' := Aside0.mk H
          clear H
          obtain ⟨Ao20, co20, eo20⟩ := Kd.R_slice HO273.out
          subst eo20
          have p274 : 0 ≤ (0 : Int) := (by omega)
          have q274 : 0 < (t269.length : Int) := of_decide_eq_true pS
          obtain ⟨ad274, e274, hx274_0⟩ := Kd.at_int (Kd.R_reads' HO273.out).2.2 0 p274 q274
          cases e274
          have qi274 : (0 < t269.length) = True := eq_true (by omega)
          (try rw [show ((0 : Int)).toNat = 0 from rfl] at hx274_0)
          (try rw [Addr.add_zero'] at hx274_0)
          replace p274 := eq_true p274
          replace q274 := eq_true q274
          have p275 : 0 ≤ (1 : Int) := (by omega)
          have q275 : 1 < (t269.length : Int) := of_decide_eq_true pS
          obtain ⟨ad275, e275, hx275_0⟩ := Kd.at_int (Kd.R_reads' HO273.out).2.2 1 p275 q275
          obtain rfl : ad274 = ad275 := (by injection e275)
          (try simp only [show (1 : Int).toNat = 1 from rfl, Nat.reduceMul, Nat.reduceEqDiff, Go.Addr.add, ↓reduceIte] at hx275_0)
          have qi275 : (1 < t269.length) = True := eq_true (by omega)
          (try rw [show ((1 : Int)).toNat = 1 from rfl] at hx275_0)
          replace p275 := eq_true p275
          replace q275 := eq_true q275
          go_wp2
          go_meet
          case rel => exact ⟨_, (decide ((rd t269 1) > 2147483647)), (by first | rfl | (simp; done) | (simp [*]; done)), H', ⟨by have := HJ2.out; first | omega | exact Nat.le_refl _⟩, ⟨by (with_reducible repeat (first | apply Kd.N_alloc | apply Kd.N_drewN | apply Kd.N_drew)); exact Kd.N_mono HO_4.out (fun _ hk => ⟨hk.1.1, ⟨hk.1.2, hk.2⟩⟩)⟩, ⟨by (with_reducible repeat (first | apply Kd.N_alloc | apply Kd.N_drewN | apply Kd.N_drew)); exact Kd.N_mono HO_6.out (fun _ hk => ⟨hk.1.1, ⟨hk.1.2, hk.2⟩⟩)⟩, ⟨by (with_reducible repeat (first | apply Kd.R_alloc | apply Kd.R_drewN | apply Kd.R_drew)); exact Kd.R_mono HO273.out (fun _ hk => hk.1)⟩, ⟨by repeat (first | (with_reducible exact HR268_1.out) | (with_reducible refine Kd.C_alloc ?_ _) | (with_reducible refine Kd.C_drewN ?_ _) | (with_reducible refine Kd.C_drew ?_) | exact HR268_1.out)⟩, ⟨by repeat (first | (with_reducible first | exact HB.out | apply below_alloc | apply pw_below_drewN | apply below_drew1) | exact HB.out)⟩⟩
         ·rw [if_neg c19] at H
          exact absurd H (by simp)
       ·rw [if_neg c16] at H
        exact absurd H (by simp)
      ·rw [if_neg c15] at H
       have c15b0 : (t271 == 0) = false := beq_eq_false_iff_ne.mpr c15
       have c15b1 : (t271 != 0) = true := bne_iff_ne.mpr c15
       (first | rw [c15b0] | (simp only [i64_w, i32_w]; rw [c15b0]) | skip)
       have H' := Aside0.mk H
       clear H
       go_wp2
       go_meet
       case rel => exact ⟨_, (true), (by first | rfl | (simp; done) | (simp [*]; done)), H', ⟨by have := HJ2.out; first | omega | exact Nat.le_refl _⟩, ⟨by (with_reducible repeat (first | apply Kd.N_alloc | apply Kd.N_drewN | apply Kd.N_drew)); exact Kd.N_mono HO_4.out (fun _ hk => ⟨hk.1.1, ⟨hk.1.2, hk.2⟩⟩)⟩, ⟨by (with_reducible repeat (first | apply Kd.N_alloc | apply Kd.N_drewN | apply Kd.N_drew)); exact Kd.N_mono HO_6.out (fun _ hk => ⟨hk.1.1, ⟨hk.1.2, hk.2⟩⟩)⟩, ⟨by (with_reducible repeat (first | apply Kd.R_alloc | apply Kd.R_drewN | apply Kd.R_drew)); exact Kd.R_mono HO273.out (fun _ hk => hk.1)⟩, ⟨by repeat (first | (with_reducible exact HR268_1.out) | (with_reducible refine Kd.C_alloc ?_ _) | (with_reducible refine Kd.C_drewN ?_ _) | (with_reducible refine Kd.C_drew ?_) | exact HR268_1.out)⟩, ⟨by repeat (first | (with_reducible first | exact HB.out | apply below_alloc | apply pw_below_drewN | apply below_drew1) | exact HB.out)⟩⟩
     case rest =>
      clear HC12
      try clear c1
      try clear c2
      try clear p2
      try clear q2
      try clear hx2
      try clear qi2
      try clear c5
      try clear c5b0
      try clear c5b1
      try clear c6
      try clear c7
      try clear c7b0
      try clear c7b1
      try clear c9
      try clear c10
      try clear c10b0
      try clear c10b1
      try clear c15
      try clear c15b0
      try clear c15b1
      try clear c16
      try clear c16b0
      try clear c16b1
      try clear c17
      try clear c17b0
      try clear c19
      try clear c19b0
      try clear c19b1
      try clear hx267_0
      try clear hx267_1
      try clear hx268_0
      try clear hx268_1
      try clear hx274_0
      try clear hx275_0
      try clear p2
      try clear p267
      try clear p268
      try clear p274
      try clear p275
      try clear q2
      try clear q267
      try clear q268
      try clear q274
      try clear q275
      obtain ⟨kq, x54_11, rfl, HA, HJ11, HO_4, HO_6, HO_9, HR268_1, HB⟩ := hcut
      cases kq with
      | zero => exact absurd HA.out (by simp [export_Get.j1])
      | succ kj11 =>
       have H := HA.out
       clear HA
       simp only [export_Get.j1] at H
       by_cases c21 : x54_11 = true
       ·subst c21
        have H1 : (some (0, 0, ([] : List (S135)), 2)) = some (r1, r2, r3, r4) := by rw [if_pos rfl] at H; exact H
        clear H
        have H := H1
        clear H1
        simp only [Option.some.injEq, Prod.mk.injEq] at H
        obtain ⟨rfl, rfl, rfl, rfl⟩ := H
        go_wp2
        refine bodyPost_ret (results_list (rs := [.tmp 2, .tmp 3, .tmp 4, .tmp 5]) rfl (by simp) (.tmp (.tmp (.tmp (.tmp .nil))))) rfl ?_
        exact ⟨_, by first | rfl | (simp [errW_none, errW_some] <;> rfl) | (simp [*, errW_none, errW_some] <;> rfl), by first | exact Kd.S_nil _ _ _ _ _ | exact Kd.N_nil _ _ _ _ _ | exact Kd.V_nil _ _ _ _ _ | exact Kd.Q_nil _ _ _ _ _ | exact Kd.R_nil _ _ _ _ _, by repeat (first | (with_reducible first | exact HB.out | apply below_alloc | apply pw_below_drewN | apply below_drew1) | exact HB.out)⟩
       ·replace c21 := Bool.eq_false_iff.mpr c21
        subst c21
        have H1 : (if 1 ≤ (wrap64 ((t260.length : Int) - 1)) then (if (wrap64 ((t260.length : Int) - 1)) ≤ (t260.length : Int) then ((some ((t260.take ((wrap64 ((t260.length : Int) - 1)) : Int).toNat).drop 1 : List (S83))).bind fun y276 => (export_Get.l0 kj11 l0 ([] : List (S135)) t269 y276 (y276.length : Int) 0)) else (none)) else (none)) = some (r1, r2, r3, r4) := by rw [if_neg (show ¬ (false = true) by decide)] at H; exact H
        clear H
        have H := H1
        clear H1
        by_cases c22 : 1 ≤ (wrap64 ((t260.length : Int) - 1))
        ·rw [if_pos c22] at H
         have c22b0 := eq_true c22
         have c22b1 : decide (1 ≤ (wrap64 ((t260.length : Int) - 1))) = true := decide_eq_true c22
         clear c22
         by_cases c23 : (wrap64 ((t260.length : Int) - 1)) ≤ (t260.length : Int)
         ·rw [if_pos c23] at H
          have c23b0 := eq_true c23
          have c23b1 : decide ((wrap64 ((t260.length : Int) - 1)) ≤ (t260.length : Int)) = true := decide_eq_true c23
          clear c23
          obtain ⟨y276, hy276⟩ : ∃ y_ : List (S83), y_ = ((t260.take ((wrap64 ((t260.length : Int) - 1)) : Int).toNat).drop 1) := ⟨_, rfl⟩
          replace H : (export_Get.l0 kj11 l0 ([] : List (S135)) t269 y276 (y276.length : Int) 0) = some (r1, r2, r3, r4) := by first | (rw [hy276]; with_reducible exact H) | (have H2_ := (Option.bind_some _ _).symm.trans H; rw [hy276]; with_reducible exact H2_) | (have H2_ := (Option.bind_some _ _).symm.trans H; with_reducible exact H2_) | with_reducible exact H | (rw [hy276]; exact H) | exact H
          have Ny276 := Aside0.mk hy276
          clear hy276
          have H' := Aside0.mk H
          clear H
          have q24 : ((wrap64 ((t260.length : Int) - 1)) : Int) ≤ ((t260.length : Int) : Int) := of_decide_eq_true pS
          obtain ⟨i024, hi024, _, hsz24, _⟩ := info_parts info83
          have hroom24 : t260.length ≤ co13 := (Kd.N_reads' HO_6.out).2.1
          have hC24 : Kd.F k83 _ _ (some ad268) t260.length t260 := (Kd.V_at (base := w.heap.size) (Kd.N_V HO_6.out)).2.2
          have ql24 : (1 : Int) ≤ ((wrap64 ((t260.length : Int) - 1)) : Int) := of_decide_eq_true pS
          have hcut24 := cut_mid (P := Try.prog) 92 83 .i64 .i64 Try.underlying92 hi024 2 hsz24 (some ad268) t260.length co13 1 (wrap64 ((t260.length : Int) - 1)) (by omega) ql24 q24 hroom24
          have hr24 := Kd.F_mid (lo := (1 : Int).toNat) (hi := ((wrap64 ((t260.length : Int) - 1)) : Int).toNat) (c := co13) hC24 (by omega) (by omega) hroom24
          obtain ⟨A24, hA24⟩ : ∃ A1, A1 = (if co13 = (1 : Int).toNat then (some ad268) else ((some ad268) : Option Addr).map (·.add ((1 : Int).toNat * 2))) := ⟨_, rfl⟩
          obtain ⟨c24, hc24⟩ : ∃ c1, c1 = co13 - (1 : Int).toNat := ⟨_, rfl⟩
          have hy24 : y276.length = ((wrap64 ((t260.length : Int) - 1)) : Int).toNat - (1 : Int).toNat := (by rw [Ny276.out, List.length_drop, List.length_take] <;> omega)
          rw [show ((t260).take ((wrap64 ((t260.length : Int) - 1)) : Int).toNat).drop (1 : Int).toNat = y276 from Ny276.out.symm] at hr24
          replace hr24 : Kd.F k83 _ _ A24 y276.length y276 := (by rw [hA24]; exact hr24)
          rw [← hy24, ← hA24, ← hc24] at hcut24
          have HO280 := Aside0.mk (show Kd.V k83 83 _ w.heap.size _ (.slice A24 y276.length c24) y276 from Kd.V_mk (by rw [hy24, hc24]; exact Nat.sub_le_sub_right (Nat.le_trans (by omega) hroom24) _) hr24)
          have HC280 := Aside0.mk (show y276.length ≤ c24 from by rw [hy24, hc24]; exact Nat.sub_le_sub_right (Nat.le_trans (by omega) hroom24) _)
          clear hr24 hC24 hroom24 hi024 hsz24 hc24
          have KY24 := Aside0.mk hy24
          have KA24 := Aside0.mk hA24
          clear hy24 hA24
          replace q24 := eq_true q24
          go_wp2
          go_loopg [4, 61] kj11 (fun kq v4 v61 w' => ∃ (x4_3 : List (S135)) (x61_3 : Int), v61 = .int .i64 x61_3 ∧ Aside0 (export_Get.l0 kq l0 x4_3 t269 y276 (y276.length : Int) x61_3 = some (r1, r2, r3, r4)) ∧ Aside0 (kq ≤ kj11) ∧ Aside0 (Kd.N k135 135 w' w.heap.size (fun k_ => (w.heap.size ≤ k_) ∧ some k_ ≠ (v272 : Value).ownBlock) v4 x4_3) ∧ Aside0 (Kd.R (Kd.int .u64) 133 w' w.heap.size (fun k_ => (w.heap.size ≤ k_)) v272 t269) ∧ Aside0 (Kd.V k83 83 w' w.heap.size (fun k_ => (w.heap.size ≤ k_) ∧ some k_ ≠ (v4 : Value).ownBlock ∧ some k_ ≠ (v272 : Value).ownBlock) (.slice A24 y276.length c24) y276) ∧ Aside0 (Below w.heap.size w w'))
          case atStart => exact ⟨(([] : List (S135))), (0), (by first | rfl | (simp; done) | (simp [*]; done)), H', ⟨Nat.le_refl _⟩, ⟨by (with_reducible repeat (first | apply Kd.N_alloc | apply Kd.N_drewN | apply Kd.N_drew)); exact Kd.N_mono HO_4.out (fun _ hk => ⟨hk.1, hk.2.2⟩)⟩, ⟨by (with_reducible repeat (first | apply Kd.R_alloc | apply Kd.R_drewN | apply Kd.R_drew)); exact HO_9.out⟩, ⟨by (with_reducible repeat (first | apply Kd.V_alloc | apply Kd.V_drewN | apply Kd.V_drew)); exact HO280.out⟩, ⟨by repeat (first | (with_reducible first | exact HB.out | apply below_alloc | apply pw_below_drewN | apply below_drew1) | exact HB.out)⟩⟩
          case round =>
           clear H'
           try clear c1
           try clear c2
           try clear p2
           try clear q2
           try clear hx2
           try clear qi2
           try clear c5
           try clear c5b0
           try clear c5b1
           try clear c6
           try clear p6
           try clear c7
           try clear c7b0
           try clear c7b1
           try clear c9
           try clear c10
           try clear c10b0
           try clear c10b1
           try clear c15
           try clear c15b0
           try clear c15b1
           try clear c16
           try clear c16b0
           try clear c16b1
           try clear c17
           try clear c17b0
           try clear c19
           try clear c19b0
           try clear c19b1
           try clear c21
           try clear c22
           try clear c22b0
           try clear c22b1
           try clear c23
           try clear c23b0
           try clear c23b1
           try clear c24
           try clear q24
           try clear hx267_0
           try clear hx267_1
           try clear hx268_0
           try clear hx268_1
           try clear hx274_0
           try clear hx275_0
           try clear p2
           try clear p267
           try clear p268
           try clear p274
           try clear p275
           try clear q2
           try clear q24
           try clear q267
           try clear q268
           try clear q274
           try clear q275
           obtain ⟨x4_3, x61_3, rfl, HA, HK3, HO_4, HO_9, HO_59, HB⟩ := hrel
           cases gk with
           | zero => exact absurd HA.out (by simp [export_Get.l0])
           | succ k3 =>
            have H := HA.out
            clear HA
            simp only [export_Get.l0] at H
            by_cases c25 : x61_3 < (y276.length : Int)
            ·rw [if_pos c25] at H
             have c25b0 : decide (x61_3 < (y276.length : Int)) = true := decide_eq_true c25
             clear c25
             by_cases c26 : 0 ≤ x61_3
             ·rw [if_pos c26] at H
              have c26b0 : decide (0 ≤ x61_3) = true := decide_eq_true c26
              clear c26
              by_cases c27 : x61_3 < (y276.length : Int)
              ·rw [if_pos c27] at H
               have c27b0 : decide (x61_3 < (y276.length : Int)) = true := decide_eq_true c27
               clear c27
               replace H := Option.bind_eq_some_iff.mp H
               obtain ⟨⟨t283, t284, t287⟩, A280, H⟩ := H
               replace H : (if t287 = true then (if x4_3.length < 3518437208883 then (export_Get.l0 k3 l0 (x4_3 ++ [(⟨t283, t284⟩ : S135)]) t269 y276 (y276.length : Int) (wrap64 (x61_3 + 1))) else (none)) else (some (0, 0, ([] : List (S135)), 2))) = some (r1, r2, r3, r4) := H
               have A28 := Aside0.mk A280
               clear A280
               by_cases c29 : t287 = true
               ·subst c29
                have H1 : (if x4_3.length < 3518437208883 then (export_Get.l0 k3 l0 (x4_3 ++ [(⟨t283, t284⟩ : S135)]) t269 y276 (y276.length : Int) (wrap64 (x61_3 + 1))) else (none)) = some (r1, r2, r3, r4) := by rw [if_pos rfl] at H; exact H
                clear H
                have H := H1
                clear H1
                by_cases c30 : x4_3.length < 3518437208883
                ·rw [if_pos c30] at H
                 have LMc30 := Aside0.mk c30
                 clear c30
                 obtain ⟨y289, hy289⟩ : ∃ y_ : List (S135), y_ = (x4_3 ++ [(⟨t283, t284⟩ : S135)]) := ⟨_, rfl⟩
                 replace H : (export_Get.l0 k3 l0 y289 t269 y276 (y276.length : Int) (wrap64 (x61_3 + 1))) = some (r1, r2, r3, r4) := by first | (rw [hy289]; with_reducible exact H) | (have H2_ := (Option.bind_some _ _).symm.trans H; rw [hy289]; with_reducible exact H2_) | (have H2_ := (Option.bind_some _ _).symm.trans H; with_reducible exact H2_) | with_reducible exact H | (rw [hy289]; exact H) | exact H
                 have Ny289 := Aside0.mk hy289
                 clear hy289
                 have H' := Aside0.mk H
                 clear H
                 have p281 : 0 ≤ (x61_3 : Int) := of_decide_eq_true pS
                 have q281 : x61_3 < (y276.length : Int) := of_decide_eq_true pS
                 obtain ⟨ad281, A281_1, c281_1, e281, hx281_0, hx281_1, hl281_1, hi281_1⟩ := at_T83 (Kd.V_reads' HO_59.out).2.2 x61_3 p281 q281
                 cases e281
                 obtain ⟨ce281, hce281, hMe281, hcc281⟩ := Kd.V_get HO_59.out z83 x61_3 p281 (by first | exact q281 | exact of_decide_eq_true pS | (have e_ := (Kd.V_reads' HO_59.out).1; omega))
                 obtain ⟨ua281_1, uc281_1, rfl, ul281_1, ge281_1⟩ := k83_openF hMe281
                 have hv281_1 := hcc281 1 _ rfl
                 rw [add_field _ _ 1 (by omega)] at hv281_1
                 replace hv281_1 := Option.some.inj (hv281_1.symm.trans hx281_1)
                 injection hv281_1 with hva_ hvn_ hvc_
                 rw [hva_] at ge281_1
                 rw [hvc_] at ul281_1
                 have HL281_1 := Aside0.mk (show Kd.V (Kd.int .u8) 5 _ w.heap.size _ _ ((rd_T83 y276 x61_3).f1) from Kd.V_mk ul281_1 ge281_1)
                 clear hva_ hvn_ hvc_ ge281_1 ul281_1
                 clear hcc281 hce281
                 have HR281_1 := Aside0.mk hi281_1
                 have HC281_1 := Aside0.mk hl281_1
                 clear hi281_1 hl281_1
                 replace p281 := eq_true p281
                 replace q281 := eq_true q281
                 go_wp2_with (first | ((with_reducible refine gate_dst (N := 12) rfl ?_); refine box_event ?hg (N := 12) ?hd (cs := #[.int .i64 0, .slice none 0 0]) (t := 83) ?hr ?_; (case hd => rfl); (case hg => rfl); (case hr => first | (go_simp; done) | (go_simp; rfl)); intro gb282 hg w31 hbox hb; have n0_ := Aside0.mk (Kd.N_below (Kd.N_elderB (pN HO_4.out) gb282 (Nat.le_of_eq hg.symm)) hb); have n1_ := Aside0.mk (Kd.R_below (pR HO_9.out) hb); have n2_ := Aside0.mk (Kd.V_below (Kd.V_elderB (pV HO_59.out) gb282 (Nat.le_of_eq hg.symm)) hb); have n3_ := Aside0.mk (Kd.V_below (Kd.V_elderB (pV HL281_1.out) gb282 (Nat.le_of_eq hg.symm)) hb); have n4_ := Aside0.mk (Kd.C_below (by repeat (first | (with_reducible exact HR281_1.out) | (with_reducible refine Kd.C_alloc ?_ _) | (with_reducible refine Kd.C_drewN ?_ _) | (with_reducible refine Kd.C_drew ?_) | exact HR281_1.out)) hb); have n5_ := Aside0.mk (below_step (pB HB.out) hb); have n6_ := Aside0.mk (hbox); have n7_ := Aside0.mk ((by rw [hg]; exact (below_size (pB HB.out)) : w.heap.size ≤ gb282)); have n8_ := Aside0.mk ((by rw [hg]; exact (below_size (pB HB.out)) : w.heap.size ≤ gb282)); clear HO_4 HO_9 HO_59 HL281_1 HR281_1 HB; have HO_4 := n0_; have HO_9 := n1_; have HO_59 := n2_; have HL281_1 := n3_; have HR281_1 := n4_; have HB := n5_; have BK282 := n6_; have GW282 := n7_; have GE282 := n8_; clear n0_ n1_ n2_ n3_ n4_ n5_ n6_ n7_ n8_ hb hbox hg; have hcz32_0 : w31.cell? ⟨gb282, 0, none⟩ = some (.int .i64 0) := (blk_cell BK282.out 0).trans rfl; have hcz32_1 : w31.cell? ⟨gb282, 1, none⟩ = some (.slice none 0 0) := (blk_cell BK282.out 1).trans rfl; have hfz32_0 := blk_frozen BK282.out 0; have hfz32_1 := blk_frozen BK282.out 1) | ((with_reducible refine gate_callee (f := 69) rfl ?_); refine goesL_ (some 68) rfl rfl Try.func69 (by kernel_rfl) rfl #[.slice A281_1 ((rd_T83 y276 x61_3).f1).length c281_1] rfl pL ?_; (with_reducible refine (export_pair.calls k3 _ _ ((rd_T83 y276 x61_3).f1) t283 t284 true _ ?side1 ?side2 A28.out).mono ?_); (case side1 => repeat (first | exact ((Kd.V_reads' (by (with_reducible repeat (first | apply Kd.V_alloc | apply Kd.V_drewN | apply Kd.V_drew)); exact (Kd.V_mono (Kd.V_far (p := ⟨gb282, 1, none⟩) (Kd.V_far (p := ⟨gb282, 0, none⟩) (Kd.V_mono HL281_1.out (fun k_ hk => (⟨hk, hk.2⟩ : _ ∧ k_ ≠ gb282))) (fun _ hk => hk.2) (.int .i64 ((rd_T83 y276 x61_3).f0))) (fun _ hk => hk.2) (.slice A281_1 ((rd_T83 y276 x61_3).f1).length c281_1)) (fun _ h_ => h_.1)))).2.2) | (with_reducible refine Kd.C_alloc ?_ _) | (with_reducible refine Kd.C_drewN ?_ _) | (with_reducible refine Kd.C_drew ?_))); (case side2 => exact HC281_1.out); rintro e w33 ⟨v285, rfl, ho0, hb⟩; refine ⟨_, rfl, ?_⟩; have n0_ := Aside0.mk (Kd.N_elder' (by (with_reducible repeat (first | apply Kd.N_alloc | apply Kd.N_drewN | apply Kd.N_drew)); exact (Kd.N_mono (Kd.N_far (p := ⟨gb282, 1, none⟩) (Kd.N_far (p := ⟨gb282, 0, none⟩) (Kd.N_mono HO_4.out (fun k_ hk => (⟨hk, hk.2⟩ : _ ∧ k_ ≠ gb282))) (fun _ hk => hk.2) (.int .i64 ((rd_T83 y276 x61_3).f0))) (fun _ hk => hk.2) (.slice A281_1 ((rd_T83 y276 x61_3).f1).length c281_1)) (fun _ h_ => h_.1))) (Kd.R_base ho0) hb); have n1_ := Aside0.mk (Kd.R_below (by (with_reducible repeat (first | apply Kd.R_alloc | apply Kd.R_drewN | apply Kd.R_drew)); exact (Kd.R_mono (Kd.R_far (p := ⟨gb282, 1, none⟩) (Kd.R_far (p := ⟨gb282, 0, none⟩) (Kd.R_types HO_9.out BK282.out (by decide)) (fun _ hk => hk.2) (.int .i64 ((rd_T83 y276 x61_3).f0))) (fun _ hk => hk.2) (.slice A281_1 ((rd_T83 y276 x61_3).f1).length c281_1)) (fun _ h_ => h_.1))) hb); have n2_ := Aside0.mk (Kd.V_elder' (by (with_reducible repeat (first | apply Kd.V_alloc | apply Kd.V_drewN | apply Kd.V_drew)); exact (Kd.V_mono (Kd.V_far (p := ⟨gb282, 1, none⟩) (Kd.V_far (p := ⟨gb282, 0, none⟩) (Kd.V_mono HO_59.out (fun k_ hk => (⟨hk, hk.2⟩ : _ ∧ k_ ≠ gb282))) (fun _ hk => hk.2) (.int .i64 ((rd_T83 y276 x61_3).f0))) (fun _ hk => hk.2) (.slice A281_1 ((rd_T83 y276 x61_3).f1).length c281_1)) (fun _ h_ => h_.1))) (Kd.R_base ho0) hb); have n3_ := Aside0.mk (Kd.V_elder' (by (with_reducible repeat (first | apply Kd.V_alloc | apply Kd.V_drewN | apply Kd.V_drew)); exact (Kd.V_mono (Kd.V_far (p := ⟨gb282, 1, none⟩) (Kd.V_far (p := ⟨gb282, 0, none⟩) (Kd.V_mono HL281_1.out (fun k_ hk => (⟨hk, hk.2⟩ : _ ∧ k_ ≠ gb282))) (fun _ hk => hk.2) (.int .i64 ((rd_T83 y276 x61_3).f0))) (fun _ hk => hk.2) (.slice A281_1 ((rd_T83 y276 x61_3).f1).length c281_1)) (fun _ h_ => h_.1))) (Kd.R_base ho0) hb); have n4_ := Aside0.mk (Kd.R_lower (Kd.R_newM (M := fun k_ => (w.heap.size ≤ k_)) ho0 (below_size (pE HB.out GE282.out)) (fun k_ h_ => h_)) (below_size (pE HB.out GE282.out))); have n5_ := Aside0.mk (Kd.C_below ((Kd.V_reads' (by (with_reducible repeat (first | apply Kd.V_alloc | apply Kd.V_drewN | apply Kd.V_drew)); exact (Kd.V_mono (Kd.V_far (p := ⟨gb282, 1, none⟩) (Kd.V_far (p := ⟨gb282, 0, none⟩) (Kd.V_mono HL281_1.out (fun k_ hk => (⟨hk, hk.2⟩ : _ ∧ k_ ≠ gb282))) (fun _ hk => hk.2) (.int .i64 ((rd_T83 y276 x61_3).f0))) (fun _ hk => hk.2) (.slice A281_1 ((rd_T83 y276 x61_3).f1).length c281_1)) (fun _ h_ => h_.1)))).2.2) hb); have n6_ := Aside0.mk (blk_below (g := gb282) (o := .cells #[.int .i64 ((rd_T83 y276 x61_3).f0), .slice A281_1 ((rd_T83 y276 x61_3).f1).length c281_1] 83 (0, 0)) (by (with_reducible repeat (first | refine blk_drewN ?_ _ | refine blk_drew ?_ | refine blk_alloc ?_ _)); refine blk_put (cs := #[.int .i64 ((rd_T83 y276 x61_3).f0), .slice none 0 0]) ?_ 1 _ rfl; (with_reducible repeat (first | refine blk_drewN ?_ _ | refine blk_drew ?_ | refine blk_alloc ?_ _)); refine blk_put (cs := #[.int .i64 0, .slice none 0 0]) ?_ 0 _ rfl; (with_reducible repeat (first | refine blk_drewN ?_ _ | refine blk_drew ?_ | refine blk_alloc ?_ _)); exact BK282.out) hb); have n7_ := Aside0.mk (below_step (pE HB.out GE282.out) hb); clear HO_4 HO_9 HO_59 HL281_1 HR281_1 BK282 HB; have HO_4 := n0_; have HO_9 := n1_; have HO_59 := n2_; have HL281_1 := n3_; have HO286 := n4_; have HR281_1 := n5_; have BK282 := n6_; have HB := n7_; clear n0_ n1_ n2_ n3_ n4_ n5_ n6_ n7_; (try clear hb); (try clear hb2); (try clear hk); (try clear hi); (try clear ho0)) | ((with_reducible refine gate_dst (N := 13) rfl ?_); refine box_event ?hg (N := 13) ?hd (cs := #[.string (⟨#[]⟩ : ByteArray), .slice none 0 0]) (t := 135) ?hr ?_; (case hd => rfl); (case hg => rfl); (case hr => first | (go_simp; done) | (go_simp; rfl)); intro gb288 hg w34 hbox hb; have n0_ := Aside0.mk (Kd.N_below (Kd.N_elderB (pN HO_4.out) gb288 (Nat.le_of_eq hg.symm)) hb); have n1_ := Aside0.mk (Kd.R_below (pR HO_9.out) hb); have n2_ := Aside0.mk (Kd.V_below (Kd.V_elderB (pV HO_59.out) gb288 (Nat.le_of_eq hg.symm)) hb); have n3_ := Aside0.mk (Kd.V_below (Kd.V_elderB (pV HL281_1.out) gb288 (Nat.le_of_eq hg.symm)) hb); have n4_ := Aside0.mk (Kd.R_below (pR HO286.out) hb); have n5_ := Aside0.mk (Kd.C_below (by repeat (first | (with_reducible exact HR281_1.out) | (with_reducible refine Kd.C_alloc ?_ _) | (with_reducible refine Kd.C_drewN ?_ _) | (with_reducible refine Kd.C_drew ?_) | exact HR281_1.out)) hb); have n6_ := Aside0.mk (blk_below (g := gb282) (o := .cells #[.int .i64 ((rd_T83 y276 x61_3).f0), .slice A281_1 ((rd_T83 y276 x61_3).f1).length c281_1] 83 (0, 0)) (pK BK282.out) hb); have n7_ := Aside0.mk (below_step (pE HB.out GE282.out) hb); have n8_ := Aside0.mk (hbox); have n9_ := Aside0.mk ((by rw [hg]; exact (below_size (pE HB.out GE282.out)) : w.heap.size ≤ gb288)); have n10_ := Aside0.mk ((by rw [hg]; exact (below_size (pE HB.out GE282.out)) : w.heap.size ≤ gb288)); have n11_ := Aside0.mk ((by rw [hg]; exact Nat.ne_of_lt (blk_lt (g := gb282) (o := .cells #[.int .i64 ((rd_T83 y276 x61_3).f0), .slice A281_1 ((rd_T83 y276 x61_3).f1).length c281_1] 83 (0, 0)) (pK BK282.out)) : gb282 ≠ gb288)); have n12_ := Aside0.mk ((by rw [hg]; exact Nat.ne_of_gt (blk_lt (g := gb282) (o := .cells #[.int .i64 ((rd_T83 y276 x61_3).f0), .slice A281_1 ((rd_T83 y276 x61_3).f1).length c281_1] 83 (0, 0)) (pK BK282.out)) : gb288 ≠ gb282)); clear HO_4 HO_9 HO_59 HL281_1 HO286 HR281_1 BK282 HB; have HO_4 := n0_; have HO_9 := n1_; have HO_59 := n2_; have HL281_1 := n3_; have HO286 := n4_; have HR281_1 := n5_; have BK282 := n6_; have HB := n7_; have BK288 := n8_; have GW288 := n9_; have GE288 := n10_; have NB282_288 := n11_; have NB288_282 := n12_; clear n0_ n1_ n2_ n3_ n4_ n5_ n6_ n7_ n8_ n9_ n10_ n11_ n12_ hb hbox hg; have hnb35 := NB288_282.out; have hnc35 := NB282_288.out; have hcz36_0 : w34.cell? ⟨gb288, 0, none⟩ = some (.string (⟨#[]⟩ : ByteArray)) := (blk_cell BK288.out 0).trans rfl; have hcz36_1 : w34.cell? ⟨gb288, 1, none⟩ = some (.slice none 0 0) := (blk_cell BK288.out 1).trans rfl; have hfz36_0 := blk_frozen BK288.out 0; have hfz36_1 := blk_frozen BK288.out 1; obtain ⟨Ao37, co37, eo37⟩ := Kd.R_slice HO286.out; subst eo37) | ((with_reducible refine gate_store (t := 135) (p := 13) rfl ?_); refine store_event (t := 135) (p := 13) (v := ?vo_w38) (w1 := ((w34.setCell ⟨gb288, 0, none⟩ (.string t283)).setCell ⟨gb288, 1, none⟩ (.slice Ao37 t284.length co37))) ?hg ?ho ?hn ?hr ?_; (case ho => rfl); (case hg => rfl); (case hn => rfl); (case hr => first | (go_simp; done) | (go_simp; rfl)); intro w38 hw; have n0_ : Aside0 (Kd.N k135 135 w38 w.heap.size (fun k_ => (w.heap.size ≤ k_) ∧ some k_ ≠ (v272 : Value).ownBlock ∧ some k_ ≠ (.slice Ao37 t284.length co37 : Value).ownBlock ∧ k_ ≠ gb282 ∧ k_ ≠ gb288) u4 x4_3) := ⟨(by rw [hw]; exact (by (with_reducible repeat (first | apply Kd.N_alloc | apply Kd.N_drewN | apply Kd.N_drew)); exact Kd.N_mono (Kd.N_far (p := ⟨gb288, 1, none⟩) (Kd.N_far (p := ⟨gb288, 0, none⟩) (Kd.N_mono HO_4.out (fun k_ hk => (⟨hk, hk.2⟩ : _ ∧ k_ ≠ gb288))) (fun _ hk => hk.2) (.string t283)) (fun _ hk => hk.2) (.slice Ao37 t284.length co37)) (fun _ hk => ⟨hk.1.1.1.1.1, ⟨hk.1.1.1.1.2, ⟨hk.1.1.2, ⟨hk.1.1.1.2, hk.1.2⟩⟩⟩⟩)))⟩; have n1_ : Aside0 (Kd.R (Kd.int .u64) 133 w38 w.heap.size (fun k_ => (w.heap.size ≤ k_)) v272 t269) := ⟨(by rw [hw]; exact (by (with_reducible repeat (first | apply Kd.R_alloc | apply Kd.R_drewN | apply Kd.R_drew)); exact Kd.R_mono (Kd.R_far (p := ⟨gb288, 1, none⟩) (Kd.R_far (p := ⟨gb288, 0, none⟩) (Kd.R_types HO_9.out BK288.out (by decide)) (fun _ hk => hk.2) (.string t283)) (fun _ hk => hk.2) (.slice Ao37 t284.length co37)) (fun _ hk => hk.1)))⟩; have n2_ : Aside0 (Kd.V k83 83 w38 w.heap.size (fun k_ => (w.heap.size ≤ k_) ∧ some k_ ≠ (u4 : Value).ownBlock ∧ some k_ ≠ (v272 : Value).ownBlock ∧ some k_ ≠ (.slice Ao37 t284.length co37 : Value).ownBlock ∧ k_ ≠ gb282 ∧ k_ ≠ gb288) (.slice (some ad281) y276.length c24) y276) := ⟨(by rw [hw]; exact (by (with_reducible repeat (first | apply Kd.V_alloc | apply Kd.V_drewN | apply Kd.V_drew)); exact Kd.V_mono (Kd.V_far (p := ⟨gb288, 1, none⟩) (Kd.V_far (p := ⟨gb288, 0, none⟩) (Kd.V_mono HO_59.out (fun k_ hk => (⟨hk, hk.2⟩ : _ ∧ k_ ≠ gb288))) (fun _ hk => hk.2) (.string t283)) (fun _ hk => hk.2) (.slice Ao37 t284.length co37)) (fun _ hk => ⟨hk.1.1.1.1.1, ⟨hk.1.1.1.1.2.1, ⟨hk.1.1.1.1.2.2, ⟨hk.1.1.2, ⟨hk.1.1.1.2, hk.1.2⟩⟩⟩⟩⟩)))⟩; have n3_ : Aside0 (Kd.V (Kd.int .u8) 5 w38 w.heap.size (fun k_ => (w.heap.size ≤ k_) ∧ some k_ ≠ (u4 : Value).ownBlock ∧ some k_ ≠ (v272 : Value).ownBlock ∧ some k_ ≠ (.slice Ao37 t284.length co37 : Value).ownBlock ∧ k_ ≠ gb282 ∧ k_ ≠ gb288) (.slice A281_1 ((rd_T83 y276 x61_3).f1).length c281_1) ((rd_T83 y276 x61_3).f1)) := ⟨(by rw [hw]; exact (by (with_reducible repeat (first | apply Kd.V_alloc | apply Kd.V_drewN | apply Kd.V_drew)); exact Kd.V_mono (Kd.V_far (p := ⟨gb288, 1, none⟩) (Kd.V_far (p := ⟨gb288, 0, none⟩) (Kd.V_mono HL281_1.out (fun k_ hk => (⟨hk, hk.2⟩ : _ ∧ k_ ≠ gb288))) (fun _ hk => hk.2) (.string t283)) (fun _ hk => hk.2) (.slice Ao37 t284.length co37)) (fun _ hk => ⟨hk.1.1.1.1.1, ⟨hk.1.1.1.1.2.1, ⟨hk.1.1.1.1.2.2, ⟨hk.1.1.2, ⟨hk.1.1.1.2, hk.1.2⟩⟩⟩⟩⟩)))⟩; have n4_ : Aside0 (Kd.R (Kd.int .u8) 5 w38 w.heap.size (fun k_ => (w.heap.size ≤ k_)) (.slice Ao37 t284.length co37) t284) := ⟨(by rw [hw]; exact (by (with_reducible repeat (first | apply Kd.R_alloc | apply Kd.R_drewN | apply Kd.R_drew)); exact Kd.R_mono (Kd.R_far (p := ⟨gb288, 1, none⟩) (Kd.R_far (p := ⟨gb288, 0, none⟩) (Kd.R_types HO286.out BK288.out (by decide)) (fun _ hk => hk.2) (.string t283)) (fun _ hk => hk.2) (.slice Ao37 t284.length co37)) (fun _ hk => hk.1.1)))⟩; have n5_ : Aside0 (w38.heap[gb282]? = some (.cells #[.int .i64 ((rd_T83 y276 x61_3).f0), .slice A281_1 ((rd_T83 y276 x61_3).f1).length c281_1] 83 (0, 0))) := ⟨(by rw [hw]; exact (by (with_reducible repeat (first | refine blk_drewN ?_ _ | refine blk_drew ?_ | refine blk_alloc ?_ _)); refine blk_far ?_ NB282_288.out _; (with_reducible repeat (first | refine blk_drewN ?_ _ | refine blk_drew ?_ | refine blk_alloc ?_ _)); refine blk_far ?_ NB282_288.out _; (with_reducible repeat (first | refine blk_drewN ?_ _ | refine blk_drew ?_ | refine blk_alloc ?_ _)); exact BK282.out))⟩; have n6_ : Aside0 (w38.heap[gb288]? = some (.cells #[.string t283, .slice Ao37 t284.length co37] 135 (0, 0))) := ⟨(by rw [hw]; exact (by (with_reducible repeat (first | refine blk_drewN ?_ _ | refine blk_drew ?_ | refine blk_alloc ?_ _)); refine blk_put (cs := #[.string t283, .slice none 0 0]) ?_ 1 _ rfl; (with_reducible repeat (first | refine blk_drewN ?_ _ | refine blk_drew ?_ | refine blk_alloc ?_ _)); refine blk_put (cs := #[.string (⟨#[]⟩ : ByteArray), .slice none 0 0]) ?_ 0 _ rfl; (with_reducible repeat (first | refine blk_drewN ?_ _ | refine blk_drew ?_ | refine blk_alloc ?_ _)); exact BK288.out))⟩; have n7_ : Aside0 (Below w.heap.size w w38) := ⟨(by rw [hw]; exact (by repeat (first | (with_reducible first | exact HB.out | apply below_alloc | apply pw_below_drewN | apply below_drew1 | refine below_set ?_ GE282.out | refine below_set ?_ GE288.out) | exact HB.out)))⟩; clear hw HO_4 HO_9 HO_59 HL281_1 HO286 BK282 BK288 HB; have HO_4 := n0_; have HO_9 := n1_; have HO_59 := n2_; have HL281_1 := n3_; have HO286 := n4_; have BK282 := n5_; have BK288 := n6_; have HB := n7_; clear n0_ n1_ n2_ n3_ n4_ n5_ n6_ n7_; have hcz39_0 : w38.cell? ⟨gb288, 0, none⟩ = some (.string t283) := (blk_cell BK288.out 0).trans rfl; have hcz39_1 : w38.cell? ⟨gb288, 1, none⟩ = some (.slice Ao37 t284.length co37) := (blk_cell BK288.out 1).trans rfl; have hfz39_0 := blk_frozen BK288.out 0; have hfz39_1 := blk_frozen BK288.out 1) | ((with_reducible refine gate_builtin (b := .append) (xs := #[.tmp 73, .tmp 75]) rfl ?_); at_builtin; refine Kd.N_append k135 (w0 := w) w.heap.size rfl (.tmp 73) (.tmp 75) 24 135 (.agg #[(.string ⟨#[]⟩), (.slice none 0 0)]) 40 rfl Try.underlying24 info135 rfl (by decide) (by omega) u4 x4_3 (⟨t283, t284⟩ : S135) [.string t283, .slice Ao37 t284.length co37] (fun k_ => (w.heap.size ≤ k_) ∧ some k_ ≠ (v272 : Value).ownBlock ∧ k_ ≠ gb282 ∧ k_ ≠ gb288) (fun k_ => ((fun k_ => (w.heap.size ≤ k_) ∧ some k_ ≠ (v272 : Value).ownBlock ∧ k_ ≠ gb282 ∧ k_ ≠ gb288)) k_ ∧ some k_ ≠ (u4 : Value).ownBlock) rfl rfl ?aP (fun _ hk => hk) ?aF ?aO ?aB ?aS ?aL ?_; (case aP => exact (k135_mkF _ _ (⟨t283, t284⟩ : S135) (Kd.R_reads' (Kd.R_mono (ok' := (fun k_ => ((fun k_ => (w.heap.size ≤ k_) ∧ some k_ ≠ (v272 : Value).ownBlock ∧ k_ ≠ gb282 ∧ k_ ≠ gb288)) k_ ∧ some k_ ≠ (u4 : Value).ownBlock)) (Kd.R_types (Kd.R_types (Kd.R_apart' (Kd.R_apart' (HO286.out) (Kd.R_typed HO_9.out) (by decide)) (Kd.N_typed HO_4.out) (by decide)) BK282.out (by decide)) BK288.out (by decide)) (fun k_ hk => ⟨⟨hk.1.1.1.1, ⟨hk.1.1.1.2, ⟨hk.1.2, hk.2⟩⟩⟩, hk.1.1.2⟩))).2.1 (Kd.R_F (Kd.R_mono (ok' := (fun k_ => ((fun k_ => (w.heap.size ≤ k_) ∧ some k_ ≠ (v272 : Value).ownBlock ∧ k_ ≠ gb282 ∧ k_ ≠ gb288)) k_ ∧ some k_ ≠ (u4 : Value).ownBlock)) (Kd.R_types (Kd.R_types (Kd.R_apart' (Kd.R_apart' (HO286.out) (Kd.R_typed HO_9.out) (by decide)) (Kd.N_typed HO_4.out) (by decide)) BK282.out (by decide)) BK288.out (by decide)) (fun k_ hk => ⟨⟨hk.1.1.1.1, ⟨hk.1.1.1.2, ⟨hk.1.2, hk.2⟩⟩⟩, hk.1.1.2⟩))))); (case aB => exact (by repeat (first | (with_reducible first | exact HB.out | apply below_alloc | apply pw_below_drewN | apply below_drew1 | refine below_set ?_ GE282.out | refine below_set ?_ GE288.out) | exact HB.out))); (case aF => exact (fun k_ hk => ⟨(Nat.le_trans (below_size (by repeat (first | (with_reducible first | exact HB.out | apply below_alloc | apply pw_below_drewN | apply below_drew1 | refine below_set ?_ GE282.out | refine below_set ?_ GE288.out) | exact HB.out))) hk), Kd.fresh' (Kd.R_lt (pR HO_9.out)) k_ hk, Kd.freshB (g := gb282) (o := .cells #[.int .i64 ((rd_T83 y276 x61_3).f0), .slice A281_1 ((rd_T83 y276 x61_3).f1).length c281_1] 83 (0, 0)) (pK BK282.out) k_ hk, Kd.freshB (g := gb288) (o := .cells #[.string t283, .slice Ao37 t284.length co37] 135 (0, 0)) (pK BK288.out) k_ hk⟩)); (case aO => exact (by (with_reducible repeat (first | apply Kd.N_alloc | apply Kd.N_drewN | apply Kd.N_drew)); exact Kd.N_mono HO_4.out (fun _ hk => ⟨hk.1, ⟨hk.2.1, ⟨hk.2.2.2.1, hk.2.2.2.2⟩⟩⟩))); (case aS => exact (below_size (by repeat (first | (with_reducible first | exact HB.out | apply below_alloc | apply pw_below_drewN | apply below_drew1 | refine below_set ?_ GE282.out | refine below_set ?_ GE288.out) | exact HB.out)))); (case aL => have := LMc30.out; omega); intro v290 w40 ho hb hg hat; rw [← Ny289.out] at ho; have n0_ := Aside0.mk (Kd.R_over' (pR HO_9.out) (Kd.N_typed (pN HO_4.out)) (by decide) hg); have n1_ := Aside0.mk (Kd.V_afterv (ok := (fun k_ => (w.heap.size ≤ k_) ∧ some k_ ≠ (v272 : Value).ownBlock ∧ some k_ ≠ (.slice Ao37 t284.length co37 : Value).ownBlock ∧ k_ ≠ gb282 ∧ k_ ≠ gb288)) (by (with_reducible repeat (first | apply Kd.V_alloc | apply Kd.V_drewN | apply Kd.V_drew)); exact Kd.V_mono HO_59.out (fun _ hk => ⟨⟨hk.1, ⟨hk.2.2.1, ⟨hk.2.2.2.1, ⟨hk.2.2.2.2.1, hk.2.2.2.2.2⟩⟩⟩⟩, hk.2.1⟩)) hg hat); have n2_ := Aside0.mk (Kd.V_afterv (ok := (fun k_ => (w.heap.size ≤ k_) ∧ some k_ ≠ (v272 : Value).ownBlock ∧ some k_ ≠ (.slice Ao37 t284.length co37 : Value).ownBlock ∧ k_ ≠ gb282 ∧ k_ ≠ gb288)) (by (with_reducible repeat (first | apply Kd.V_alloc | apply Kd.V_drewN | apply Kd.V_drew)); exact Kd.V_mono HL281_1.out (fun _ hk => ⟨⟨hk.1, ⟨hk.2.2.1, ⟨hk.2.2.2.1, ⟨hk.2.2.2.2.1, hk.2.2.2.2.2⟩⟩⟩⟩, hk.2.1⟩)) hg hat); have n3_ := Aside0.mk (blk_grown (g := gb282) (o := .cells #[.int .i64 ((rd_T83 y276 x61_3).f0), .slice A281_1 ((rd_T83 y276 x61_3).f1).length c281_1] 83 (0, 0)) (pK BK282.out) hg (Kd.N_ne HO_4.out BK282.out (by decide))); have n4_ := Aside0.mk (blk_grown (g := gb288) (o := .cells #[.string t283, .slice Ao37 t284.length co37] 135 (0, 0)) (pK BK288.out) hg (Kd.N_away HO_4.out (fun _ hk => hk.2.2.2.2))); have n5_ := Aside0.mk (hb); have n6_ := Aside0.mk (ho); clear HO_9 HO_59 HL281_1 BK282 BK288 HB HO_4 HO286; have HO_9 := n0_; have HO_59 := n1_; have HL281_1 := n2_; have BK282 := n3_; have BK288 := n4_; have HB := n5_; have HO291 := n6_; clear n0_ n1_ n2_ n3_ n4_ n5_ n6_ ho hb hg hat))
                 go_roundg k3
                 case measure => have := HJ2.out; have := HJ11.out; have := HK3.out; omega
                 case rel => exact ⟨(y289), (wrap64 (x61_3 + 1)), (by first | rfl | (simp; done) | (simp [*]; done)), H', ⟨by have := HJ2.out; have := HJ11.out; have := HK3.out; omega⟩, ⟨by (with_reducible repeat (first | apply Kd.N_alloc | apply Kd.N_drewN | apply Kd.N_drew)); exact Kd.N_mono HO291.out (fun _ hk => ⟨hk.1, hk.2.1⟩)⟩, ⟨by (with_reducible repeat (first | apply Kd.R_alloc | apply Kd.R_drewN | apply Kd.R_drew)); exact HO_9.out⟩, ⟨by (with_reducible repeat (first | apply Kd.V_alloc | apply Kd.V_drewN | apply Kd.V_drew)); exact Kd.V_mono HO_59.out (fun _ hk => ⟨hk.1.1, ⟨hk.2, hk.1.2.1⟩⟩)⟩, ⟨by repeat (first | (with_reducible first | exact HB.out | apply below_alloc | apply pw_below_drewN | apply below_drew1 | refine below_set ?_ GE282.out | refine below_set ?_ GE288.out) | exact HB.out)⟩⟩
                ·rw [if_neg c30] at H
                 exact absurd H (by simp)
               ·replace c29 := Bool.eq_false_iff.mpr c29
                subst c29
                have H1 : (some (0, 0, ([] : List (S135)), 2)) = some (r1, r2, r3, r4) := by rw [if_neg (show ¬ (false = true) by decide)] at H; exact H
                clear H
                have H := H1
                clear H1
                simp only [Option.some.injEq, Prod.mk.injEq] at H
                obtain ⟨rfl, rfl, rfl, rfl⟩ := H
                have p281 : 0 ≤ (x61_3 : Int) := of_decide_eq_true pS
                have q281 : x61_3 < (y276.length : Int) := of_decide_eq_true pS
                obtain ⟨ad281, A281_1, c281_1, e281, hx281_0, hx281_1, hl281_1, hi281_1⟩ := at_T83 (Kd.V_reads' HO_59.out).2.2 x61_3 p281 q281
                cases e281
                obtain ⟨ce281, hce281, hMe281, hcc281⟩ := Kd.V_get HO_59.out z83 x61_3 p281 (by first | exact q281 | exact of_decide_eq_true pS | (have e_ := (Kd.V_reads' HO_59.out).1; omega))
                obtain ⟨ua281_1, uc281_1, rfl, ul281_1, ge281_1⟩ := k83_openF hMe281
                have hv281_1 := hcc281 1 _ rfl
                rw [add_field _ _ 1 (by omega)] at hv281_1
                replace hv281_1 := Option.some.inj (hv281_1.symm.trans hx281_1)
                injection hv281_1 with hva_ hvn_ hvc_
                rw [hva_] at ge281_1
                rw [hvc_] at ul281_1
                have HL281_1 := Aside0.mk (show Kd.V (Kd.int .u8) 5 _ w.heap.size _ _ ((rd_T83 y276 x61_3).f1) from Kd.V_mk ul281_1 ge281_1)
                clear hva_ hvn_ hvc_ ge281_1 ul281_1
                clear hcc281 hce281
                have HR281_1 := Aside0.mk hi281_1
                have HC281_1 := Aside0.mk hl281_1
                clear hi281_1 hl281_1
                replace p281 := eq_true p281
                replace q281 := eq_true q281
                go_wp2_with (first | ((with_reducible refine gate_dst (N := 12) rfl ?_); refine box_event ?hg (N := 12) ?hd (cs := #[.int .i64 0, .slice none 0 0]) (t := 83) ?hr ?_; (case hd => rfl); (case hg => rfl); (case hr => first | (go_simp; done) | (go_simp; rfl)); intro gb282 hg w41 hbox hb; have n0_ := Aside0.mk (Kd.N_below (Kd.N_elderB (pN HO_4.out) gb282 (Nat.le_of_eq hg.symm)) hb); have n1_ := Aside0.mk (Kd.R_below (pR HO_9.out) hb); have n2_ := Aside0.mk (Kd.V_below (Kd.V_elderB (pV HO_59.out) gb282 (Nat.le_of_eq hg.symm)) hb); have n3_ := Aside0.mk (Kd.V_below (Kd.V_elderB (pV HL281_1.out) gb282 (Nat.le_of_eq hg.symm)) hb); have n4_ := Aside0.mk (Kd.C_below (by repeat (first | (with_reducible exact HR281_1.out) | (with_reducible refine Kd.C_alloc ?_ _) | (with_reducible refine Kd.C_drewN ?_ _) | (with_reducible refine Kd.C_drew ?_) | exact HR281_1.out)) hb); have n5_ := Aside0.mk (below_step (pB HB.out) hb); have n6_ := Aside0.mk (hbox); have n7_ := Aside0.mk ((by rw [hg]; exact (below_size (pB HB.out)) : w.heap.size ≤ gb282)); have n8_ := Aside0.mk ((by rw [hg]; exact (below_size (pB HB.out)) : w.heap.size ≤ gb282)); clear HO_4 HO_9 HO_59 HL281_1 HR281_1 HB; have HO_4 := n0_; have HO_9 := n1_; have HO_59 := n2_; have HL281_1 := n3_; have HR281_1 := n4_; have HB := n5_; have BK282 := n6_; have GW282 := n7_; have GE282 := n8_; clear n0_ n1_ n2_ n3_ n4_ n5_ n6_ n7_ n8_ hb hbox hg; have hcz42_0 : w41.cell? ⟨gb282, 0, none⟩ = some (.int .i64 0) := (blk_cell BK282.out 0).trans rfl; have hcz42_1 : w41.cell? ⟨gb282, 1, none⟩ = some (.slice none 0 0) := (blk_cell BK282.out 1).trans rfl; have hfz42_0 := blk_frozen BK282.out 0; have hfz42_1 := blk_frozen BK282.out 1) | ((with_reducible refine gate_callee (f := 69) rfl ?_); refine goesL_ (some 68) rfl rfl Try.func69 (by kernel_rfl) rfl #[.slice A281_1 ((rd_T83 y276 x61_3).f1).length c281_1] rfl pL ?_; (with_reducible refine (export_pair.calls k3 _ _ ((rd_T83 y276 x61_3).f1) t283 t284 false _ ?side1 ?side2 A28.out).mono ?_); (case side1 => repeat (first | exact ((Kd.V_reads' (by (with_reducible repeat (first | apply Kd.V_alloc | apply Kd.V_drewN | apply Kd.V_drew)); exact (Kd.V_mono (Kd.V_far (p := ⟨gb282, 1, none⟩) (Kd.V_far (p := ⟨gb282, 0, none⟩) (Kd.V_mono HL281_1.out (fun k_ hk => (⟨hk, hk.2⟩ : _ ∧ k_ ≠ gb282))) (fun _ hk => hk.2) (.int .i64 ((rd_T83 y276 x61_3).f0))) (fun _ hk => hk.2) (.slice A281_1 ((rd_T83 y276 x61_3).f1).length c281_1)) (fun _ h_ => h_.1)))).2.2) | (with_reducible refine Kd.C_alloc ?_ _) | (with_reducible refine Kd.C_drewN ?_ _) | (with_reducible refine Kd.C_drew ?_))); (case side2 => exact HC281_1.out); rintro e w43 ⟨v285, rfl, ho0, hb⟩; refine ⟨_, rfl, ?_⟩; have n0_ := Aside0.mk (Kd.N_elder' (by (with_reducible repeat (first | apply Kd.N_alloc | apply Kd.N_drewN | apply Kd.N_drew)); exact (Kd.N_mono (Kd.N_far (p := ⟨gb282, 1, none⟩) (Kd.N_far (p := ⟨gb282, 0, none⟩) (Kd.N_mono HO_4.out (fun k_ hk => (⟨hk, hk.2⟩ : _ ∧ k_ ≠ gb282))) (fun _ hk => hk.2) (.int .i64 ((rd_T83 y276 x61_3).f0))) (fun _ hk => hk.2) (.slice A281_1 ((rd_T83 y276 x61_3).f1).length c281_1)) (fun _ h_ => h_.1))) (Kd.R_base ho0) hb); have n1_ := Aside0.mk (Kd.R_below (by (with_reducible repeat (first | apply Kd.R_alloc | apply Kd.R_drewN | apply Kd.R_drew)); exact (Kd.R_mono (Kd.R_far (p := ⟨gb282, 1, none⟩) (Kd.R_far (p := ⟨gb282, 0, none⟩) (Kd.R_types HO_9.out BK282.out (by decide)) (fun _ hk => hk.2) (.int .i64 ((rd_T83 y276 x61_3).f0))) (fun _ hk => hk.2) (.slice A281_1 ((rd_T83 y276 x61_3).f1).length c281_1)) (fun _ h_ => h_.1))) hb); have n2_ := Aside0.mk (Kd.V_elder' (by (with_reducible repeat (first | apply Kd.V_alloc | apply Kd.V_drewN | apply Kd.V_drew)); exact (Kd.V_mono (Kd.V_far (p := ⟨gb282, 1, none⟩) (Kd.V_far (p := ⟨gb282, 0, none⟩) (Kd.V_mono HO_59.out (fun k_ hk => (⟨hk, hk.2⟩ : _ ∧ k_ ≠ gb282))) (fun _ hk => hk.2) (.int .i64 ((rd_T83 y276 x61_3).f0))) (fun _ hk => hk.2) (.slice A281_1 ((rd_T83 y276 x61_3).f1).length c281_1)) (fun _ h_ => h_.1))) (Kd.R_base ho0) hb); have n3_ := Aside0.mk (Kd.V_elder' (by (with_reducible repeat (first | apply Kd.V_alloc | apply Kd.V_drewN | apply Kd.V_drew)); exact (Kd.V_mono (Kd.V_far (p := ⟨gb282, 1, none⟩) (Kd.V_far (p := ⟨gb282, 0, none⟩) (Kd.V_mono HL281_1.out (fun k_ hk => (⟨hk, hk.2⟩ : _ ∧ k_ ≠ gb282))) (fun _ hk => hk.2) (.int .i64 ((rd_T83 y276 x61_3).f0))) (fun _ hk => hk.2) (.slice A281_1 ((rd_T83 y276 x61_3).f1).length c281_1)) (fun _ h_ => h_.1))) (Kd.R_base ho0) hb); have n4_ := Aside0.mk (Kd.R_lower (Kd.R_newM (M := fun k_ => (w.heap.size ≤ k_)) ho0 (below_size (pE HB.out GE282.out)) (fun k_ h_ => h_)) (below_size (pE HB.out GE282.out))); have n5_ := Aside0.mk (Kd.C_below ((Kd.V_reads' (by (with_reducible repeat (first | apply Kd.V_alloc | apply Kd.V_drewN | apply Kd.V_drew)); exact (Kd.V_mono (Kd.V_far (p := ⟨gb282, 1, none⟩) (Kd.V_far (p := ⟨gb282, 0, none⟩) (Kd.V_mono HL281_1.out (fun k_ hk => (⟨hk, hk.2⟩ : _ ∧ k_ ≠ gb282))) (fun _ hk => hk.2) (.int .i64 ((rd_T83 y276 x61_3).f0))) (fun _ hk => hk.2) (.slice A281_1 ((rd_T83 y276 x61_3).f1).length c281_1)) (fun _ h_ => h_.1)))).2.2) hb); have n6_ := Aside0.mk (blk_below (g := gb282) (o := .cells #[.int .i64 ((rd_T83 y276 x61_3).f0), .slice A281_1 ((rd_T83 y276 x61_3).f1).length c281_1] 83 (0, 0)) (by (with_reducible repeat (first | refine blk_drewN ?_ _ | refine blk_drew ?_ | refine blk_alloc ?_ _)); refine blk_put (cs := #[.int .i64 ((rd_T83 y276 x61_3).f0), .slice none 0 0]) ?_ 1 _ rfl; (with_reducible repeat (first | refine blk_drewN ?_ _ | refine blk_drew ?_ | refine blk_alloc ?_ _)); refine blk_put (cs := #[.int .i64 0, .slice none 0 0]) ?_ 0 _ rfl; (with_reducible repeat (first | refine blk_drewN ?_ _ | refine blk_drew ?_ | refine blk_alloc ?_ _)); exact BK282.out) hb); have n7_ := Aside0.mk (below_step (pE HB.out GE282.out) hb); clear HO_4 HO_9 HO_59 HL281_1 HR281_1 BK282 HB; have HO_4 := n0_; have HO_9 := n1_; have HO_59 := n2_; have HL281_1 := n3_; have HO286 := n4_; have HR281_1 := n5_; have BK282 := n6_; have HB := n7_; clear n0_ n1_ n2_ n3_ n4_ n5_ n6_ n7_; (try clear hb); (try clear hb2); (try clear hk); (try clear hi); (try clear ho0)) | ((with_reducible refine gate_dst (N := 13) rfl ?_); refine box_event ?hg (N := 13) ?hd (cs := #[.string (⟨#[]⟩ : ByteArray), .slice none 0 0]) (t := 135) ?hr ?_; (case hd => rfl); (case hg => rfl); (case hr => first | (go_simp; done) | (go_simp; rfl)); intro gb288 hg w44 hbox hb; have n0_ := Aside0.mk (Kd.N_below (Kd.N_elderB (pN HO_4.out) gb288 (Nat.le_of_eq hg.symm)) hb); have n1_ := Aside0.mk (Kd.R_below (pR HO_9.out) hb); have n2_ := Aside0.mk (Kd.V_below (Kd.V_elderB (pV HO_59.out) gb288 (Nat.le_of_eq hg.symm)) hb); have n3_ := Aside0.mk (Kd.V_below (Kd.V_elderB (pV HL281_1.out) gb288 (Nat.le_of_eq hg.symm)) hb); have n4_ := Aside0.mk (Kd.R_below (pR HO286.out) hb); have n5_ := Aside0.mk (Kd.C_below (by repeat (first | (with_reducible exact HR281_1.out) | (with_reducible refine Kd.C_alloc ?_ _) | (with_reducible refine Kd.C_drewN ?_ _) | (with_reducible refine Kd.C_drew ?_) | exact HR281_1.out)) hb); have n6_ := Aside0.mk (blk_below (g := gb282) (o := .cells #[.int .i64 ((rd_T83 y276 x61_3).f0), .slice A281_1 ((rd_T83 y276 x61_3).f1).length c281_1] 83 (0, 0)) (pK BK282.out) hb); have n7_ := Aside0.mk (below_step (pE HB.out GE282.out) hb); have n8_ := Aside0.mk (hbox); have n9_ := Aside0.mk ((by rw [hg]; exact (below_size (pE HB.out GE282.out)) : w.heap.size ≤ gb288)); have n10_ := Aside0.mk ((by rw [hg]; exact (below_size (pE HB.out GE282.out)) : w.heap.size ≤ gb288)); have n11_ := Aside0.mk ((by rw [hg]; exact Nat.ne_of_lt (blk_lt (g := gb282) (o := .cells #[.int .i64 ((rd_T83 y276 x61_3).f0), .slice A281_1 ((rd_T83 y276 x61_3).f1).length c281_1] 83 (0, 0)) (pK BK282.out)) : gb282 ≠ gb288)); have n12_ := Aside0.mk ((by rw [hg]; exact Nat.ne_of_gt (blk_lt (g := gb282) (o := .cells #[.int .i64 ((rd_T83 y276 x61_3).f0), .slice A281_1 ((rd_T83 y276 x61_3).f1).length c281_1] 83 (0, 0)) (pK BK282.out)) : gb288 ≠ gb282)); clear HO_4 HO_9 HO_59 HL281_1 HO286 HR281_1 BK282 HB; have HO_4 := n0_; have HO_9 := n1_; have HO_59 := n2_; have HL281_1 := n3_; have HO286 := n4_; have HR281_1 := n5_; have BK282 := n6_; have HB := n7_; have BK288 := n8_; have GW288 := n9_; have GE288 := n10_; have NB282_288 := n11_; have NB288_282 := n12_; clear n0_ n1_ n2_ n3_ n4_ n5_ n6_ n7_ n8_ n9_ n10_ n11_ n12_ hb hbox hg; have hnb45 := NB288_282.out; have hnc45 := NB282_288.out; have hcz46_0 : w44.cell? ⟨gb288, 0, none⟩ = some (.string (⟨#[]⟩ : ByteArray)) := (blk_cell BK288.out 0).trans rfl; have hcz46_1 : w44.cell? ⟨gb288, 1, none⟩ = some (.slice none 0 0) := (blk_cell BK288.out 1).trans rfl; have hfz46_0 := blk_frozen BK288.out 0; have hfz46_1 := blk_frozen BK288.out 1; obtain ⟨Ao47, co47, eo47⟩ := Kd.R_slice HO286.out; subst eo47))
                refine bodyPost_ret (results_list (rs := [.tmp 2, .tmp 3, .tmp 4, .tmp 5]) rfl (by simp) (.tmp (.tmp (.tmp (.tmp .nil))))) rfl ?_
                exact ⟨_, by first | rfl | (simp [errW_none, errW_some] <;> rfl) | (simp [*, errW_none, errW_some] <;> rfl), by first | exact Kd.S_nil _ _ _ _ _ | exact Kd.N_nil _ _ _ _ _ | exact Kd.V_nil _ _ _ _ _ | exact Kd.Q_nil _ _ _ _ _ | exact Kd.R_nil _ _ _ _ _, by repeat (first | (with_reducible first | exact HB.out | apply below_alloc | apply pw_below_drewN | apply below_drew1 | refine below_set ?_ GE282.out | refine below_set ?_ GE288.out) | exact HB.out)⟩
              ·rw [if_neg c27] at H
               exact absurd H (by simp)
             ·rw [if_neg c26] at H
              exact absurd H (by simp)
            ·rw [if_neg c25] at H
             have c25b0 : decide (x61_3 < (y276.length : Int)) = false := decide_eq_false c25
             clear c25
             by_cases c48 : 0 < (t269.length : Int)
             ·rw [if_pos c48] at H
              have c48b0 : decide (0 < (t269.length : Int)) = true := decide_eq_true c48
              have c48b1 : decide (0 < t269.length) = true := decide_eq_true (by omega)
              clear c48
              by_cases c49 : 1 < (t269.length : Int)
              ·rw [if_pos c49] at H
               have c49b0 : decide (1 < (t269.length : Int)) = true := decide_eq_true c49
               have c49b1 : decide (1 < t269.length) = true := decide_eq_true (by omega)
               clear c49
               replace H := Option.bind_eq_some_iff.mp H
               obtain ⟨⟨t294, t295⟩, A500, H⟩ := H
               replace H : (if t295 = 0 then ((bytes_Equal.f t294 l0).bind fun t298 => (if t298 = true then (some (wrap64 (rd t269 0), wrap64 (rd t269 1), x4_3, 0)) else (some (0, 0, ([] : List (S135)), 2)))) else (some (0, 0, ([] : List (S135)), 2))) = some (r1, r2, r3, r4) := H
               have A50 := Aside0.mk A500
               clear A500
               by_cases c51 : t295 = 0
               ·rw [if_pos c51] at H
                have c51b0 : (t295 == 0) = true := beq_iff_eq.mpr c51
                have c51b1 : (t295 != 0) = false := bne_eq_false_iff_eq.mpr c51
                clear c51
                replace H := Option.bind_eq_some_iff.mp H
                obtain ⟨t298, A520, H⟩ := H
                replace H : (if t298 = true then (some (wrap64 (rd t269 0), wrap64 (rd t269 1), x4_3, 0)) else (some (0, 0, ([] : List (S135)), 2))) = some (r1, r2, r3, r4) := H
                have A52 := Aside0.mk A520
                clear A520
                by_cases c53 : t298 = true
                ·subst c53
                 have H1 : (some (wrap64 (rd t269 0), wrap64 (rd t269 1), x4_3, 0)) = some (r1, r2, r3, r4) := by rw [if_pos rfl] at H; exact H
                 clear H
                 have H := H1
                 clear H1
                 simp only [Option.some.injEq, Prod.mk.injEq] at H
                 obtain ⟨rfl, rfl, rfl, rfl⟩ := H
                 try go_wp2
                 have n0_ := Aside0.mk (Kd.N_drew HO_4.out)
                 have n1_ := Aside0.mk (Kd.R_drew HO_9.out)
                 have n2_ := Aside0.mk (Kd.V_drew HO_59.out)
                 have n3_ := Aside0.mk (below_drew1 HB.out)
                 clear HO_4
                 clear HO_9
                 clear HO_59
                 clear HB
                 have HO_4 := n0_
                 have HO_9 := n1_
                 have HO_59 := n2_
                 have HB := n3_
                 clear n0_ n1_ n2_ n3_
                 obtain ⟨Ao55, co55, eo55⟩ := Kd.R_slice HO_9.out
                 (first | subst eo55 | (injection eo55 with f1_ f2_ f3_; have f4_ := f1_.symm; have f5_ := f3_.symm; clear f1_ f2_ f3_; subst f4_; subst f5_))
                 have p292 : 0 ≤ (0 : Int) := (by omega)
                 have q292 : 0 < (t269.length : Int) := of_decide_eq_true pS
                 obtain ⟨ad292, e292, hx292_0⟩ := Kd.at_int (Kd.R_reads' HO_9.out).2.2 0 p292 q292
                 cases e292
                 have qi292 : (0 < t269.length) = True := eq_true (by omega)
                 (try rw [show ((0 : Int)).toNat = 0 from rfl] at hx292_0)
                 (try rw [Addr.add_zero'] at hx292_0)
                 replace p292 := eq_true p292
                 replace q292 := eq_true q292
                 have p293 : 0 ≤ (1 : Int) := (by omega)
                 have q293 : 1 < (t269.length : Int) := of_decide_eq_true pS
                 obtain ⟨ad293, e293, hx293_0⟩ := Kd.at_int (Kd.R_reads' HO_9.out).2.2 1 p293 q293
                 obtain rfl : ad292 = ad293 := (by injection e293)
                 (try simp only [show (1 : Int).toNat = 1 from rfl, Nat.reduceMul, Nat.reduceEqDiff, Go.Addr.add, ↓reduceIte] at hx293_0)
                 have qi293 : (1 < t269.length) = True := eq_true (by omega)
                 (try rw [show ((1 : Int)).toNat = 1 from rfl] at hx293_0)
                 replace p293 := eq_true p293
                 replace q293 := eq_true q293
                 obtain ⟨Ao56, co56, eo56⟩ := Kd.N_slice HO_4.out
                 (first | subst eo56 | (injection eo56 with f1_ f2_ f3_; have f4_ := f1_.symm; have f5_ := f3_.symm; clear f1_ f2_ f3_; subst f4_; subst f5_))
                 refine start_ (n := 15) (S := fun w' => w'.cell? ad292 = some (.int .u64 (rd t269 0)) ∧ w'.cell? ⟨ad292.block, ad292.off + 1, none⟩ = some (.int .u64 (rd t269 1))) (ds := []) #[false, false, false, false, false, false, false, false, false, false, false, false, false, false, false] (by kernel_rfl) rfl rfl ⟨hx292_0, hx293_0⟩ (fun hHeld => ?_); refine with_tabW export_Get.tab15 export_Get.bits15 (fun HT_ HW_ => ?_)
                 generalize wr.drew = w54 at HO_4 HO_9 HO_59 HB hx292_0 hx293_0 hHeld ⊢
                 refine pure_ (i := 0) (N := some 79) (v := ?_) (a' := ?_) #[true, false, false, false, false, false, false, false, false, false, false, false, false, false, false] rfl rfl (any_of HT_.out (by kernel_rfl)) (fun _ _ _ h => h) (Or.inl ⟨by rfl, ?_⟩) ?_ ?_
                 rotate_left
                 ·intro w'
                  go_simp
                  with_reducible rfl
                 rotate_left
                 ·simp only [Act.put, List.setIfInBounds_toArray, List.set_cons_zero, List.set_cons_succ, i64_w, i32_w]
                  rfl
                 refine pure_ (i := 1) (N := some 80) (v := ?_) (a' := ?_) #[true, true, false, false, false, false, false, false, false, false, false, false, false, false, false] rfl rfl (any_of HT_.out (by kernel_rfl)) (fun _ _ _ h => h) (Or.inl ⟨by rfl, ?_⟩) ?_ ?_
                 rotate_left
                 ·intro w'
                  go_simp
                  with_reducible rfl
                 rotate_left
                 ·simp only [Act.put, List.setIfInBounds_toArray, List.set_cons_zero, List.set_cons_succ, i64_w, i32_w]
                  rfl
                 refine pure_ (i := 4) (N := some 83) (v := ?_) (a' := ?_) #[true, true, false, false, true, false, false, false, false, false, false, false, false, false, false] rfl rfl (any_of HT_.out (by kernel_rfl)) (fun _ _ _ h => h) (Or.inl ⟨by rfl, ?_⟩) ?_ ?_
                 rotate_left
                 ·intro w'
                  go_simp
                  with_reducible rfl
                 rotate_left
                 ·simp only [Act.put, List.setIfInBounds_toArray, List.set_cons_zero, List.set_cons_succ, i64_w, i32_w]
                  rfl
                 refine pure_ (i := 5) (N := some 84) (v := ?_) (a' := ?_) #[true, true, false, false, true, true, false, false, false, false, false, false, false, false, false] rfl rfl (any_of HT_.out (by kernel_rfl)) (fun _ _ _ h => h) (Or.inl ⟨by rfl, ?_⟩) ?_ ?_
                 rotate_left
                 ·intro w'
                  go_simp
                  with_reducible rfl
                 rotate_left
                 ·simp only [Act.put, List.setIfInBounds_toArray, List.set_cons_zero, List.set_cons_succ, i64_w, i32_w]
                  rfl
                 refine pure_ (i := 8) (N := some 87) (v := ?_) (a' := ?_) #[true, true, false, false, true, true, false, false, true, false, false, false, false, false, false] rfl rfl (any_of HT_.out (by kernel_rfl)) (fun _ _ _ h => h) (Or.inl ⟨by rfl, ?_⟩) ?_ ?_
                 rotate_left
                 ·intro w'
                  go_simp
                  with_reducible rfl
                 rotate_left
                 ·simp only [Act.put, List.setIfInBounds_toArray, List.set_cons_zero, List.set_cons_succ, i64_w, i32_w]
                  rfl
                 refine take_ (i := 2) (N := some 81) (v := ?_) (a' := ?_) #[true, true, true, false, true, true, false, false, true, false, false, false, false, false, false] rfl rfl (take_ofW HT_.out HW_.out (by kernel_rfl)) (fun _ _ _ h => h) (Or.inl ⟨by rfl, ?_⟩) hHeld ?_ ?_
                 rotate_left
                 ·rintro w' ⟨s0, s1⟩
                  go_simp
                  with_reducible rfl
                 rotate_left
                 ·simp only [Act.put, List.setIfInBounds_toArray, List.set_cons_zero, List.set_cons_succ, i64_w, i32_w]
                  rfl
                 refine pure_ (i := 3) (N := some 82) (v := ?_) (a' := ?_) #[true, true, true, true, true, true, false, false, true, false, false, false, false, false, false] rfl rfl (any_of HT_.out (by kernel_rfl)) (fun _ _ _ h => h) (Or.inl ⟨by rfl, ?_⟩) ?_ ?_
                 rotate_left
                 ·intro w'
                  go_simp
                  with_reducible rfl
                 rotate_left
                 ·simp only [Act.put, List.setIfInBounds_toArray, List.set_cons_zero, List.set_cons_succ, i64_w, i32_w]
                  rfl
                 refine take_ (i := 6) (N := some 85) (v := ?_) (a' := ?_) #[true, true, true, true, true, true, true, false, true, false, false, false, false, false, false] rfl rfl (take_ofW HT_.out HW_.out (by kernel_rfl)) (fun _ _ _ h => h) (Or.inl ⟨by rfl, ?_⟩) hHeld ?_ ?_
                 rotate_left
                 ·rintro w' ⟨s0, s1⟩
                  go_simp
                  with_reducible rfl
                 rotate_left
                 ·simp only [Act.put, List.setIfInBounds_toArray, List.set_cons_zero, List.set_cons_succ, i64_w, i32_w]
                  rfl
                 refine pure_ (i := 7) (N := some 86) (v := ?_) (a' := ?_) #[true, true, true, true, true, true, true, true, true, false, false, false, false, false, false] rfl rfl (any_of HT_.out (by kernel_rfl)) (fun _ _ _ h => h) (Or.inl ⟨by rfl, ?_⟩) ?_ ?_
                 rotate_left
                 ·intro w'
                  go_simp
                  with_reducible rfl
                 rotate_left
                 ·simp only [Act.put, List.setIfInBounds_toArray, List.set_cons_zero, List.set_cons_succ, i64_w, i32_w]
                  rfl
                 refine one_ (i := 9) (N := some 88) #[true, true, true, true, true, true, true, true, true, true, false, false, false, false, false] rfl rfl (one_of HT_.out (by kernel_rfl)) (by decide) (fun K hK => ?_)
                 refine goes_ Try.func21 (by kernel_rfl) rfl #[.int .i64 (wrap64 (rd t269 0)), .int .i64 (wrap64 (rd t269 1)), .slice Ao56 x4_3.length co56] (by rfl) rfl rfl pL ?_
                 with_reducible refine (export_Put.calls k3 (wrap64 (rd t269 0)) (wrap64 (rd t269 1)) _ _ x4_3 t294 t295 _ ?side1 ?side2 A50.out).mono ?_
                 (case side1 => exact pC (Kd.N_reads' HO_4.out).2.2)
                 (case side2 => exact (Kd.N_reads' HO_4.out).2.1)
                 rintro e w57 ⟨v296, rfl, ho0, hb⟩
                 have HS0_ := (hb.cell (World.block_lt_of_cell? _ _ (hHeld.1))).trans (hHeld.1)
                 have HS1_ := (hb.cell (World.block_lt_of_cell? _ _ (hHeld.2))).trans (hHeld.2)
                 refine ⟨_, rfl, ?_⟩
                 have n0_ := Aside0.mk (Kd.N_elder' (pN HO_4.out) (Kd.R_base ho0) hb)
                 have n1_ := Aside0.mk (Kd.R_below (pR HO_9.out) hb)
                 have n2_ := Aside0.mk (Kd.V_elder' (pV HO_59.out) (Kd.R_base ho0) hb)
                 have n3_ := Aside0.mk (Kd.R_lower (Kd.R_newM (M := fun k_ => (w.heap.size ≤ k_)) ho0 (below_size (pB HB.out)) (fun k_ h_ => h_)) (below_size (pB HB.out)))
                 have n4_ := Aside0.mk (below_step (pB HB.out) hb)
                 clear HO_4
                 clear HO_9
                 clear HO_59
                 clear HB
                 have HO_4 := n0_
                 have HO_9 := n1_
                 have HO_59 := n2_
                 have HO297 := n3_
                 have HB := n4_
                 clear n0_ n1_ n2_ n3_ n4_
                 (try clear hb)
                 (try clear hb2)
                 (try clear hk)
                 (try clear hi)
                 (try clear ho0)
                 refine hK.out _ _ ⟨HS0_, HS1_⟩ (fun hHeld => ?_)
                 clear hK K
                 refine norm_ (a' := ?_) ?_ ?_
                 rotate_left
                 ·show Act.put _ (some 88) _ = _
                  simp only [Act.put, List.setIfInBounds_toArray, List.set_cons_zero, List.set_cons_succ, i64_w, i32_w]
                  rfl
                 refine pure_ (i := 10) (N := some 78) (v := ?_) (a' := ?_) #[true, true, true, true, true, true, true, true, true, true, true, false, false, false, false] rfl rfl (any_of HT_.out (by kernel_rfl)) (fun _ _ _ h => h) (Or.inl ⟨by rfl, ?_⟩) ?_ ?_
                 rotate_left
                 ·intro w'
                  go_simp
                  with_reducible rfl
                 rotate_left
                 ·simp only [Act.put, List.setIfInBounds_toArray, List.set_cons_zero, List.set_cons_succ, i64_w, i32_w]
                  rfl
                 refine pure_ (i := 11) (N := some 89) (v := ?_) (a' := ?_) #[true, true, true, true, true, true, true, true, true, true, true, true, false, false, false] rfl rfl (any_of HT_.out (by kernel_rfl)) (fun _ _ _ h => h) (Or.inl ⟨by rfl, ?_⟩) ?_ ?_
                 rotate_left
                 ·intro w'
                  go_simp
                  with_reducible rfl
                 rotate_left
                 ·simp only [Act.put, List.setIfInBounds_toArray, List.set_cons_zero, List.set_cons_succ, i64_w, i32_w]
                  rfl
                 refine pure_ (i := 12) (N := some 90) (v := ?_) (a' := ?_) #[true, true, true, true, true, true, true, true, true, true, true, true, true, false, false] rfl rfl (any_of HT_.out (by kernel_rfl)) (fun _ _ _ h => h) (Or.inl ⟨by rfl, ?_⟩) ?_ ?_
                 rotate_left
                 ·intro w'
                  go_simp
                  with_reducible rfl
                 rotate_left
                 ·simp only [Act.put, List.setIfInBounds_toArray, List.set_cons_zero, List.set_cons_succ, i64_w, i32_w]
                  rfl
                 refine pure_ (i := 13) (N := some 15) (v := ?_) (a' := ?_) #[true, true, true, true, true, true, true, true, true, true, true, true, true, true, false] rfl rfl (any_of HT_.out (by kernel_rfl)) (fun _ _ _ h => h) (Or.inl ⟨by rfl, ?_⟩) ?_ ?_
                 rotate_left
                 ·intro w'
                  go_simp
                  with_reducible rfl
                 rotate_left
                 ·simp only [Act.put, List.setIfInBounds_toArray, List.set_cons_zero, List.set_cons_succ, i64_w, i32_w]
                  rfl
                 refine pure_ (i := 14) (N := some 5) (v := ?_) (a' := ?_) #[true, true, true, true, true, true, true, true, true, true, true, true, true, true, true] rfl rfl (any_of HT_.out (by kernel_rfl)) (fun _ _ _ h => h) (Or.inl ⟨by rfl, ?_⟩) ?_ ?_
                 rotate_left
                 ·intro w'
                  go_simp
                  with_reducible rfl
                 rotate_left
                 ·simp only [Act.put, List.setIfInBounds_toArray, List.set_cons_zero, List.set_cons_succ, i64_w, i32_w]
                  rfl
                 refine done_ (done_of HT_.out (by kernel_rfl)) ?_
                 obtain ⟨Ao58, co58, eo58⟩ := Kd.R_slice HO297.out
                 subst eo58
                 try go_wp2_with (first | (go_at_call 70; (with_reducible refine (bytes_Equal.calls _ _ t294 _ _ l0 true _ ?side1 ?side2 ?side3 ?side4 A52.out).mono ?_); (case side1 => exact pC (Kd.R_reads' HO297.out).2.2); (case side2 => exact (Kd.R_reads' HO297.out).2.1); (case side3 => exact pC (Kd.C_below HR0.out HB.out)); (case side4 => exact HC0.out); rintro e w' ⟨rfl, ⟨nd, rfl⟩⟩))
                 (try (rw [drewN_self w57]; generalize hq_ : World.drewN w57 _ = w57; have n0_ : Aside0 (Kd.R (Kd.int .u8) 5 w57 w.heap.size (fun k_ => (w.heap.size ≤ k_)) (.slice Ao58 t294.length co58) t294) := ⟨by rw [← hq_]; exact (by (with_reducible repeat (first | apply Kd.R_alloc | apply Kd.R_drewN | apply Kd.R_drew)); exact Kd.R_mono HO297.out (fun _ hk => hk.1))⟩; have n1_ : Aside0 (Kd.N k135 135 w57 w.heap.size (fun k_ => (w.heap.size ≤ k_) ∧ some k_ ≠ (.slice Ao58 t294.length co58 : Value).ownBlock ∧ some k_ ≠ (.slice (some ad292) t269.length co55 : Value).ownBlock) (.slice Ao56 x4_3.length co56) x4_3) := ⟨by rw [← hq_]; exact (by (with_reducible repeat (first | apply Kd.N_alloc | apply Kd.N_drewN | apply Kd.N_drew)); exact Kd.N_mono HO_4.out (fun _ hk => ⟨hk.1.1, ⟨hk.2, hk.1.2⟩⟩))⟩; have n2_ : Aside0 (Kd.V k83 83 w57 w.heap.size (fun k_ => (w.heap.size ≤ k_) ∧ some k_ ≠ (.slice Ao58 t294.length co58 : Value).ownBlock ∧ some k_ ≠ (.slice Ao56 x4_3.length co56 : Value).ownBlock ∧ some k_ ≠ (.slice (some ad292) t269.length co55 : Value).ownBlock) (.slice A24 y276.length c24) y276) := ⟨by rw [← hq_]; exact (by (with_reducible repeat (first | apply Kd.V_alloc | apply Kd.V_drewN | apply Kd.V_drew)); exact Kd.V_mono HO_59.out (fun _ hk => ⟨hk.1.1, ⟨hk.2, ⟨hk.1.2.1, hk.1.2.2⟩⟩⟩))⟩; have n3_ : Aside0 (Kd.R (Kd.int .u64) 133 w57 w.heap.size (fun k_ => (w.heap.size ≤ k_)) (.slice (some ad292) t269.length co55) t269) := ⟨by rw [← hq_]; exact (pR HO_9.out)⟩; have n4_ : Aside0 (Below w.heap.size w w57) := ⟨by rw [← hq_]; exact (pB HB.out)⟩; clear HO297 HO_4 HO_59 HO_9 HB hq_; have HO297 := n0_; have HO_4 := n1_; have HO_59 := n2_; have HO_9 := n3_; have HB := n4_; clear n0_ n1_ n2_ n3_ n4_))
                 have n0_ := Aside0.mk (Kd.N_drew HO_4.out)
                 have n1_ := Aside0.mk (Kd.R_drew HO_9.out)
                 have n2_ := Aside0.mk (Kd.V_drew HO_59.out)
                 have n3_ := Aside0.mk (Kd.R_drew HO297.out)
                 have n4_ := Aside0.mk (below_drew1 HB.out)
                 clear HO_4
                 clear HO_9
                 clear HO_59
                 clear HO297
                 clear HB
                 have HO_4 := n0_
                 have HO_9 := n1_
                 have HO_59 := n2_
                 have HO297 := n3_
                 have HB := n4_
                 clear n0_ n1_ n2_ n3_ n4_
                 have p299 : 0 ≤ (0 : Int) := (by omega)
                 have q299 : 0 < (t269.length : Int) := of_decide_eq_true pS
                 obtain ⟨ad299, e299, hx299_0⟩ := Kd.at_int (Kd.R_reads' HO_9.out).2.2 0 p299 q299
                 obtain rfl : ad292 = ad299 := (by injection e299)
                 have qi299 : (0 < t269.length) = True := eq_true (by omega)
                 (try rw [show ((0 : Int)).toNat = 0 from rfl] at hx299_0)
                 (try rw [Addr.add_zero'] at hx299_0)
                 replace p299 := eq_true p299
                 replace q299 := eq_true q299
                 have p300 : 0 ≤ (1 : Int) := (by omega)
                 have q300 : 1 < (t269.length : Int) := of_decide_eq_true pS
                 obtain ⟨ad300, e300, hx300_0⟩ := Kd.at_int (Kd.R_reads' HO_9.out).2.2 1 p300 q300
                 obtain rfl : ad292 = ad300 := (by injection e300)
                 (try simp only [show (1 : Int).toNat = 1 from rfl, Nat.reduceMul, Nat.reduceEqDiff, Go.Addr.add, ↓reduceIte] at hx300_0)
                 have qi300 : (1 < t269.length) = True := eq_true (by omega)
                 (try rw [show ((1 : Int)).toNat = 1 from rfl] at hx300_0)
                 replace p300 := eq_true p300
                 replace q300 := eq_true q300
                 refine start_ (n := 13) (S := fun w' => w'.cell? ad292 = some (.int .u64 (rd t269 0)) ∧ w'.cell? ⟨ad292.block, ad292.off + 1, none⟩ = some (.int .u64 (rd t269 1))) (ds := []) #[false, false, false, false, false, false, false, false, false, false, false, false, false] (by kernel_rfl) rfl rfl ⟨hx299_0, hx300_0⟩ (fun hHeld => ?_); refine with_tabW export_Get.tab18 export_Get.bits18 (fun HT_ HW_ => ?_)
                 generalize w57.drew = w59 at HO_4 HO_9 HO_59 HO297 HB hx299_0 hx300_0 hHeld ⊢
                 refine pure_ (i := 0) (N := some 99) (v := ?_) (a' := ?_) #[true, false, false, false, false, false, false, false, false, false, false, false, false] rfl rfl (any_of HT_.out (by kernel_rfl)) (fun _ _ _ h => h) (Or.inl ⟨by rfl, ?_⟩) ?_ ?_
                 rotate_left
                 ·intro w'
                  go_simp
                  with_reducible rfl
                 rotate_left
                 ·simp only [Act.put, List.setIfInBounds_toArray, List.set_cons_zero, List.set_cons_succ, i64_w, i32_w]
                  rfl
                 refine pure_ (i := 1) (N := some 100) (v := ?_) (a' := ?_) #[true, true, false, false, false, false, false, false, false, false, false, false, false] rfl rfl (any_of HT_.out (by kernel_rfl)) (fun _ _ _ h => h) (Or.inl ⟨by rfl, ?_⟩) ?_ ?_
                 rotate_left
                 ·intro w'
                  go_simp
                  with_reducible rfl
                 rotate_left
                 ·simp only [Act.put, List.setIfInBounds_toArray, List.set_cons_zero, List.set_cons_succ, i64_w, i32_w]
                  rfl
                 refine pure_ (i := 4) (N := some 103) (v := ?_) (a' := ?_) #[true, true, false, false, true, false, false, false, false, false, false, false, false] rfl rfl (any_of HT_.out (by kernel_rfl)) (fun _ _ _ h => h) (Or.inl ⟨by rfl, ?_⟩) ?_ ?_
                 rotate_left
                 ·intro w'
                  go_simp
                  with_reducible rfl
                 rotate_left
                 ·simp only [Act.put, List.setIfInBounds_toArray, List.set_cons_zero, List.set_cons_succ, i64_w, i32_w]
                  rfl
                 refine pure_ (i := 5) (N := some 104) (v := ?_) (a' := ?_) #[true, true, false, false, true, true, false, false, false, false, false, false, false] rfl rfl (any_of HT_.out (by kernel_rfl)) (fun _ _ _ h => h) (Or.inl ⟨by rfl, ?_⟩) ?_ ?_
                 rotate_left
                 ·intro w'
                  go_simp
                  with_reducible rfl
                 rotate_left
                 ·simp only [Act.put, List.setIfInBounds_toArray, List.set_cons_zero, List.set_cons_succ, i64_w, i32_w]
                  rfl
                 refine pure_ (i := 8) (N := some 107) (v := ?_) (a' := ?_) #[true, true, false, false, true, true, false, false, true, false, false, false, false] rfl rfl (any_of HT_.out (by kernel_rfl)) (fun _ _ _ h => h) (Or.inl ⟨by rfl, ?_⟩) ?_ ?_
                 rotate_left
                 ·intro w'
                  go_simp
                  with_reducible rfl
                 rotate_left
                 ·simp only [Act.put, List.setIfInBounds_toArray, List.set_cons_zero, List.set_cons_succ, i64_w, i32_w]
                  rfl
                 refine take_ (i := 2) (N := some 101) (v := ?_) (a' := ?_) #[true, true, true, false, true, true, false, false, true, false, false, false, false] rfl rfl (take_ofW HT_.out HW_.out (by kernel_rfl)) (fun _ _ _ h => h) (Or.inl ⟨by rfl, ?_⟩) hHeld ?_ ?_
                 rotate_left
                 ·rintro w' ⟨s0, s1⟩
                  go_simp
                  with_reducible rfl
                 rotate_left
                 ·simp only [Act.put, List.setIfInBounds_toArray, List.set_cons_zero, List.set_cons_succ, i64_w, i32_w]
                  rfl
                 refine pure_ (i := 3) (N := some 102) (v := ?_) (a' := ?_) #[true, true, true, true, true, true, false, false, true, false, false, false, false] rfl rfl (any_of HT_.out (by kernel_rfl)) (fun _ _ _ h => h) (Or.inl ⟨by rfl, ?_⟩) ?_ ?_
                 rotate_left
                 ·intro w'
                  go_simp
                  with_reducible rfl
                 rotate_left
                 ·simp only [Act.put, List.setIfInBounds_toArray, List.set_cons_zero, List.set_cons_succ, i64_w, i32_w]
                  rfl
                 refine pure_ (i := 9) (N := some 2) (v := ?_) (a' := ?_) #[true, true, true, true, true, true, false, false, true, true, false, false, false] rfl rfl (any_of HT_.out (by kernel_rfl)) (fun _ _ _ h => h) (Or.inl ⟨by rfl, ?_⟩) ?_ ?_
                 rotate_left
                 ·intro w'
                  go_simp
                  with_reducible rfl
                 rotate_left
                 ·simp only [Act.put, List.setIfInBounds_toArray, List.set_cons_zero, List.set_cons_succ, i64_w, i32_w]
                  rfl
                 refine take_ (i := 6) (N := some 105) (v := ?_) (a' := ?_) #[true, true, true, true, true, true, true, false, true, true, false, false, false] rfl rfl (take_ofW HT_.out HW_.out (by kernel_rfl)) (fun _ _ _ h => h) (Or.inl ⟨by rfl, ?_⟩) hHeld ?_ ?_
                 rotate_left
                 ·rintro w' ⟨s0, s1⟩
                  go_simp
                  with_reducible rfl
                 rotate_left
                 ·simp only [Act.put, List.setIfInBounds_toArray, List.set_cons_zero, List.set_cons_succ, i64_w, i32_w]
                  rfl
                 refine pure_ (i := 7) (N := some 106) (v := ?_) (a' := ?_) #[true, true, true, true, true, true, true, true, true, true, false, false, false] rfl rfl (any_of HT_.out (by kernel_rfl)) (fun _ _ _ h => h) (Or.inl ⟨by rfl, ?_⟩) ?_ ?_
                 rotate_left
                 ·intro w'
                  go_simp
                  with_reducible rfl
                 rotate_left
                 ·simp only [Act.put, List.setIfInBounds_toArray, List.set_cons_zero, List.set_cons_succ, i64_w, i32_w]
                  rfl
                 refine pure_ (i := 10) (N := some 3) (v := ?_) (a' := ?_) #[true, true, true, true, true, true, true, true, true, true, true, false, false] rfl rfl (any_of HT_.out (by kernel_rfl)) (fun _ _ _ h => h) (Or.inl ⟨by rfl, ?_⟩) ?_ ?_
                 rotate_left
                 ·intro w'
                  go_simp
                  with_reducible rfl
                 rotate_left
                 ·simp only [Act.put, List.setIfInBounds_toArray, List.set_cons_zero, List.set_cons_succ, i64_w, i32_w]
                  rfl
                 refine pure_ (i := 11) (N := some 4) (v := ?_) (a' := ?_) #[true, true, true, true, true, true, true, true, true, true, true, true, false] rfl rfl (any_of HT_.out (by kernel_rfl)) (fun _ _ _ h => h) (Or.inl ⟨by rfl, ?_⟩) ?_ ?_
                 rotate_left
                 ·intro w'
                  go_simp
                  with_reducible rfl
                 rotate_left
                 ·simp only [Act.put, List.setIfInBounds_toArray, List.set_cons_zero, List.set_cons_succ, i64_w, i32_w]
                  rfl
                 refine pure_ (i := 12) (N := some 5) (v := ?_) (a' := ?_) #[true, true, true, true, true, true, true, true, true, true, true, true, true] rfl rfl (any_of HT_.out (by kernel_rfl)) (fun _ _ _ h => h) (Or.inl ⟨by rfl, ?_⟩) ?_ ?_
                 rotate_left
                 ·intro w'
                  go_simp
                  with_reducible rfl
                 rotate_left
                 ·simp only [Act.put, List.setIfInBounds_toArray, List.set_cons_zero, List.set_cons_succ, i64_w, i32_w]
                  rfl
                 refine done_ (done_of HT_.out (by kernel_rfl)) ?_
                 try go_wp2
                 refine bodyPost_ret (results_list (rs := [.tmp 2, .tmp 3, .tmp 4, .tmp 5]) rfl (by simp) (.tmp (.tmp (.tmp (.tmp .nil))))) rfl ?_
                 exact ⟨_, by first | rfl | (simp [errW_none, errW_some] <;> rfl) | (simp [*, errW_none, errW_some] <;> rfl), by (with_reducible repeat (first | apply Kd.N_alloc | apply Kd.N_drewN | apply Kd.N_drew)); exact Kd.N_mono HO_4.out (by first | exact fun _ hk => hk.1.1 | exact fun _ hk => hk.1), by repeat (first | (with_reducible first | exact HB.out | apply below_alloc | apply pw_below_drewN | apply below_drew1) | exact HB.out)⟩
                ·replace c53 := Bool.eq_false_iff.mpr c53
                 subst c53
                 have H1 : (some (0, 0, ([] : List (S135)), 2)) = some (r1, r2, r3, r4) := by rw [if_neg (show ¬ (false = true) by decide)] at H; exact H
                 clear H
                 have H := H1
                 clear H1
                 simp only [Option.some.injEq, Prod.mk.injEq] at H
                 obtain ⟨rfl, rfl, rfl, rfl⟩ := H
                 try go_wp2
                 have n0_ := Aside0.mk (Kd.N_drew HO_4.out)
                 have n1_ := Aside0.mk (Kd.R_drew HO_9.out)
                 have n2_ := Aside0.mk (Kd.V_drew HO_59.out)
                 have n3_ := Aside0.mk (below_drew1 HB.out)
                 clear HO_4
                 clear HO_9
                 clear HO_59
                 clear HB
                 have HO_4 := n0_
                 have HO_9 := n1_
                 have HO_59 := n2_
                 have HB := n3_
                 clear n0_ n1_ n2_ n3_
                 obtain ⟨Ao61, co61, eo61⟩ := Kd.R_slice HO_9.out
                 (first | subst eo61 | (injection eo61 with f1_ f2_ f3_; have f4_ := f1_.symm; have f5_ := f3_.symm; clear f1_ f2_ f3_; subst f4_; subst f5_))
                 have p292 : 0 ≤ (0 : Int) := (by omega)
                 have q292 : 0 < (t269.length : Int) := of_decide_eq_true pS
                 obtain ⟨ad292, e292, hx292_0⟩ := Kd.at_int (Kd.R_reads' HO_9.out).2.2 0 p292 q292
                 cases e292
                 have qi292 : (0 < t269.length) = True := eq_true (by omega)
                 (try rw [show ((0 : Int)).toNat = 0 from rfl] at hx292_0)
                 (try rw [Addr.add_zero'] at hx292_0)
                 replace p292 := eq_true p292
                 replace q292 := eq_true q292
                 have p293 : 0 ≤ (1 : Int) := (by omega)
                 have q293 : 1 < (t269.length : Int) := of_decide_eq_true pS
                 obtain ⟨ad293, e293, hx293_0⟩ := Kd.at_int (Kd.R_reads' HO_9.out).2.2 1 p293 q293
                 obtain rfl : ad292 = ad293 := (by injection e293)
                 (try simp only [show (1 : Int).toNat = 1 from rfl, Nat.reduceMul, Nat.reduceEqDiff, Go.Addr.add, ↓reduceIte] at hx293_0)
                 have qi293 : (1 < t269.length) = True := eq_true (by omega)
                 (try rw [show ((1 : Int)).toNat = 1 from rfl] at hx293_0)
                 replace p293 := eq_true p293
                 replace q293 := eq_true q293
                 obtain ⟨Ao62, co62, eo62⟩ := Kd.N_slice HO_4.out
                 (first | subst eo62 | (injection eo62 with f1_ f2_ f3_; have f4_ := f1_.symm; have f5_ := f3_.symm; clear f1_ f2_ f3_; subst f4_; subst f5_))
                 refine start_ (n := 15) (S := fun w' => w'.cell? ad292 = some (.int .u64 (rd t269 0)) ∧ w'.cell? ⟨ad292.block, ad292.off + 1, none⟩ = some (.int .u64 (rd t269 1))) (ds := []) #[false, false, false, false, false, false, false, false, false, false, false, false, false, false, false] (by kernel_rfl) rfl rfl ⟨hx292_0, hx293_0⟩ (fun hHeld => ?_); refine with_tabW export_Get.tab15 export_Get.bits15 (fun HT_ HW_ => ?_)
                 generalize wr.drew = w60 at HO_4 HO_9 HO_59 HB hx292_0 hx293_0 hHeld ⊢
                 refine pure_ (i := 0) (N := some 79) (v := ?_) (a' := ?_) #[true, false, false, false, false, false, false, false, false, false, false, false, false, false, false] rfl rfl (any_of HT_.out (by kernel_rfl)) (fun _ _ _ h => h) (Or.inl ⟨by rfl, ?_⟩) ?_ ?_
                 rotate_left
                 ·intro w'
                  go_simp
                  with_reducible rfl
                 rotate_left
                 ·simp only [Act.put, List.setIfInBounds_toArray, List.set_cons_zero, List.set_cons_succ, i64_w, i32_w]
                  rfl
                 refine pure_ (i := 1) (N := some 80) (v := ?_) (a' := ?_) #[true, true, false, false, false, false, false, false, false, false, false, false, false, false, false] rfl rfl (any_of HT_.out (by kernel_rfl)) (fun _ _ _ h => h) (Or.inl ⟨by rfl, ?_⟩) ?_ ?_
                 rotate_left
                 ·intro w'
                  go_simp
                  with_reducible rfl
                 rotate_left
                 ·simp only [Act.put, List.setIfInBounds_toArray, List.set_cons_zero, List.set_cons_succ, i64_w, i32_w]
                  rfl
                 refine pure_ (i := 4) (N := some 83) (v := ?_) (a' := ?_) #[true, true, false, false, true, false, false, false, false, false, false, false, false, false, false] rfl rfl (any_of HT_.out (by kernel_rfl)) (fun _ _ _ h => h) (Or.inl ⟨by rfl, ?_⟩) ?_ ?_
                 rotate_left
                 ·intro w'
                  go_simp
                  with_reducible rfl
                 rotate_left
                 ·simp only [Act.put, List.setIfInBounds_toArray, List.set_cons_zero, List.set_cons_succ, i64_w, i32_w]
                  rfl
                 refine pure_ (i := 5) (N := some 84) (v := ?_) (a' := ?_) #[true, true, false, false, true, true, false, false, false, false, false, false, false, false, false] rfl rfl (any_of HT_.out (by kernel_rfl)) (fun _ _ _ h => h) (Or.inl ⟨by rfl, ?_⟩) ?_ ?_
                 rotate_left
                 ·intro w'
                  go_simp
                  with_reducible rfl
                 rotate_left
                 ·simp only [Act.put, List.setIfInBounds_toArray, List.set_cons_zero, List.set_cons_succ, i64_w, i32_w]
                  rfl
                 refine pure_ (i := 8) (N := some 87) (v := ?_) (a' := ?_) #[true, true, false, false, true, true, false, false, true, false, false, false, false, false, false] rfl rfl (any_of HT_.out (by kernel_rfl)) (fun _ _ _ h => h) (Or.inl ⟨by rfl, ?_⟩) ?_ ?_
                 rotate_left
                 ·intro w'
                  go_simp
                  with_reducible rfl
                 rotate_left
                 ·simp only [Act.put, List.setIfInBounds_toArray, List.set_cons_zero, List.set_cons_succ, i64_w, i32_w]
                  rfl
                 refine take_ (i := 2) (N := some 81) (v := ?_) (a' := ?_) #[true, true, true, false, true, true, false, false, true, false, false, false, false, false, false] rfl rfl (take_ofW HT_.out HW_.out (by kernel_rfl)) (fun _ _ _ h => h) (Or.inl ⟨by rfl, ?_⟩) hHeld ?_ ?_
                 rotate_left
                 ·rintro w' ⟨s0, s1⟩
                  go_simp
                  with_reducible rfl
                 rotate_left
                 ·simp only [Act.put, List.setIfInBounds_toArray, List.set_cons_zero, List.set_cons_succ, i64_w, i32_w]
                  rfl
                 refine pure_ (i := 3) (N := some 82) (v := ?_) (a' := ?_) #[true, true, true, true, true, true, false, false, true, false, false, false, false, false, false] rfl rfl (any_of HT_.out (by kernel_rfl)) (fun _ _ _ h => h) (Or.inl ⟨by rfl, ?_⟩) ?_ ?_
                 rotate_left
                 ·intro w'
                  go_simp
                  with_reducible rfl
                 rotate_left
                 ·simp only [Act.put, List.setIfInBounds_toArray, List.set_cons_zero, List.set_cons_succ, i64_w, i32_w]
                  rfl
                 refine take_ (i := 6) (N := some 85) (v := ?_) (a' := ?_) #[true, true, true, true, true, true, true, false, true, false, false, false, false, false, false] rfl rfl (take_ofW HT_.out HW_.out (by kernel_rfl)) (fun _ _ _ h => h) (Or.inl ⟨by rfl, ?_⟩) hHeld ?_ ?_
                 rotate_left
                 ·rintro w' ⟨s0, s1⟩
                  go_simp
                  with_reducible rfl
                 rotate_left
                 ·simp only [Act.put, List.setIfInBounds_toArray, List.set_cons_zero, List.set_cons_succ, i64_w, i32_w]
                  rfl
                 refine pure_ (i := 7) (N := some 86) (v := ?_) (a' := ?_) #[true, true, true, true, true, true, true, true, true, false, false, false, false, false, false] rfl rfl (any_of HT_.out (by kernel_rfl)) (fun _ _ _ h => h) (Or.inl ⟨by rfl, ?_⟩) ?_ ?_
                 rotate_left
                 ·intro w'
                  go_simp
                  with_reducible rfl
                 rotate_left
                 ·simp only [Act.put, List.setIfInBounds_toArray, List.set_cons_zero, List.set_cons_succ, i64_w, i32_w]
                  rfl
                 refine one_ (i := 9) (N := some 88) #[true, true, true, true, true, true, true, true, true, true, false, false, false, false, false] rfl rfl (one_of HT_.out (by kernel_rfl)) (by decide) (fun K hK => ?_)
                 refine goes_ Try.func21 (by kernel_rfl) rfl #[.int .i64 (wrap64 (rd t269 0)), .int .i64 (wrap64 (rd t269 1)), .slice Ao62 x4_3.length co62] (by rfl) rfl rfl pL ?_
                 with_reducible refine (export_Put.calls k3 (wrap64 (rd t269 0)) (wrap64 (rd t269 1)) _ _ x4_3 t294 t295 _ ?side1 ?side2 A50.out).mono ?_
                 (case side1 => exact pC (Kd.N_reads' HO_4.out).2.2)
                 (case side2 => exact (Kd.N_reads' HO_4.out).2.1)
                 rintro e w63 ⟨v296, rfl, ho0, hb⟩
                 have HS0_ := (hb.cell (World.block_lt_of_cell? _ _ (hHeld.1))).trans (hHeld.1)
                 have HS1_ := (hb.cell (World.block_lt_of_cell? _ _ (hHeld.2))).trans (hHeld.2)
                 refine ⟨_, rfl, ?_⟩
                 have n0_ := Aside0.mk (Kd.N_elder' (pN HO_4.out) (Kd.R_base ho0) hb)
                 have n1_ := Aside0.mk (Kd.R_below (pR HO_9.out) hb)
                 have n2_ := Aside0.mk (Kd.V_elder' (pV HO_59.out) (Kd.R_base ho0) hb)
                 have n3_ := Aside0.mk (Kd.R_lower (Kd.R_newM (M := fun k_ => (w.heap.size ≤ k_)) ho0 (below_size (pB HB.out)) (fun k_ h_ => h_)) (below_size (pB HB.out)))
                 have n4_ := Aside0.mk (below_step (pB HB.out) hb)
                 clear HO_4
                 clear HO_9
                 clear HO_59
                 clear HB
                 have HO_4 := n0_
                 have HO_9 := n1_
                 have HO_59 := n2_
                 have HO297 := n3_
                 have HB := n4_
                 clear n0_ n1_ n2_ n3_ n4_
                 (try clear hb)
                 (try clear hb2)
                 (try clear hk)
                 (try clear hi)
                 (try clear ho0)
                 refine hK.out _ _ ⟨HS0_, HS1_⟩ (fun hHeld => ?_)
                 clear hK K
                 refine norm_ (a' := ?_) ?_ ?_
                 rotate_left
                 ·show Act.put _ (some 88) _ = _
                  simp only [Act.put, List.setIfInBounds_toArray, List.set_cons_zero, List.set_cons_succ, i64_w, i32_w]
                  rfl
                 refine pure_ (i := 10) (N := some 78) (v := ?_) (a' := ?_) #[true, true, true, true, true, true, true, true, true, true, true, false, false, false, false] rfl rfl (any_of HT_.out (by kernel_rfl)) (fun _ _ _ h => h) (Or.inl ⟨by rfl, ?_⟩) ?_ ?_
                 rotate_left
                 ·intro w'
                  go_simp
                  with_reducible rfl
                 rotate_left
                 ·simp only [Act.put, List.setIfInBounds_toArray, List.set_cons_zero, List.set_cons_succ, i64_w, i32_w]
                  rfl
                 refine pure_ (i := 11) (N := some 89) (v := ?_) (a' := ?_) #[true, true, true, true, true, true, true, true, true, true, true, true, false, false, false] rfl rfl (any_of HT_.out (by kernel_rfl)) (fun _ _ _ h => h) (Or.inl ⟨by rfl, ?_⟩) ?_ ?_
                 rotate_left
                 ·intro w'
                  go_simp
                  with_reducible rfl
                 rotate_left
                 ·simp only [Act.put, List.setIfInBounds_toArray, List.set_cons_zero, List.set_cons_succ, i64_w, i32_w]
                  rfl
                 refine pure_ (i := 12) (N := some 90) (v := ?_) (a' := ?_) #[true, true, true, true, true, true, true, true, true, true, true, true, true, false, false] rfl rfl (any_of HT_.out (by kernel_rfl)) (fun _ _ _ h => h) (Or.inl ⟨by rfl, ?_⟩) ?_ ?_
                 rotate_left
                 ·intro w'
                  go_simp
                  with_reducible rfl
                 rotate_left
                 ·simp only [Act.put, List.setIfInBounds_toArray, List.set_cons_zero, List.set_cons_succ, i64_w, i32_w]
                  rfl
                 refine pure_ (i := 13) (N := some 15) (v := ?_) (a' := ?_) #[true, true, true, true, true, true, true, true, true, true, true, true, true, true, false] rfl rfl (any_of HT_.out (by kernel_rfl)) (fun _ _ _ h => h) (Or.inl ⟨by rfl, ?_⟩) ?_ ?_
                 rotate_left
                 ·intro w'
                  go_simp
                  with_reducible rfl
                 rotate_left
                 ·simp only [Act.put, List.setIfInBounds_toArray, List.set_cons_zero, List.set_cons_succ, i64_w, i32_w]
                  rfl
                 refine pure_ (i := 14) (N := some 5) (v := ?_) (a' := ?_) #[true, true, true, true, true, true, true, true, true, true, true, true, true, true, true] rfl rfl (any_of HT_.out (by kernel_rfl)) (fun _ _ _ h => h) (Or.inl ⟨by rfl, ?_⟩) ?_ ?_
                 rotate_left
                 ·intro w'
                  go_simp
                  with_reducible rfl
                 rotate_left
                 ·simp only [Act.put, List.setIfInBounds_toArray, List.set_cons_zero, List.set_cons_succ, i64_w, i32_w]
                  rfl
                 refine done_ (done_of HT_.out (by kernel_rfl)) ?_
                 obtain ⟨Ao64, co64, eo64⟩ := Kd.R_slice HO297.out
                 subst eo64
                 try go_wp2_with (first | (go_at_call 70; (with_reducible refine (bytes_Equal.calls _ _ t294 _ _ l0 false _ ?side1 ?side2 ?side3 ?side4 A52.out).mono ?_); (case side1 => exact pC (Kd.R_reads' HO297.out).2.2); (case side2 => exact (Kd.R_reads' HO297.out).2.1); (case side3 => exact pC (Kd.C_below HR0.out HB.out)); (case side4 => exact HC0.out); rintro e w' ⟨rfl, ⟨nd, rfl⟩⟩))
                 refine bodyPost_ret (results_list (rs := [.tmp 2, .tmp 3, .tmp 4, .tmp 5]) rfl (by simp) (.tmp (.tmp (.tmp (.tmp .nil))))) rfl ?_
                 exact ⟨_, by first | rfl | (simp [errW_none, errW_some] <;> rfl) | (simp [*, errW_none, errW_some] <;> rfl), by first | exact Kd.S_nil _ _ _ _ _ | exact Kd.N_nil _ _ _ _ _ | exact Kd.V_nil _ _ _ _ _ | exact Kd.Q_nil _ _ _ _ _ | exact Kd.R_nil _ _ _ _ _, by repeat (first | (with_reducible first | exact HB.out | apply below_alloc | apply pw_below_drewN | apply below_drew1) | exact HB.out)⟩
               ·rw [if_neg c51] at H
                have c51b0 : (t295 == 0) = false := beq_eq_false_iff_ne.mpr c51
                have c51b1 : (t295 != 0) = true := bne_iff_ne.mpr c51
                simp only [Option.some.injEq, Prod.mk.injEq] at H
                obtain ⟨rfl, rfl, rfl, rfl⟩ := H
                try go_wp2
                have n0_ := Aside0.mk (Kd.N_drew HO_4.out)
                have n1_ := Aside0.mk (Kd.R_drew HO_9.out)
                have n2_ := Aside0.mk (Kd.V_drew HO_59.out)
                have n3_ := Aside0.mk (below_drew1 HB.out)
                clear HO_4
                clear HO_9
                clear HO_59
                clear HB
                have HO_4 := n0_
                have HO_9 := n1_
                have HO_59 := n2_
                have HB := n3_
                clear n0_ n1_ n2_ n3_
                obtain ⟨Ao66, co66, eo66⟩ := Kd.R_slice HO_9.out
                (first | subst eo66 | (injection eo66 with f1_ f2_ f3_; have f4_ := f1_.symm; have f5_ := f3_.symm; clear f1_ f2_ f3_; subst f4_; subst f5_))
                have p292 : 0 ≤ (0 : Int) := (by omega)
                have q292 : 0 < (t269.length : Int) := of_decide_eq_true pS
                obtain ⟨ad292, e292, hx292_0⟩ := Kd.at_int (Kd.R_reads' HO_9.out).2.2 0 p292 q292
                cases e292
                have qi292 : (0 < t269.length) = True := eq_true (by omega)
                (try rw [show ((0 : Int)).toNat = 0 from rfl] at hx292_0)
                (try rw [Addr.add_zero'] at hx292_0)
                replace p292 := eq_true p292
                replace q292 := eq_true q292
                have p293 : 0 ≤ (1 : Int) := (by omega)
                have q293 : 1 < (t269.length : Int) := of_decide_eq_true pS
                obtain ⟨ad293, e293, hx293_0⟩ := Kd.at_int (Kd.R_reads' HO_9.out).2.2 1 p293 q293
                obtain rfl : ad292 = ad293 := (by injection e293)
                (try simp only [show (1 : Int).toNat = 1 from rfl, Nat.reduceMul, Nat.reduceEqDiff, Go.Addr.add, ↓reduceIte] at hx293_0)
                have qi293 : (1 < t269.length) = True := eq_true (by omega)
                (try rw [show ((1 : Int)).toNat = 1 from rfl] at hx293_0)
                replace p293 := eq_true p293
                replace q293 := eq_true q293
                obtain ⟨Ao67, co67, eo67⟩ := Kd.N_slice HO_4.out
                (first | subst eo67 | (injection eo67 with f1_ f2_ f3_; have f4_ := f1_.symm; have f5_ := f3_.symm; clear f1_ f2_ f3_; subst f4_; subst f5_))
                refine start_ (n := 15) (S := fun w' => w'.cell? ad292 = some (.int .u64 (rd t269 0)) ∧ w'.cell? ⟨ad292.block, ad292.off + 1, none⟩ = some (.int .u64 (rd t269 1))) (ds := []) #[false, false, false, false, false, false, false, false, false, false, false, false, false, false, false] (by kernel_rfl) rfl rfl ⟨hx292_0, hx293_0⟩ (fun hHeld => ?_); refine with_tabW export_Get.tab15 export_Get.bits15 (fun HT_ HW_ => ?_)
                generalize wr.drew = w65 at HO_4 HO_9 HO_59 HB hx292_0 hx293_0 hHeld ⊢
                refine pure_ (i := 0) (N := some 79) (v := ?_) (a' := ?_) #[true, false, false, false, false, false, false, false, false, false, false, false, false, false, false] rfl rfl (any_of HT_.out (by kernel_rfl)) (fun _ _ _ h => h) (Or.inl ⟨by rfl, ?_⟩) ?_ ?_
                rotate_left
                ·intro w'
                 go_simp
                 with_reducible rfl
                rotate_left
                ·simp only [Act.put, List.setIfInBounds_toArray, List.set_cons_zero, List.set_cons_succ, i64_w, i32_w]
                 rfl
                refine pure_ (i := 1) (N := some 80) (v := ?_) (a' := ?_) #[true, true, false, false, false, false, false, false, false, false, false, false, false, false, false] rfl rfl (any_of HT_.out (by kernel_rfl)) (fun _ _ _ h => h) (Or.inl ⟨by rfl, ?_⟩) ?_ ?_
                rotate_left
                ·intro w'
                 go_simp
                 with_reducible rfl
                rotate_left
                ·simp only [Act.put, List.setIfInBounds_toArray, List.set_cons_zero, List.set_cons_succ, i64_w, i32_w]
                 rfl
                refine pure_ (i := 4) (N := some 83) (v := ?_) (a' := ?_) #[true, true, false, false, true, false, false, false, false, false, false, false, false, false, false] rfl rfl (any_of HT_.out (by kernel_rfl)) (fun _ _ _ h => h) (Or.inl ⟨by rfl, ?_⟩) ?_ ?_
                rotate_left
                ·intro w'
                 go_simp
                 with_reducible rfl
                rotate_left
                ·simp only [Act.put, List.setIfInBounds_toArray, List.set_cons_zero, List.set_cons_succ, i64_w, i32_w]
                 rfl
                refine pure_ (i := 5) (N := some 84) (v := ?_) (a' := ?_) #[true, true, false, false, true, true, false, false, false, false, false, false, false, false, false] rfl rfl (any_of HT_.out (by kernel_rfl)) (fun _ _ _ h => h) (Or.inl ⟨by rfl, ?_⟩) ?_ ?_
                rotate_left
                ·intro w'
                 go_simp
                 with_reducible rfl
                rotate_left
                ·simp only [Act.put, List.setIfInBounds_toArray, List.set_cons_zero, List.set_cons_succ, i64_w, i32_w]
                 rfl
                refine pure_ (i := 8) (N := some 87) (v := ?_) (a' := ?_) #[true, true, false, false, true, true, false, false, true, false, false, false, false, false, false] rfl rfl (any_of HT_.out (by kernel_rfl)) (fun _ _ _ h => h) (Or.inl ⟨by rfl, ?_⟩) ?_ ?_
                rotate_left
                ·intro w'
                 go_simp
                 with_reducible rfl
                rotate_left
                ·simp only [Act.put, List.setIfInBounds_toArray, List.set_cons_zero, List.set_cons_succ, i64_w, i32_w]
                 rfl
                refine take_ (i := 2) (N := some 81) (v := ?_) (a' := ?_) #[true, true, true, false, true, true, false, false, true, false, false, false, false, false, false] rfl rfl (take_ofW HT_.out HW_.out (by kernel_rfl)) (fun _ _ _ h => h) (Or.inl ⟨by rfl, ?_⟩) hHeld ?_ ?_
                rotate_left
                ·rintro w' ⟨s0, s1⟩
                 go_simp
                 with_reducible rfl
                rotate_left
                ·simp only [Act.put, List.setIfInBounds_toArray, List.set_cons_zero, List.set_cons_succ, i64_w, i32_w]
                 rfl
                refine pure_ (i := 3) (N := some 82) (v := ?_) (a' := ?_) #[true, true, true, true, true, true, false, false, true, false, false, false, false, false, false] rfl rfl (any_of HT_.out (by kernel_rfl)) (fun _ _ _ h => h) (Or.inl ⟨by rfl, ?_⟩) ?_ ?_
                rotate_left
                ·intro w'
                 go_simp
                 with_reducible rfl
                rotate_left
                ·simp only [Act.put, List.setIfInBounds_toArray, List.set_cons_zero, List.set_cons_succ, i64_w, i32_w]
                 rfl
                refine take_ (i := 6) (N := some 85) (v := ?_) (a' := ?_) #[true, true, true, true, true, true, true, false, true, false, false, false, false, false, false] rfl rfl (take_ofW HT_.out HW_.out (by kernel_rfl)) (fun _ _ _ h => h) (Or.inl ⟨by rfl, ?_⟩) hHeld ?_ ?_
                rotate_left
                ·rintro w' ⟨s0, s1⟩
                 go_simp
                 with_reducible rfl
                rotate_left
                ·simp only [Act.put, List.setIfInBounds_toArray, List.set_cons_zero, List.set_cons_succ, i64_w, i32_w]
                 rfl
                refine pure_ (i := 7) (N := some 86) (v := ?_) (a' := ?_) #[true, true, true, true, true, true, true, true, true, false, false, false, false, false, false] rfl rfl (any_of HT_.out (by kernel_rfl)) (fun _ _ _ h => h) (Or.inl ⟨by rfl, ?_⟩) ?_ ?_
                rotate_left
                ·intro w'
                 go_simp
                 with_reducible rfl
                rotate_left
                ·simp only [Act.put, List.setIfInBounds_toArray, List.set_cons_zero, List.set_cons_succ, i64_w, i32_w]
                 rfl
                refine one_ (i := 9) (N := some 88) #[true, true, true, true, true, true, true, true, true, true, false, false, false, false, false] rfl rfl (one_of HT_.out (by kernel_rfl)) (by decide) (fun K hK => ?_)
                refine goes_ Try.func21 (by kernel_rfl) rfl #[.int .i64 (wrap64 (rd t269 0)), .int .i64 (wrap64 (rd t269 1)), .slice Ao67 x4_3.length co67] (by rfl) rfl rfl pL ?_
                with_reducible refine (export_Put.calls k3 (wrap64 (rd t269 0)) (wrap64 (rd t269 1)) _ _ x4_3 t294 t295 _ ?side1 ?side2 A50.out).mono ?_
                (case side1 => exact pC (Kd.N_reads' HO_4.out).2.2)
                (case side2 => exact (Kd.N_reads' HO_4.out).2.1)
                rintro e w68 ⟨v296, rfl, ho0, hb⟩
                have HS0_ := (hb.cell (World.block_lt_of_cell? _ _ (hHeld.1))).trans (hHeld.1)
                have HS1_ := (hb.cell (World.block_lt_of_cell? _ _ (hHeld.2))).trans (hHeld.2)
                refine ⟨_, rfl, ?_⟩
                have n0_ := Aside0.mk (Kd.N_elder' (pN HO_4.out) (Kd.R_base ho0) hb)
                have n1_ := Aside0.mk (Kd.R_below (pR HO_9.out) hb)
                have n2_ := Aside0.mk (Kd.V_elder' (pV HO_59.out) (Kd.R_base ho0) hb)
                have n3_ := Aside0.mk (Kd.R_lower (Kd.R_newM (M := fun k_ => (w.heap.size ≤ k_)) ho0 (below_size (pB HB.out)) (fun k_ h_ => h_)) (below_size (pB HB.out)))
                have n4_ := Aside0.mk (below_step (pB HB.out) hb)
                clear HO_4
                clear HO_9
                clear HO_59
                clear HB
                have HO_4 := n0_
                have HO_9 := n1_
                have HO_59 := n2_
                have HO297 := n3_
                have HB := n4_
                clear n0_ n1_ n2_ n3_ n4_
                (try clear hb)
                (try clear hb2)
                (try clear hk)
                (try clear hi)
                (try clear ho0)
                refine hK.out _ _ ⟨HS0_, HS1_⟩ (fun hHeld => ?_)
                clear hK K
                refine norm_ (a' := ?_) ?_ ?_
                rotate_left
                ·show Act.put _ (some 88) _ = _
                 simp only [Act.put, List.setIfInBounds_toArray, List.set_cons_zero, List.set_cons_succ, i64_w, i32_w]
                 rfl
                refine pure_ (i := 10) (N := some 78) (v := ?_) (a' := ?_) #[true, true, true, true, true, true, true, true, true, true, true, false, false, false, false] rfl rfl (any_of HT_.out (by kernel_rfl)) (fun _ _ _ h => h) (Or.inl ⟨by rfl, ?_⟩) ?_ ?_
                rotate_left
                ·intro w'
                 go_simp
                 with_reducible rfl
                rotate_left
                ·simp only [Act.put, List.setIfInBounds_toArray, List.set_cons_zero, List.set_cons_succ, i64_w, i32_w]
                 rfl
                refine pure_ (i := 11) (N := some 89) (v := ?_) (a' := ?_) #[true, true, true, true, true, true, true, true, true, true, true, true, false, false, false] rfl rfl (any_of HT_.out (by kernel_rfl)) (fun _ _ _ h => h) (Or.inl ⟨by rfl, ?_⟩) ?_ ?_
                rotate_left
                ·intro w'
                 go_simp
                 with_reducible rfl
                rotate_left
                ·simp only [Act.put, List.setIfInBounds_toArray, List.set_cons_zero, List.set_cons_succ, i64_w, i32_w]
                 rfl
                refine pure_ (i := 12) (N := some 90) (v := ?_) (a' := ?_) #[true, true, true, true, true, true, true, true, true, true, true, true, true, false, false] rfl rfl (any_of HT_.out (by kernel_rfl)) (fun _ _ _ h => h) (Or.inl ⟨by rfl, ?_⟩) ?_ ?_
                rotate_left
                ·intro w'
                 go_simp
                 with_reducible rfl
                rotate_left
                ·simp only [Act.put, List.setIfInBounds_toArray, List.set_cons_zero, List.set_cons_succ, i64_w, i32_w]
                 rfl
                refine pure_ (i := 13) (N := some 15) (v := ?_) (a' := ?_) #[true, true, true, true, true, true, true, true, true, true, true, true, true, true, false] rfl rfl (any_of HT_.out (by kernel_rfl)) (fun _ _ _ h => h) (Or.inl ⟨by rfl, ?_⟩) ?_ ?_
                rotate_left
                ·intro w'
                 go_simp
                 with_reducible rfl
                rotate_left
                ·simp only [Act.put, List.setIfInBounds_toArray, List.set_cons_zero, List.set_cons_succ, i64_w, i32_w]
                 rfl
                refine pure_ (i := 14) (N := some 5) (v := ?_) (a' := ?_) #[true, true, true, true, true, true, true, true, true, true, true, true, true, true, true] rfl rfl (any_of HT_.out (by kernel_rfl)) (fun _ _ _ h => h) (Or.inl ⟨by rfl, ?_⟩) ?_ ?_
                rotate_left
                ·intro w'
                 go_simp
                 with_reducible rfl
                rotate_left
                ·simp only [Act.put, List.setIfInBounds_toArray, List.set_cons_zero, List.set_cons_succ, i64_w, i32_w]
                 rfl
                refine done_ (done_of HT_.out (by kernel_rfl)) ?_
                try go_wp2
                refine bodyPost_ret (results_list (rs := [.tmp 2, .tmp 3, .tmp 4, .tmp 5]) rfl (by simp) (.tmp (.tmp (.tmp (.tmp .nil))))) rfl ?_
                exact ⟨_, by first | rfl | (simp [errW_none, errW_some] <;> rfl) | (simp [*, errW_none, errW_some] <;> rfl), by first | exact Kd.S_nil _ _ _ _ _ | exact Kd.N_nil _ _ _ _ _ | exact Kd.V_nil _ _ _ _ _ | exact Kd.Q_nil _ _ _ _ _ | exact Kd.R_nil _ _ _ _ _, by repeat (first | (with_reducible first | exact HB.out | apply below_alloc | apply pw_below_drewN | apply below_drew1) | exact HB.out)⟩
              ·rw [if_neg c49] at H
               exact absurd H (by simp)
             ·rw [if_neg c48] at H
              exact absurd H (by simp)
         ·rw [if_neg c23] at H
          exact absurd H (by simp)
        ·rw [if_neg c22] at H
         exact absurd H (by simp)
    ·rw [if_neg c10] at H
     exact absurd H (by simp)
end Go.Proofs.Ytapamplgajkjlaa.PExportPuts
