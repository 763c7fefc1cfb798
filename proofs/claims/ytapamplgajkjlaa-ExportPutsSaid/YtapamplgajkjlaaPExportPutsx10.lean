/- What the law reaches, as plain Lean functions, and that the machine's calls answer just that. -/
import Derived.Test.YtapamplgajkjlaaPExportPutsx0
import Derived.Test.YtapamplgajkjlaaPExportPutsx2
import Derived.Test.YtapamplgajkjlaaPExportPutsx6
import Derived.Test.YtapamplgajkjlaaPExportPutsx7
import Derived.Test.YtapamplgajkjlaaPExportPutsx9
namespace Go.Proofs.Ytapamplgajkjlaa.PExportPuts
open Go.RowKit Go.Proofs.YtapamplgajkjlaaW.PrintWords Go.Proofs.YtapamplgajkjlaaW.PrintLast Go.Proofs.YtapamplgajkjlaaW.PrintMore
attribute [local go_sem] max2_int min2_int max_two min_two max_three min_three max_four min_four
set_option linter.unusedVariables false
set_option linter.unusedSimpArgs false
attribute [local go_sem] wrap64_l1 wrap64_l2 wrap64_l3 wrap64_l4 wrap64_l5 str_leq str_gtr str_geq
def garnerref03_Scan.l0 : Nat → List Int → List (S83) → List Int → Int → Option ((List (S83)) × List Int × Int)
 | 0, _, _, _, _ => none
 | k + 1, x0, x5, x6, x7 => if x7 ≤ (x0.length : Int) then (if 0 ≤ x7 then ((garnerref03_First.f k (x0.drop (x7 : Int).toNat)).bind fun bt381 => (if bt381.2.2.2 = 0 then (if x5.length < 4398046511104 then (if x6.length < 17592186044416 then (garnerref03_Scan.l0 k x0 (x5 ++ [(⟨bt381.1, bt381.2.1⟩ : S83)]) (x6 ++ [wrap64 ((wrap64 ((wrap64 (x7 + bt381.2.2.1)) - 4)) - (bt381.2.1.length : Int))]) (wrap64 (x7 + bt381.2.2.1))) else (none)) else (none)) else (some (x5, x6, x7)))) else (none)) else (some (x5, x6, x7))
def garnerref03_Scan.f (k : Nat) (l0 : List Int) : Option ((List (S83)) × List Int × Int) := garnerref03_Scan.l0 k l0 (([] : List (S83))) (([] : List Int)) 0
theorem garnerref03_Scan.mono_l : ∀ k, (∀ y0 y1 y2 y3, LeO (garnerref03_Scan.l0 k y0 y1 y2 y3) (garnerref03_Scan.l0 (k + 1) y0 y1 y2 y3))
 | 0 => fun _ _ _ _ r h => by simp [garnerref03_Scan.l0] at h
 | k + 1 => by
  have ih0 := garnerref03_Scan.mono_l k
  ·intro y0 y1 y2 y3
   unfold garnerref03_Scan.l0
   repeat' first
   | (with_reducible exact ih0 _ _ _ _)
   | (with_reducible exact garnerref03_First.mono _ _)
   | (with_reducible exact LeO.refl _)
   | (with_reducible exact LeO.none _)
   | (with_reducible refine LeO.ite ?_ ?_)
   | (with_reducible refine LeO.bind ?_ (fun _ => ?_))
   | exact ih0 _ _ _ _
   | exact garnerref03_First.mono _ _
   | exact LeO.none _
   | refine LeO.ite ?_ ?_
   | refine LeO.bind ?_ (fun _ => ?_)
theorem garnerref03_Scan.mono : ∀ a0 k, LeO (garnerref03_Scan.f k a0) (garnerref03_Scan.f (k + 1) a0) := by
 intro a0 k
 have ih0 := garnerref03_Scan.mono_l k
 unfold garnerref03_Scan.f
 repeat' first
   | (with_reducible exact ih0 _ _ _ _)
   | (with_reducible exact garnerref03_First.mono _ _)
   | (with_reducible exact LeO.refl _)
   | (with_reducible exact LeO.none _)
   | (with_reducible refine LeO.ite ?_ ?_)
   | (with_reducible refine LeO.bind ?_ (fun _ => ?_))
   | exact ih0 _ _ _ _
   | exact garnerref03_First.mono _ _
   | exact LeO.none _
   | refine LeO.ite ?_ ?_
   | refine LeO.bind ?_ (fun _ => ?_)
set_option maxHeartbeats 8000000 in
set_option maxRecDepth 100000 in
theorem garnerref03_Scan.calls (k : Nat) (A0 : Option Addr) (c0 : Nat) (l0 : List Int) (r1 : List (S83)) (r2 : List Int) (r3 : Int) (w : World) (hr0 : Kd.C (Kd.int .u8) w A0 l0.length l0) (hc0 : l0.length ≤ c0) (h : garnerref03_Scan.f k l0 = some (r1, r2, r3)) :
  Calls Try.prog 66 #[.slice A0 l0.length c0] w fun e w' => ∃ v0_ v1_ : Value, e = .returned (.tuple #[v0_, v1_, .int .i64 r3]) ∧ Kd.S k83 83 w' w.heap.size (fun _ => True) v0_ r1 ∧ Kd.R (Kd.int .i64) 3 w' w.heap.size (fun _ => True) v1_ r2 ∧ Below w.heap.size w w' := by
 have hu83 := Try.underlying83
 have HR0 := Aside0.mk hr0
 have HC0 := Aside0.mk hc0
 clear hr0 hc0
 have HB := Aside0.mk (Below.refl w.heap.size w)
 have H : (garnerref03_Scan.l0 k l0 (([] : List (S83))) (([] : List Int)) 0) = some (r1, r2, r3) := h
 clear h
 obtain ⟨y374, hy374⟩ : ∃ y_ : List (S83), y_ = (([] : List (S83))) := ⟨_, rfl⟩
 replace H : (garnerref03_Scan.l0 k l0 y374 (([] : List Int)) 0) = some (r1, r2, r3) := by first | (rw [hy374]; with_reducible exact H) | (have H2_ := (Option.bind_some _ _).symm.trans H; rw [hy374]; with_reducible exact H2_) | (have H2_ := (Option.bind_some _ _).symm.trans H; with_reducible exact H2_) | with_reducible exact H | (rw [hy374]; exact H) | exact H
 have Ny374 := Aside0.mk hy374
 clear hy374
 obtain ⟨y377, hy377⟩ : ∃ y_ : List Int, y_ = (([] : List Int)) := ⟨_, rfl⟩
 replace H : (garnerref03_Scan.l0 k l0 y374 y377 0) = some (r1, r2, r3) := by first | (rw [hy377]; with_reducible exact H) | (have H2_ := (Option.bind_some _ _).symm.trans H; rw [hy377]; with_reducible exact H2_) | (have H2_ := (Option.bind_some _ _).symm.trans H; with_reducible exact H2_) | with_reducible exact H | (rw [hy377]; exact H) | exact H
 have Ny377 := Aside0.mk hy377
 clear hy377
 have H' := Aside0.mk H
 clear H
 go_enter Try.func66, Try.ntmps66
 go_wp2_with (first | ((with_reducible refine gate_dst (N := 11) rfl ?_); refine Kd.S_lit k83 _ 83 ?hg (N := 11) ?hd (xs := ([] : List (S83))) (inner := []) (ok := fun _ => True) (okp := fun _ => True) ?hr ?hp (fun _ hk => hk) trivial (Below.refl _ _) (Nat.le_refl _) (by simp) ?_; (case hd => rfl); (case hg => rfl); (case hr => first | (go_simp; done) | (go_simp; rfl)); (case hp => exact (Reps.none _ _)); intro v375 w2 ho3 hb hg_ hnew_; clear hg_ hnew_; (first | rw [← Ny374.out] at ho3 | (simp only [Int.reduceToNat] at ho3; rw [← Ny374.out] at ho3)); have n0_ := Aside0.mk (Kd.S_lower ho3 (below_size (pB HB.out))); have n1_ := Aside0.mk (below_step (pB HB.out) hb); clear HB; have HO376 := n0_; have HB := n1_; clear n0_ n1_ hb ho3) | ((with_reducible refine gate_dst (N := 12) rfl ?_); refine Kd.R_lit (Kd.int .i64) _ 3 ?hg (N := 12) ?hd (xs := ([] : List Int)) (inner := []) (ok := fun _ => True) (okp := fun _ => True) ?hr ?hp (fun _ hk => hk) trivial (Below.refl _ _) (Nat.le_refl _) (by simp) ?_; (case hd => rfl); (case hg => rfl); (case hr => first | (go_simp; done) | (go_simp; rfl)); (case hp => exact (Reps.none _ _)); intro v378 w4 ho5 hb hg_ hnew_; clear hg_ hnew_; (first | rw [← Ny377.out] at ho5 | (simp only [Int.reduceToNat] at ho5; rw [← Ny377.out] at ho5)); have n0_ := Aside0.mk (Kd.S_below (by (with_reducible repeat (first | apply Kd.S_alloc | apply Kd.S_drewN | apply Kd.S_drew)); exact HO376.out) hb); have n1_ := Aside0.mk (Kd.R_lower ho5 (below_size (pB HB.out))); have n2_ := Aside0.mk (below_step (pB HB.out) hb); clear HO376 HB; have HO376 := n0_; have HO379 := n1_; have HB := n2_; clear n0_ n1_ n2_ hb ho5))
 go_loopg [5, 6, 7] k (fun kq v5 v6 v7 w' => ∃ (x5_1 : List (S83)) (x6_1 : List Int) (x7_1 : Int), v7 = .int .i64 x7_1 ∧ Aside0 (garnerref03_Scan.l0 kq l0 x5_1 x6_1 x7_1 = some (r1, r2, r3)) ∧ Aside0 (kq ≤ k) ∧ Aside0 (Kd.S k83 83 w' w.heap.size (fun _ => True) v5 x5_1) ∧ Aside0 (Kd.R (Kd.int .i64) 3 w' w.heap.size (fun _ => True) v6 x6_1) ∧ Aside0 (Below w.heap.size w w'))
 case atStart => exact ⟨(y374), (y377), (0), (by first | rfl | (simp; done) | (simp [*]; done)), H', ⟨Nat.le_refl _⟩, ⟨by (with_reducible repeat (first | apply Kd.S_alloc | apply Kd.S_drewN | apply Kd.S_drew)); exact HO376.out⟩, ⟨by (with_reducible repeat (first | apply Kd.R_alloc | apply Kd.R_drewN | apply Kd.R_drew)); exact HO379.out⟩, ⟨by repeat (first | (with_reducible first | exact HB.out | apply below_alloc | apply pw_below_drewN | apply below_drew1) | exact HB.out)⟩⟩
 case round =>
  clear H'
  try clear p2
  obtain ⟨x5_1, x6_1, x7_1, rfl, HA, HK1, HO_5, HO_6, HB⟩ := hrel
  cases gk with
  | zero => exact absurd HA.out (by simp [garnerref03_Scan.l0])
  | succ k1 =>
   have H := HA.out
   clear HA
   simp only [garnerref03_Scan.l0] at H
   by_cases c6 : x7_1 ≤ (l0.length : Int)
   ·rw [if_pos c6] at H
    have c6b0 : decide (x7_1 ≤ (l0.length : Int)) = true := decide_eq_true c6
    clear c6
    by_cases c7 : 0 ≤ x7_1
    ·rw [if_pos c7] at H
     have c7b0 := eq_true c7
     have c7b1 : decide (0 ≤ x7_1) = true := decide_eq_true c7
     clear c7
     have c8b0 := eq_true (of_decide_eq_true pS : x7_1 ≤ (l0.length : Int))
     replace H := Option.bind_eq_some_iff.mp H
     obtain ⟨⟨t381, t382, t385, t386⟩, A90, H⟩ := H
     replace H : (if t386 = 0 then (if x5_1.length < 4398046511104 then (if x6_1.length < 17592186044416 then (garnerref03_Scan.l0 k1 l0 (x5_1 ++ [(⟨t381, t382⟩ : S83)]) (x6_1 ++ [wrap64 ((wrap64 ((wrap64 (x7_1 + t385)) - 4)) - (t382.length : Int))]) (wrap64 (x7_1 + t385))) else (none)) else (none)) else (some (x5_1, x6_1, x7_1))) = some (r1, r2, r3) := H
     have A9 := Aside0.mk A90
     clear A90
     by_cases c10 : t386 = 0
     ·rw [if_pos c10] at H
      have c10b0 : (t386 == 0) = true := beq_iff_eq.mpr c10
      have c10b1 : (t386 != 0) = false := bne_eq_false_iff_eq.mpr c10
      clear c10
      by_cases c11 : x5_1.length < 4398046511104
      ·rw [if_pos c11] at H
       have LMc11 := Aside0.mk c11
       clear c11
       obtain ⟨y388, hy388⟩ : ∃ y_ : List (S83), y_ = (x5_1 ++ [(⟨t381, t382⟩ : S83)]) := ⟨_, rfl⟩
       replace H : (if x6_1.length < 17592186044416 then (garnerref03_Scan.l0 k1 l0 y388 (x6_1 ++ [wrap64 ((wrap64 ((wrap64 (x7_1 + t385)) - 4)) - (t382.length : Int))]) (wrap64 (x7_1 + t385))) else (none)) = some (r1, r2, r3) := by first | (rw [hy388]; with_reducible exact H) | (have H2_ := (Option.bind_some _ _).symm.trans H; rw [hy388]; with_reducible exact H2_) | (have H2_ := (Option.bind_some _ _).symm.trans H; with_reducible exact H2_) | with_reducible exact H | (rw [hy388]; exact H) | exact H
       have Ny388 := Aside0.mk hy388
       clear hy388
       by_cases c12 : x6_1.length < 17592186044416
       ·rw [if_pos c12] at H
        have LMc12 := Aside0.mk c12
        clear c12
        obtain ⟨y391, hy391⟩ : ∃ y_ : List Int, y_ = (x6_1 ++ [wrap64 ((wrap64 ((wrap64 (x7_1 + t385)) - 4)) - (t382.length : Int))]) := ⟨_, rfl⟩
        replace H : (garnerref03_Scan.l0 k1 l0 y388 y391 (wrap64 (x7_1 + t385))) = some (r1, r2, r3) := by first | (rw [hy391]; with_reducible exact H) | (have H2_ := (Option.bind_some _ _).symm.trans H; rw [hy391]; with_reducible exact H2_) | (have H2_ := (Option.bind_some _ _).symm.trans H; with_reducible exact H2_) | with_reducible exact H | (rw [hy391]; exact H) | exact H
        have Ny391 := Aside0.mk hy391
        clear hy391
        have H' := Aside0.mk H
        clear H
        obtain ⟨i013, hi013, _, hsz13, _⟩ := info_parts info5
        obtain ⟨A13, hcut13, hA13, hC13⟩ := print_drop_of (P := Try.prog) (Value.int .u8) 0 22 5 .i64 Try.underlying22 hi013 hsz13 A0 c0 l0 x7_1 (of_decide_eq_true pS) (of_decide_eq_true pS) HC0.out
        have HR380 := Aside0.mk (Kd.C_of_reads (h1 := fun _ => rfl) (hA13 _ (Kd.reads_of_C HR0.out)))
        have HC380 := Aside0.mk hC13
        clear hA13 hC13 hi013 hsz13
        go_wp2_with (first | ((with_reducible refine gate_callee (f := 139) rfl ?_); refine goesL_ (some 21) rfl rfl Try.func139 (by kernel_rfl) rfl #[.slice A13 (l0.drop (x7_1 : Int).toNat).length (c0 - x7_1.toNat)] rfl (by (try simp only [List.map_toArray, List.map_cons, List.map_nil]); first | done | (rw [show (l0.drop (x7_1 : Int).toNat).length = (l0.length - x7_1.toNat) from List.length_drop] <;> rfl) | rfl | (simp only [List.length_drop, List.length_take]; rfl)) ?_; (with_reducible refine (garnerref03_First.calls k1 _ _ (l0.drop (x7_1 : Int).toNat) t381 t382 t385 t386 _ ?side1 ?side2 A9.out).mono ?_); (case side1 => exact pC (Kd.C_below HR380.out HB.out)); (case side2 => exact HC380.out); rintro e w14 ⟨v383, rfl, ho0, hb⟩; refine ⟨_, rfl, ?_⟩; have n0_ := Aside0.mk (Kd.S_elder' (by (with_reducible repeat (first | apply Kd.S_alloc | apply Kd.S_drewN | apply Kd.S_drew)); exact HO_5.out) (Kd.R_base ho0) hb); have n1_ := Aside0.mk (Kd.R_below (pR HO_6.out) hb); have n2_ := Aside0.mk (Kd.R_lower ho0 (below_size (pB HB.out))); have n3_ := Aside0.mk (below_step (pB HB.out) hb); clear HO_5 HO_6 HB; have HO_5 := n0_; have HO_6 := n1_; have HO384 := n2_; have HB := n3_; clear n0_ n1_ n2_ n3_; (try clear hb); (try clear hb2); (try clear hk); (try clear hi); (try clear ho0)) | ((with_reducible refine gate_dst (N := 8) rfl ?_); refine box_event ?hg (N := 8) ?hd (cs := #[.int .i64 0, .slice none 0 0]) (t := 83) ?hr ?_; (case hd => rfl); (case hg => rfl); (case hr => first | (go_simp; done) | (go_simp; rfl)); intro gb387 hg w15 hbox hb; have n0_ := Aside0.mk (Kd.S_below (Kd.S_elderB (by (with_reducible repeat (first | apply Kd.S_alloc | apply Kd.S_drewN | apply Kd.S_drew)); exact HO_5.out) gb387 (Nat.le_of_eq hg.symm)) hb); have n1_ := Aside0.mk (Kd.R_below (pR HO_6.out) hb); have n2_ := Aside0.mk (Kd.R_below (pR HO384.out) hb); have n3_ := Aside0.mk (below_step (pB HB.out) hb); have n4_ := Aside0.mk (hbox); have n5_ := Aside0.mk ((by rw [hg]; exact (below_size (pB HB.out)) : w.heap.size ≤ gb387)); have n6_ := Aside0.mk ((by rw [hg]; exact (below_size (pB HB.out)) : w.heap.size ≤ gb387)); clear HO_5 HO_6 HO384 HB; have HO_5 := n0_; have HO_6 := n1_; have HO384 := n2_; have HB := n3_; have BK387 := n4_; have GW387 := n5_; have GE387 := n6_; clear n0_ n1_ n2_ n3_ n4_ n5_ n6_ hb hbox hg; have hcz16_0 : w15.cell? ⟨gb387, 0, none⟩ = some (.int .i64 0) := (blk_cell BK387.out 0).trans rfl; have hcz16_1 : w15.cell? ⟨gb387, 1, none⟩ = some (.slice none 0 0) := (blk_cell BK387.out 1).trans rfl; have hfz16_0 := blk_frozen BK387.out 0; have hfz16_1 := blk_frozen BK387.out 1; obtain ⟨Ao17, co17, eo17⟩ := Kd.R_slice HO384.out; subst eo17) | ((with_reducible refine gate_store (t := 83) (p := 8) rfl ?_); refine store_event (t := 83) (p := 8) (v := ?vo_w18) (w1 := ((w15.setCell ⟨gb387, 0, none⟩ (.int .i64 t381)).setCell ⟨gb387, 1, none⟩ (.slice Ao17 t382.length co17))) ?hg ?ho ?hn ?hr ?_; (case ho => rfl); (case hg => rfl); (case hn => rfl); (case hr => first | (go_simp; done) | (go_simp; rfl)); intro w18 hw; have n0_ : Aside0 (Kd.S k83 83 w18 w.heap.size (fun k_ => some k_ ≠ (.slice Ao17 t382.length co17 : Value).ownBlock ∧ k_ ≠ gb387) u5 x5_1) := ⟨(by rw [hw]; exact (by (with_reducible repeat (first | apply Kd.S_alloc | apply Kd.S_drewN | apply Kd.S_drew)); exact Kd.S_mono (Kd.S_far (p := ⟨gb387, 1, none⟩) (Kd.S_far (p := ⟨gb387, 0, none⟩) (Kd.S_mono HO_5.out (fun k_ hk => (⟨hk, hk.2⟩ : _ ∧ k_ ≠ gb387))) (fun _ hk => hk.2) (.int .i64 t381)) (fun _ hk => hk.2) (.slice Ao17 t382.length co17)) (fun _ hk => ⟨hk.1.1.2, hk.1.2⟩)))⟩; have n1_ : Aside0 (Kd.R (Kd.int .i64) 3 w18 w.heap.size (fun _ => True) u6 x6_1) := ⟨(by rw [hw]; exact (by (with_reducible repeat (first | apply Kd.R_alloc | apply Kd.R_drewN | apply Kd.R_drew)); exact Kd.R_mono (Kd.R_far (p := ⟨gb387, 1, none⟩) (Kd.R_far (p := ⟨gb387, 0, none⟩) (Kd.R_types HO_6.out BK387.out (by decide)) (fun _ hk => hk.2) (.int .i64 t381)) (fun _ hk => hk.2) (.slice Ao17 t382.length co17)) (fun _ hk => trivial)))⟩; have n2_ : Aside0 (Kd.R (Kd.int .u8) 5 w18 w.heap.size (fun _ => True) (.slice Ao17 t382.length co17) t382) := ⟨(by rw [hw]; exact (by (with_reducible repeat (first | apply Kd.R_alloc | apply Kd.R_drewN | apply Kd.R_drew)); exact Kd.R_mono (Kd.R_far (p := ⟨gb387, 1, none⟩) (Kd.R_far (p := ⟨gb387, 0, none⟩) (Kd.R_types HO384.out BK387.out (by decide)) (fun _ hk => hk.2) (.int .i64 t381)) (fun _ hk => hk.2) (.slice Ao17 t382.length co17)) (fun _ hk => trivial)))⟩; have n3_ : Aside0 (w18.heap[gb387]? = some (.cells #[.int .i64 t381, .slice Ao17 t382.length co17] 83 (0, 0))) := ⟨(by rw [hw]; exact (by (with_reducible repeat (first | refine blk_drewN ?_ _ | refine blk_drew ?_ | refine blk_alloc ?_ _)); refine blk_put (cs := #[.int .i64 t381, .slice none 0 0]) ?_ 1 _ rfl; (with_reducible repeat (first | refine blk_drewN ?_ _ | refine blk_drew ?_ | refine blk_alloc ?_ _)); refine blk_put (cs := #[.int .i64 0, .slice none 0 0]) ?_ 0 _ rfl; (with_reducible repeat (first | refine blk_drewN ?_ _ | refine blk_drew ?_ | refine blk_alloc ?_ _)); exact BK387.out))⟩; have n4_ : Aside0 (Below w.heap.size w w18) := ⟨(by rw [hw]; exact (pE HB.out GE387.out))⟩; clear hw HO_5 HO_6 HO384 BK387 HB; have HO_5 := n0_; have HO_6 := n1_; have HO384 := n2_; have BK387 := n3_; have HB := n4_; clear n0_ n1_ n2_ n3_ n4_; have hcz19_0 : w18.cell? ⟨gb387, 0, none⟩ = some (.int .i64 t381) := (blk_cell BK387.out 0).trans rfl; have hcz19_1 : w18.cell? ⟨gb387, 1, none⟩ = some (.slice Ao17 t382.length co17) := (blk_cell BK387.out 1).trans rfl; have hfz19_0 := blk_frozen BK387.out 0; have hfz19_1 := blk_frozen BK387.out 1) | ((with_reducible refine gate_builtin (b := .append) (xs := #[.tmp 27, .tmp 29]) rfl ?_); at_builtin; refine Kd.S_append k83 (w0 := w) w.heap.size rfl (.tmp 27) (.tmp 29) 92 83 (.agg #[(.int .i64 0), (.slice none 0 0)]) 32 rfl Try.underlying92 info83 rfl (by decide) (by omega) u5 x5_1 (⟨t381, t382⟩ : S83) [.int .i64 t381, .slice Ao17 t382.length co17] (fun k_ => k_ ≠ gb387) (fun k_ => some k_ = (.slice Ao17 t382.length co17 : Value).ownBlock) rfl rfl ?aP (fun k_ hk_ => ((Kd.R_mono (ok' := fun k_ => ((fun k_ => k_ ≠ gb387)) k_ ∧ some k_ ≠ (u5 : Value).ownBlock) (Kd.R_types (Kd.R_apart' (HO384.out) (Kd.S_typed HO_5.out) (by decide)) BK387.out (by decide)) (fun k_ hk => ⟨hk.2, hk.1.2⟩))).1 k_ hk_.symm) ?aF ?aO ?aB ?aS ?aL ?_; (case aP => exact k83_mkM _ _ _ (⟨t381, t382⟩ : S83) (Kd.R_mono (Kd.R_tight rfl (Kd.R_mono (ok' := fun k_ => ((fun k_ => k_ ≠ gb387)) k_ ∧ some k_ ≠ (u5 : Value).ownBlock) (Kd.R_types (Kd.R_apart' (HO384.out) (Kd.S_typed HO_5.out) (by decide)) BK387.out (by decide)) (fun k_ hk => ⟨hk.2, hk.1.2⟩))) (fun _ h_ => h_))); (case aB => exact (pE HB.out GE387.out)); (case aF => exact (fun k_ hk => Kd.freshB (g := gb387) (o := .cells #[.int .i64 t381, .slice Ao17 t382.length co17] 83 (0, 0)) (pK BK387.out) k_ hk)); (case aO => exact (by (with_reducible repeat (first | apply Kd.S_alloc | apply Kd.S_drewN | apply Kd.S_drew)); exact Kd.S_mono HO_5.out (fun k_ hk => ⟨hk.2, fun e_ => hk.1 e_⟩))); (case aS => exact (below_size (pE HB.out GE387.out))); (case aL => have := LMc11.out; omega); intro v389 w20 ho hb hg hat; rw [← Ny388.out] at ho; have n0_ := Aside0.mk (Kd.R_over' (pR HO_6.out) (Kd.S_typed (by (with_reducible repeat (first | apply Kd.S_alloc | apply Kd.S_drewN | apply Kd.S_drew)); exact HO_5.out)) (by decide) hg); have n1_ := Aside0.mk (blk_grown (g := gb387) (o := .cells #[.int .i64 t381, .slice Ao17 t382.length co17] 83 (0, 0)) (pK BK387.out) hg (Kd.S_away HO_5.out (fun _ hk => hk.2))); have n2_ := Aside0.mk (hb); have n3_ := Aside0.mk (ho); clear HO_6 BK387 HB HO_5 HO384; have HO_6 := n0_; have BK387 := n1_; have HB := n2_; have HO390 := n3_; clear n0_ n1_ n2_ n3_ ho hb hg hat; have hcz21_0 : w20.cell? ⟨gb387, 0, none⟩ = some (.int .i64 t381) := (blk_cell BK387.out 0).trans rfl; have hcz21_1 : w20.cell? ⟨gb387, 1, none⟩ = some (.slice Ao17 t382.length co17) := (blk_cell BK387.out 1).trans rfl; have hfz21_0 := blk_frozen BK387.out 0; have hfz21_1 := blk_frozen BK387.out 1) | ((with_reducible refine gate_builtin (b := .append) (xs := #[.tmp 31, .tmp 40]) rfl ?_); at_builtin; refine Kd.R_append (Kd.int .i64) (w0 := w) w.heap.size rfl (.tmp 31) (.tmp 40) 127 3 (.int .i64 0) 8 rfl Try.underlying127 info3 rfl (by decide) (by omega) u6 x6_1 (wrap64 ((wrap64 ((wrap64 (x7_1 + t385)) - 4)) - (t382.length : Int))) [.int .i64 (wrap64 ((wrap64 ((wrap64 (x7_1 + t385)) - 4)) - (t382.length : Int)))] (fun _ => True) (fun _ => False) rfl rfl ?aP (fun _ hk => hk.elim) ?aF ?aO ?aB ?aS ?aL ?_; (case aP => exact rfl); (case aB => exact (pE HB.out GE387.out)); (case aF => exact (fun _ _ => trivial)); (case aO => exact (pR HO_6.out)); (case aS => exact (below_size (pE HB.out GE387.out))); (case aL => have := LMc12.out; omega); intro v392 w22 ho hb hg hat; rw [← Ny391.out] at ho; have n0_ := Aside0.mk (blk_grown (g := gb387) (o := .cells #[.int .i64 t381, .slice Ao17 t382.length co17] 83 (0, 0)) (pK BK387.out) hg (Kd.R_ne HO_6.out BK387.out (by decide))); have n1_ := Aside0.mk (Kd.S_over' (by (with_reducible repeat (first | apply Kd.S_alloc | apply Kd.S_drewN | apply Kd.S_drew)); exact HO390.out) (Kd.R_typed (pR HO_6.out)) (by decide) hg); have n2_ := Aside0.mk (hb); have n3_ := Aside0.mk (ho); clear BK387 HO390 HB HO_6; have BK387 := n0_; have HO390 := n1_; have HB := n2_; have HO393 := n3_; clear n0_ n1_ n2_ n3_ ho hb hg hat))
        go_roundg k1
        case measure => have := HK1.out; omega
        case rel => exact ⟨(y388), (y391), (wrap64 (x7_1 + t385)), (by first | rfl | (simp; done) | (simp [*]; done)), H', ⟨by have := HK1.out; omega⟩, ⟨by (with_reducible repeat (first | apply Kd.S_alloc | apply Kd.S_drewN | apply Kd.S_drew)); exact Kd.S_mono HO390.out (fun _ hk => trivial)⟩, ⟨by (with_reducible repeat (first | apply Kd.R_alloc | apply Kd.R_drewN | apply Kd.R_drew)); exact HO393.out⟩, ⟨by repeat (first | (with_reducible first | exact HB.out | apply below_alloc | apply pw_below_drewN | apply below_drew1 | refine below_set ?_ GE387.out) | exact HB.out)⟩⟩
       ·rw [if_neg c12] at H
        exact absurd H (by simp)
      ·rw [if_neg c11] at H
       exact absurd H (by simp)
     ·rw [if_neg c10] at H
      have c10b0 : (t386 == 0) = false := beq_eq_false_iff_ne.mpr c10
      have c10b1 : (t386 != 0) = true := bne_iff_ne.mpr c10
      simp only [Option.some.injEq, Prod.mk.injEq] at H
      obtain ⟨rfl, rfl, rfl⟩ := H
      obtain ⟨i023, hi023, _, hsz23, _⟩ := info_parts info5
      obtain ⟨A23, hcut23, hA23, hC23⟩ := print_drop_of (P := Try.prog) (Value.int .u8) 0 22 5 .i64 Try.underlying22 hi023 hsz23 A0 c0 l0 x7_1 (of_decide_eq_true pS) (of_decide_eq_true pS) HC0.out
      have HR380 := Aside0.mk (Kd.C_of_reads (h1 := fun _ => rfl) (hA23 _ (Kd.reads_of_C HR0.out)))
      have HC380 := Aside0.mk hC23
      clear hA23 hC23 hi023 hsz23
      go_wp2_with (first | ((with_reducible refine gate_callee (f := 139) rfl ?_); refine goesL_ (some 21) rfl rfl Try.func139 (by kernel_rfl) rfl #[.slice A23 (l0.drop (x7_1 : Int).toNat).length (c0 - x7_1.toNat)] rfl (by (try simp only [List.map_toArray, List.map_cons, List.map_nil]); first | done | (rw [show (l0.drop (x7_1 : Int).toNat).length = (l0.length - x7_1.toNat) from List.length_drop] <;> rfl) | rfl | (simp only [List.length_drop, List.length_take]; rfl)) ?_; (with_reducible refine (garnerref03_First.calls k1 _ _ (l0.drop (x7_1 : Int).toNat) t381 t382 t385 t386 _ ?side1 ?side2 A9.out).mono ?_); (case side1 => exact pC (Kd.C_below HR380.out HB.out)); (case side2 => exact HC380.out); rintro e w24 ⟨v383, rfl, ho0, hb⟩; refine ⟨_, rfl, ?_⟩; have n0_ := Aside0.mk (Kd.S_elder' (by (with_reducible repeat (first | apply Kd.S_alloc | apply Kd.S_drewN | apply Kd.S_drew)); exact HO_5.out) (Kd.R_base ho0) hb); have n1_ := Aside0.mk (Kd.R_below (pR HO_6.out) hb); have n2_ := Aside0.mk (Kd.R_lower ho0 (below_size (pB HB.out))); have n3_ := Aside0.mk (below_step (pB HB.out) hb); clear HO_5 HO_6 HB; have HO_5 := n0_; have HO_6 := n1_; have HO384 := n2_; have HB := n3_; clear n0_ n1_ n2_ n3_; (try clear hb); (try clear hb2); (try clear hk); (try clear hi); (try clear ho0)) | ((with_reducible refine gate_dst (N := 8) rfl ?_); refine box_event ?hg (N := 8) ?hd (cs := #[.int .i64 0, .slice none 0 0]) (t := 83) ?hr ?_; (case hd => rfl); (case hg => rfl); (case hr => first | (go_simp; done) | (go_simp; rfl)); intro gb387 hg w25 hbox hb; have n0_ := Aside0.mk (Kd.S_below (Kd.S_elderB (by (with_reducible repeat (first | apply Kd.S_alloc | apply Kd.S_drewN | apply Kd.S_drew)); exact HO_5.out) gb387 (Nat.le_of_eq hg.symm)) hb); have n1_ := Aside0.mk (Kd.R_below (pR HO_6.out) hb); have n2_ := Aside0.mk (Kd.R_below (pR HO384.out) hb); have n3_ := Aside0.mk (below_step (pB HB.out) hb); have n4_ := Aside0.mk (hbox); have n5_ := Aside0.mk ((by rw [hg]; exact (below_size (pB HB.out)) : w.heap.size ≤ gb387)); have n6_ := Aside0.mk ((by rw [hg]; exact (below_size (pB HB.out)) : w.heap.size ≤ gb387)); clear HO_5 HO_6 HO384 HB; have HO_5 := n0_; have HO_6 := n1_; have HO384 := n2_; have HB := n3_; have BK387 := n4_; have GW387 := n5_; have GE387 := n6_; clear n0_ n1_ n2_ n3_ n4_ n5_ n6_ hb hbox hg; have hcz26_0 : w25.cell? ⟨gb387, 0, none⟩ = some (.int .i64 0) := (blk_cell BK387.out 0).trans rfl; have hcz26_1 : w25.cell? ⟨gb387, 1, none⟩ = some (.slice none 0 0) := (blk_cell BK387.out 1).trans rfl; have hfz26_0 := blk_frozen BK387.out 0; have hfz26_1 := blk_frozen BK387.out 1; obtain ⟨Ao27, co27, eo27⟩ := Kd.R_slice HO384.out; subst eo27))
      go_ret3
      exact ⟨_, _, by first | rfl | (simp [errW_none, errW_some] <;> rfl) | (simp [*, errW_none, errW_some] <;> rfl), by (with_reducible repeat (first | apply Kd.S_alloc | apply Kd.S_drewN | apply Kd.S_drew)); exact Kd.S_mono (Kd.S_far (p := ⟨gb387, 1, none⟩) (Kd.S_far (p := ⟨gb387, 0, none⟩) (Kd.S_mono HO_5.out (fun k_ hk => (⟨hk, hk.2⟩ : _ ∧ k_ ≠ gb387))) (fun _ hk => hk.2) (.int .i64 t381)) (fun _ hk => hk.2) (.slice Ao27 t382.length co27)) (fun _ hk => trivial), by (with_reducible repeat (first | apply Kd.R_alloc | apply Kd.R_drewN | apply Kd.R_drew)); exact Kd.R_mono (Kd.R_far (p := ⟨gb387, 1, none⟩) (Kd.R_far (p := ⟨gb387, 0, none⟩) (Kd.R_types HO_6.out BK387.out (by decide)) (fun _ hk => hk.2) (.int .i64 t381)) (fun _ hk => hk.2) (.slice Ao27 t382.length co27)) (fun _ hk => trivial), by repeat (first | (with_reducible first | exact HB.out | apply below_alloc | apply pw_below_drewN | apply below_drew1 | refine below_set ?_ GE387.out) | exact HB.out)⟩
    ·rw [if_neg c7] at H
     exact absurd H (by simp)
   ·rw [if_neg c6] at H
    have c6b0 : decide (x7_1 ≤ (l0.length : Int)) = false := decide_eq_false c6
    clear c6
    simp only [Option.some.injEq, Prod.mk.injEq] at H
    obtain ⟨rfl, rfl, rfl⟩ := H
    go_wp2
    go_ret3
    exact ⟨_, _, by first | rfl | (simp [errW_none, errW_some] <;> rfl) | (simp [*, errW_none, errW_some] <;> rfl), by (with_reducible repeat (first | apply Kd.S_alloc | apply Kd.S_drewN | apply Kd.S_drew)); exact HO_5.out, by (with_reducible repeat (first | apply Kd.R_alloc | apply Kd.R_drewN | apply Kd.R_drew)); exact HO_6.out, by repeat (first | (with_reducible first | exact HB.out | apply below_alloc | apply pw_below_drewN | apply below_drew1) | exact HB.out)⟩
def garnerlaw27_awake.f (k : Nat)  : Option (Bool) := (export_Put.f k 7 3 ([] : List (S135))).bind fun bt394 => ((garnerref03_Scan.f k bt394.1).bind fun bt398 => ((export_Get.f k bt394.1).bind fun bt405 => (if bt394.2 = 0 then (if (bt398.1.length : Int) = 2 then (if bt398.2.2 = (bt394.1.length : Int) then (if bt405.2.2.2 = 0 then (if bt405.1 = 7 then (if bt405.2.1 = 3 then (some ((bt405.2.2.1.length : Int) == 0)) else (some false)) else (some false)) else (some false)) else (some false)) else (some false)) else (some false))))
theorem garnerlaw27_awake.mono : ∀ k, LeO (garnerlaw27_awake.f k ) (garnerlaw27_awake.f (k + 1) ) := by
 intro  k
 unfold garnerlaw27_awake.f
 repeat' first
   | (with_reducible exact export_Get.mono _ _)
   | (with_reducible exact export_Put.mono _ _ _ _)
   | (with_reducible exact garnerref03_Scan.mono _ _)
   | (with_reducible exact LeO.refl _)
   | (with_reducible exact LeO.none _)
   | (with_reducible refine LeO.ite ?_ ?_)
   | (with_reducible refine LeO.bind ?_ (fun _ => ?_))
   | exact export_Get.mono _ _
   | exact export_Put.mono _ _ _ _
   | exact garnerref03_Scan.mono _ _
   | exact LeO.none _
   | refine LeO.ite ?_ ?_
   | refine LeO.bind ?_ (fun _ => ?_)
set_option maxHeartbeats 8000000 in
set_option maxRecDepth 100000 in
theorem garnerlaw27_awake.calls (k : Nat)  (r : Bool) (w : World) (h : garnerlaw27_awake.f k  = some r) :
  Calls Try.prog 15 #[] w fun e w' => e = .returned (.bool r) ∧ Below w.heap.size w w' := by
 have HB := Aside0.mk (Below.refl w.heap.size w)
 have H : ((export_Put.f k 7 3 ([] : List (S135))).bind fun bt394 => ((garnerref03_Scan.f k bt394.1).bind fun bt398 => ((export_Get.f k bt394.1).bind fun bt405 => (if bt394.2 = 0 then (if (bt398.1.length : Int) = 2 then (if bt398.2.2 = (bt394.1.length : Int) then (if bt405.2.2.2 = 0 then (if bt405.1 = 7 then (if bt405.2.1 = 3 then (some ((bt405.2.2.1.length : Int) == 0)) else (some false)) else (some false)) else (some false)) else (some false)) else (some false)) else (some false))))) = some r := h
 clear h
 replace H := Option.bind_eq_some_iff.mp H
 obtain ⟨⟨t394, t395⟩, A10, H⟩ := H
 replace H : ((garnerref03_Scan.f k t394).bind fun bt398 => ((export_Get.f k t394).bind fun bt405 => (if t395 = 0 then (if (bt398.1.length : Int) = 2 then (if bt398.2.2 = (t394.length : Int) then (if bt405.2.2.2 = 0 then (if bt405.1 = 7 then (if bt405.2.1 = 3 then (some ((bt405.2.2.1.length : Int) == 0)) else (some false)) else (some false)) else (some false)) else (some false)) else (some false)) else (some false)))) = some r := H
 have A1 := Aside0.mk A10
 clear A10
 replace H := Option.bind_eq_some_iff.mp H
 obtain ⟨⟨t398, t399, t400⟩, A20, H⟩ := H
 replace H : ((export_Get.f k t394).bind fun bt405 => (if t395 = 0 then (if (t398.length : Int) = 2 then (if t400 = (t394.length : Int) then (if bt405.2.2.2 = 0 then (if bt405.1 = 7 then (if bt405.2.1 = 3 then (some ((bt405.2.2.1.length : Int) == 0)) else (some false)) else (some false)) else (some false)) else (some false)) else (some false)) else (some false))) = some r := H
 have A2 := Aside0.mk A20
 clear A20
 replace H := Option.bind_eq_some_iff.mp H
 obtain ⟨⟨t405, t406, t407, t410⟩, A30, H⟩ := H
 replace H : (if t395 = 0 then (if (t398.length : Int) = 2 then (if t400 = (t394.length : Int) then (if t410 = 0 then (if t405 = 7 then (if t406 = 3 then (some ((t407.length : Int) == 0)) else (some false)) else (some false)) else (some false)) else (some false)) else (some false)) else (some false)) = some r := H
 have A3 := Aside0.mk A30
 clear A30
 by_cases c4 : t395 = 0
 ·rw [if_pos c4] at H
  have c4b0 : (t395 == 0) = true := beq_iff_eq.mpr c4
  have c4b1 : (t395 != 0) = false := bne_eq_false_iff_eq.mpr c4
  clear c4
  by_cases c5 : (t398.length : Int) = 2
  ·rw [if_pos c5] at H
   have c5b0 : ((t398.length : Int) == 2) = true := beq_iff_eq.mpr c5
   have c5b1 : ((t398.length : Int) != 2) = false := bne_eq_false_iff_eq.mpr c5
   clear c5
   by_cases c6 : t400 = (t394.length : Int)
   ·rw [if_pos c6] at H
    have c6b0 : (t400 == (t394.length : Int)) = true := beq_iff_eq.mpr c6
    have c6b1 : (t400 != (t394.length : Int)) = false := bne_eq_false_iff_eq.mpr c6
    clear c6
    by_cases c7 : t410 = 0
    ·rw [if_pos c7] at H
     have c7b0 : (t410 == 0) = true := beq_iff_eq.mpr c7
     have c7b1 : (t410 != 0) = false := bne_eq_false_iff_eq.mpr c7
     clear c7
     by_cases c8 : t405 = 7
     ·rw [if_pos c8] at H
      have c8b0 : (t405 == 7) = true := beq_iff_eq.mpr c8
      have c8b1 : (t405 != 7) = false := bne_eq_false_iff_eq.mpr c8
      clear c8
      by_cases c9 : t406 = 3
      ·rw [if_pos c9] at H
       have c9b0 : (t406 == 3) = true := beq_iff_eq.mpr c9
       have c9b1 : (t406 != 3) = false := bne_eq_false_iff_eq.mpr c9
       clear c9
       obtain rfl := Option.some.inj H
       go_enter Try.func15, Try.ntmps15
       go_wp2_with (first | ((with_reducible refine gate_callee (f := 21) rfl ?_); refine goesL_ (some 11) rfl rfl Try.func21 (by kernel_rfl) rfl #[.int .i64 7, .int .i64 3, .slice none 0 0] rfl pL ?_; (refine (export_Put.calls k 7 3 _ _ ([] : List (S135)) t394 t395 _ ?side1 ?side2 A1.out).mono ?_); (case side1 => exact Kd.C_nil _ _); (case side2 => exact Nat.le_refl _); rintro e w10 ⟨v396, rfl, ho0, hb⟩; refine ⟨_, rfl, ?_⟩; have n0_ := Aside0.mk (Kd.R_lower ho0 (below_size (pB HB.out))); have n1_ := Aside0.mk (below_step (pB HB.out) hb); clear HB; have HO397 := n0_; have HB := n1_; clear n0_ n1_; (try clear hb); (try clear hb2); (try clear hk); (try clear hi); (try clear ho0); obtain ⟨Ao11, co11, eo11⟩ := Kd.R_slice HO397.out; subst eo11) | ((with_reducible refine gate_callee (f := 66) rfl ?_); refine goesL_ (some 16) rfl rfl Try.func66 (by kernel_rfl) rfl #[.slice Ao11 t394.length co11] rfl pL ?_; (with_reducible refine (garnerref03_Scan.calls k _ _ t394 t398 t399 t400 _ ?side1 ?side2 A2.out).mono ?_); (case side1 => exact pC (Kd.R_reads' HO397.out).2.2); (case side2 => exact (Kd.R_reads' HO397.out).2.1); rintro e w12 ⟨v401, v403, rfl, ho0, ho1, hb⟩; refine ⟨_, rfl, ?_⟩; have n0_ := Aside0.mk (Kd.R_below (pR HO397.out) hb); have n1_ := Aside0.mk (Kd.N_lower (Kd.N_mono (ok' := fun k_ => some k_ ≠ (v403 : Value).ownBlock ∧ some k_ ≠ (.slice Ao11 t394.length co11 : Value).ownBlock) (Kd.S_N (Kd.S_bound (Kd.S_apart' ho0 (Kd.R_typed ho1) (by decide)))) (fun k_ hk_ => ⟨hk_.1.2, (Kd.fresh' (Kd.R_lt (pR HO397.out)) k_ hk_.2.1)⟩)) (below_size (pB HB.out))); have n2_ := Aside0.mk (Kd.R_lower ho1 (below_size (pB HB.out))); have n3_ := Aside0.mk (below_step (pB HB.out) hb); clear HO397 HB; have HO397 := n0_; have HO402 := n1_; have HO404 := n2_; have HB := n3_; clear n0_ n1_ n2_ n3_; (try clear hb); (try clear hb2); (try clear hk); (try clear hi); (try clear ho0); (try clear ho1)) | ((with_reducible refine gate_callee (f := 16) rfl ?_); refine goesL_ (some 22) rfl rfl Try.func16 (by kernel_rfl) rfl #[.slice Ao11 t394.length co11] rfl pL ?_; (with_reducible refine (export_Get.calls k _ _ t394 t405 t406 t407 t410 _ ?side1 ?side2 A3.out).mono ?_); (case side1 => exact pC (Kd.R_reads' HO397.out).2.2); (case side2 => exact (Kd.R_reads' HO397.out).2.1); rintro e w13 ⟨v408, rfl, ho0, hb⟩; refine ⟨_, rfl, ?_⟩; have n0_ := Aside0.mk (Kd.R_below (pR HO397.out) hb); have n1_ := Aside0.mk (Kd.N_elder' (pN HO402.out) (Kd.N_base ho0) hb); have n2_ := Aside0.mk (Kd.R_below (pR HO404.out) hb); have n3_ := Aside0.mk (Kd.N_lower (Kd.N_mono (ok' := fun k_ => some k_ ≠ (.slice Ao11 t394.length co11 : Value).ownBlock ∧ some k_ ≠ (v401 : Value).ownBlock ∧ some k_ ≠ (v403 : Value).ownBlock) ho0 (fun k_ hk_ => ⟨(Kd.fresh' (Kd.R_lt (pR HO397.out)) k_ hk_), (Kd.fresh' (Kd.N_lt (pN HO402.out)) k_ hk_), (Kd.fresh' (Kd.R_lt (pR HO404.out)) k_ hk_)⟩)) (below_size (pB HB.out))); have n4_ := Aside0.mk (below_step (pB HB.out) hb); clear HO397 HO402 HO404 HB; have HO397 := n0_; have HO402 := n1_; have HO404 := n2_; have HO409 := n3_; have HB := n4_; clear n0_ n1_ n2_ n3_ n4_; (try clear hb); (try clear hb2); (try clear hk); (try clear hi); (try clear ho0); obtain ⟨Ao14, co14, eo14⟩ := Kd.N_slice HO402.out; subst eo14; obtain ⟨Ao15, co15, eo15⟩ := Kd.N_slice HO409.out; subst eo15))
       go_ret
       exact ⟨by first | rfl | (simp [errW_none, errW_some] <;> rfl) | (simp [*, errW_none, errW_some] <;> rfl), by repeat (first | (with_reducible first | exact HB.out | apply below_alloc | apply pw_below_drewN | apply below_drew1) | exact HB.out)⟩
      ·rw [if_neg c9] at H
       have c9b0 : (t406 == 3) = false := beq_eq_false_iff_ne.mpr c9
       have c9b1 : (t406 != 3) = true := bne_iff_ne.mpr c9
       obtain rfl := Option.some.inj H
       go_enter Try.func15, Try.ntmps15
       go_wp2_with (first | ((with_reducible refine gate_callee (f := 21) rfl ?_); refine goesL_ (some 11) rfl rfl Try.func21 (by kernel_rfl) rfl #[.int .i64 7, .int .i64 3, .slice none 0 0] rfl pL ?_; (refine (export_Put.calls k 7 3 _ _ ([] : List (S135)) t394 t395 _ ?side1 ?side2 A1.out).mono ?_); (case side1 => exact Kd.C_nil _ _); (case side2 => exact Nat.le_refl _); rintro e w16 ⟨v396, rfl, ho0, hb⟩; refine ⟨_, rfl, ?_⟩; have n0_ := Aside0.mk (Kd.R_lower ho0 (below_size (pB HB.out))); have n1_ := Aside0.mk (below_step (pB HB.out) hb); clear HB; have HO397 := n0_; have HB := n1_; clear n0_ n1_; (try clear hb); (try clear hb2); (try clear hk); (try clear hi); (try clear ho0); obtain ⟨Ao17, co17, eo17⟩ := Kd.R_slice HO397.out; subst eo17) | ((with_reducible refine gate_callee (f := 66) rfl ?_); refine goesL_ (some 16) rfl rfl Try.func66 (by kernel_rfl) rfl #[.slice Ao17 t394.length co17] rfl pL ?_; (with_reducible refine (garnerref03_Scan.calls k _ _ t394 t398 t399 t400 _ ?side1 ?side2 A2.out).mono ?_); (case side1 => exact pC (Kd.R_reads' HO397.out).2.2); (case side2 => exact (Kd.R_reads' HO397.out).2.1); rintro e w18 ⟨v401, v403, rfl, ho0, ho1, hb⟩; refine ⟨_, rfl, ?_⟩; have n0_ := Aside0.mk (Kd.R_below (pR HO397.out) hb); have n1_ := Aside0.mk (Kd.N_lower (Kd.N_mono (ok' := fun k_ => some k_ ≠ (v403 : Value).ownBlock ∧ some k_ ≠ (.slice Ao17 t394.length co17 : Value).ownBlock) (Kd.S_N (Kd.S_bound (Kd.S_apart' ho0 (Kd.R_typed ho1) (by decide)))) (fun k_ hk_ => ⟨hk_.1.2, (Kd.fresh' (Kd.R_lt (pR HO397.out)) k_ hk_.2.1)⟩)) (below_size (pB HB.out))); have n2_ := Aside0.mk (Kd.R_lower ho1 (below_size (pB HB.out))); have n3_ := Aside0.mk (below_step (pB HB.out) hb); clear HO397 HB; have HO397 := n0_; have HO402 := n1_; have HO404 := n2_; have HB := n3_; clear n0_ n1_ n2_ n3_; (try clear hb); (try clear hb2); (try clear hk); (try clear hi); (try clear ho0); (try clear ho1)) | ((with_reducible refine gate_callee (f := 16) rfl ?_); refine goesL_ (some 22) rfl rfl Try.func16 (by kernel_rfl) rfl #[.slice Ao17 t394.length co17] rfl pL ?_; (with_reducible refine (export_Get.calls k _ _ t394 t405 t406 t407 t410 _ ?side1 ?side2 A3.out).mono ?_); (case side1 => exact pC (Kd.R_reads' HO397.out).2.2); (case side2 => exact (Kd.R_reads' HO397.out).2.1); rintro e w19 ⟨v408, rfl, ho0, hb⟩; refine ⟨_, rfl, ?_⟩; have n0_ := Aside0.mk (Kd.R_below (pR HO397.out) hb); have n1_ := Aside0.mk (Kd.N_elder' (pN HO402.out) (Kd.N_base ho0) hb); have n2_ := Aside0.mk (Kd.R_below (pR HO404.out) hb); have n3_ := Aside0.mk (Kd.N_lower (Kd.N_mono (ok' := fun k_ => some k_ ≠ (.slice Ao17 t394.length co17 : Value).ownBlock ∧ some k_ ≠ (v401 : Value).ownBlock ∧ some k_ ≠ (v403 : Value).ownBlock) ho0 (fun k_ hk_ => ⟨(Kd.fresh' (Kd.R_lt (pR HO397.out)) k_ hk_), (Kd.fresh' (Kd.N_lt (pN HO402.out)) k_ hk_), (Kd.fresh' (Kd.R_lt (pR HO404.out)) k_ hk_)⟩)) (below_size (pB HB.out))); have n4_ := Aside0.mk (below_step (pB HB.out) hb); clear HO397 HO402 HO404 HB; have HO397 := n0_; have HO402 := n1_; have HO404 := n2_; have HO409 := n3_; have HB := n4_; clear n0_ n1_ n2_ n3_ n4_; (try clear hb); (try clear hb2); (try clear hk); (try clear hi); (try clear ho0); obtain ⟨Ao20, co20, eo20⟩ := Kd.N_slice HO402.out; subst eo20))
       go_ret
       exact ⟨by first | rfl | (simp [errW_none, errW_some] <;> rfl) | (simp [*, errW_none, errW_some] <;> rfl), by repeat (first | (with_reducible first | exact HB.out | apply below_alloc | apply pw_below_drewN | apply below_drew1) | exact HB.out)⟩
     ·rw [if_neg c8] at H
      have c8b0 : (t405 == 7) = false := beq_eq_false_iff_ne.mpr c8
      have c8b1 : (t405 != 7) = true := bne_iff_ne.mpr c8
      obtain rfl := Option.some.inj H
      go_enter Try.func15, Try.ntmps15
      go_wp2_with (first | ((with_reducible refine gate_callee (f := 21) rfl ?_); refine goesL_ (some 11) rfl rfl Try.func21 (by kernel_rfl) rfl #[.int .i64 7, .int .i64 3, .slice none 0 0] rfl pL ?_; (refine (export_Put.calls k 7 3 _ _ ([] : List (S135)) t394 t395 _ ?side1 ?side2 A1.out).mono ?_); (case side1 => exact Kd.C_nil _ _); (case side2 => exact Nat.le_refl _); rintro e w21 ⟨v396, rfl, ho0, hb⟩; refine ⟨_, rfl, ?_⟩; have n0_ := Aside0.mk (Kd.R_lower ho0 (below_size (pB HB.out))); have n1_ := Aside0.mk (below_step (pB HB.out) hb); clear HB; have HO397 := n0_; have HB := n1_; clear n0_ n1_; (try clear hb); (try clear hb2); (try clear hk); (try clear hi); (try clear ho0); obtain ⟨Ao22, co22, eo22⟩ := Kd.R_slice HO397.out; subst eo22) | ((with_reducible refine gate_callee (f := 66) rfl ?_); refine goesL_ (some 16) rfl rfl Try.func66 (by kernel_rfl) rfl #[.slice Ao22 t394.length co22] rfl pL ?_; (with_reducible refine (garnerref03_Scan.calls k _ _ t394 t398 t399 t400 _ ?side1 ?side2 A2.out).mono ?_); (case side1 => exact pC (Kd.R_reads' HO397.out).2.2); (case side2 => exact (Kd.R_reads' HO397.out).2.1); rintro e w23 ⟨v401, v403, rfl, ho0, ho1, hb⟩; refine ⟨_, rfl, ?_⟩; have n0_ := Aside0.mk (Kd.R_below (pR HO397.out) hb); have n1_ := Aside0.mk (Kd.N_lower (Kd.N_mono (ok' := fun k_ => some k_ ≠ (v403 : Value).ownBlock ∧ some k_ ≠ (.slice Ao22 t394.length co22 : Value).ownBlock) (Kd.S_N (Kd.S_bound (Kd.S_apart' ho0 (Kd.R_typed ho1) (by decide)))) (fun k_ hk_ => ⟨hk_.1.2, (Kd.fresh' (Kd.R_lt (pR HO397.out)) k_ hk_.2.1)⟩)) (below_size (pB HB.out))); have n2_ := Aside0.mk (Kd.R_lower ho1 (below_size (pB HB.out))); have n3_ := Aside0.mk (below_step (pB HB.out) hb); clear HO397 HB; have HO397 := n0_; have HO402 := n1_; have HO404 := n2_; have HB := n3_; clear n0_ n1_ n2_ n3_; (try clear hb); (try clear hb2); (try clear hk); (try clear hi); (try clear ho0); (try clear ho1)) | ((with_reducible refine gate_callee (f := 16) rfl ?_); refine goesL_ (some 22) rfl rfl Try.func16 (by kernel_rfl) rfl #[.slice Ao22 t394.length co22] rfl pL ?_; (with_reducible refine (export_Get.calls k _ _ t394 t405 t406 t407 t410 _ ?side1 ?side2 A3.out).mono ?_); (case side1 => exact pC (Kd.R_reads' HO397.out).2.2); (case side2 => exact (Kd.R_reads' HO397.out).2.1); rintro e w24 ⟨v408, rfl, ho0, hb⟩; refine ⟨_, rfl, ?_⟩; have n0_ := Aside0.mk (Kd.R_below (pR HO397.out) hb); have n1_ := Aside0.mk (Kd.N_elder' (pN HO402.out) (Kd.N_base ho0) hb); have n2_ := Aside0.mk (Kd.R_below (pR HO404.out) hb); have n3_ := Aside0.mk (Kd.N_lower (Kd.N_mono (ok' := fun k_ => some k_ ≠ (.slice Ao22 t394.length co22 : Value).ownBlock ∧ some k_ ≠ (v401 : Value).ownBlock ∧ some k_ ≠ (v403 : Value).ownBlock) ho0 (fun k_ hk_ => ⟨(Kd.fresh' (Kd.R_lt (pR HO397.out)) k_ hk_), (Kd.fresh' (Kd.N_lt (pN HO402.out)) k_ hk_), (Kd.fresh' (Kd.R_lt (pR HO404.out)) k_ hk_)⟩)) (below_size (pB HB.out))); have n4_ := Aside0.mk (below_step (pB HB.out) hb); clear HO397 HO402 HO404 HB; have HO397 := n0_; have HO402 := n1_; have HO404 := n2_; have HO409 := n3_; have HB := n4_; clear n0_ n1_ n2_ n3_ n4_; (try clear hb); (try clear hb2); (try clear hk); (try clear hi); (try clear ho0); obtain ⟨Ao25, co25, eo25⟩ := Kd.N_slice HO402.out; subst eo25))
      go_ret
      exact ⟨by first | rfl | (simp [errW_none, errW_some] <;> rfl) | (simp [*, errW_none, errW_some] <;> rfl), by repeat (first | (with_reducible first | exact HB.out | apply below_alloc | apply pw_below_drewN | apply below_drew1) | exact HB.out)⟩
    ·rw [if_neg c7] at H
     have c7b0 : (t410 == 0) = false := beq_eq_false_iff_ne.mpr c7
     have c7b1 : (t410 != 0) = true := bne_iff_ne.mpr c7
     obtain rfl := Option.some.inj H
     go_enter Try.func15, Try.ntmps15
     go_wp2_with (first | ((with_reducible refine gate_callee (f := 21) rfl ?_); refine goesL_ (some 11) rfl rfl Try.func21 (by kernel_rfl) rfl #[.int .i64 7, .int .i64 3, .slice none 0 0] rfl pL ?_; (refine (export_Put.calls k 7 3 _ _ ([] : List (S135)) t394 t395 _ ?side1 ?side2 A1.out).mono ?_); (case side1 => exact Kd.C_nil _ _); (case side2 => exact Nat.le_refl _); rintro e w26 ⟨v396, rfl, ho0, hb⟩; refine ⟨_, rfl, ?_⟩; have n0_ := Aside0.mk (Kd.R_lower ho0 (below_size (pB HB.out))); have n1_ := Aside0.mk (below_step (pB HB.out) hb); clear HB; have HO397 := n0_; have HB := n1_; clear n0_ n1_; (try clear hb); (try clear hb2); (try clear hk); (try clear hi); (try clear ho0); obtain ⟨Ao27, co27, eo27⟩ := Kd.R_slice HO397.out; subst eo27) | ((with_reducible refine gate_callee (f := 66) rfl ?_); refine goesL_ (some 16) rfl rfl Try.func66 (by kernel_rfl) rfl #[.slice Ao27 t394.length co27] rfl pL ?_; (with_reducible refine (garnerref03_Scan.calls k _ _ t394 t398 t399 t400 _ ?side1 ?side2 A2.out).mono ?_); (case side1 => exact pC (Kd.R_reads' HO397.out).2.2); (case side2 => exact (Kd.R_reads' HO397.out).2.1); rintro e w28 ⟨v401, v403, rfl, ho0, ho1, hb⟩; refine ⟨_, rfl, ?_⟩; have n0_ := Aside0.mk (Kd.R_below (pR HO397.out) hb); have n1_ := Aside0.mk (Kd.N_lower (Kd.N_mono (ok' := fun k_ => some k_ ≠ (v403 : Value).ownBlock ∧ some k_ ≠ (.slice Ao27 t394.length co27 : Value).ownBlock) (Kd.S_N (Kd.S_bound (Kd.S_apart' ho0 (Kd.R_typed ho1) (by decide)))) (fun k_ hk_ => ⟨hk_.1.2, (Kd.fresh' (Kd.R_lt (pR HO397.out)) k_ hk_.2.1)⟩)) (below_size (pB HB.out))); have n2_ := Aside0.mk (Kd.R_lower ho1 (below_size (pB HB.out))); have n3_ := Aside0.mk (below_step (pB HB.out) hb); clear HO397 HB; have HO397 := n0_; have HO402 := n1_; have HO404 := n2_; have HB := n3_; clear n0_ n1_ n2_ n3_; (try clear hb); (try clear hb2); (try clear hk); (try clear hi); (try clear ho0); (try clear ho1)) | ((with_reducible refine gate_callee (f := 16) rfl ?_); refine goesL_ (some 22) rfl rfl Try.func16 (by kernel_rfl) rfl #[.slice Ao27 t394.length co27] rfl pL ?_; (with_reducible refine (export_Get.calls k _ _ t394 t405 t406 t407 t410 _ ?side1 ?side2 A3.out).mono ?_); (case side1 => exact pC (Kd.R_reads' HO397.out).2.2); (case side2 => exact (Kd.R_reads' HO397.out).2.1); rintro e w29 ⟨v408, rfl, ho0, hb⟩; refine ⟨_, rfl, ?_⟩; have n0_ := Aside0.mk (Kd.R_below (pR HO397.out) hb); have n1_ := Aside0.mk (Kd.N_elder' (pN HO402.out) (Kd.N_base ho0) hb); have n2_ := Aside0.mk (Kd.R_below (pR HO404.out) hb); have n3_ := Aside0.mk (Kd.N_lower (Kd.N_mono (ok' := fun k_ => some k_ ≠ (.slice Ao27 t394.length co27 : Value).ownBlock ∧ some k_ ≠ (v401 : Value).ownBlock ∧ some k_ ≠ (v403 : Value).ownBlock) ho0 (fun k_ hk_ => ⟨(Kd.fresh' (Kd.R_lt (pR HO397.out)) k_ hk_), (Kd.fresh' (Kd.N_lt (pN HO402.out)) k_ hk_), (Kd.fresh' (Kd.R_lt (pR HO404.out)) k_ hk_)⟩)) (below_size (pB HB.out))); have n4_ := Aside0.mk (below_step (pB HB.out) hb); clear HO397 HO402 HO404 HB; have HO397 := n0_; have HO402 := n1_; have HO404 := n2_; have HO409 := n3_; have HB := n4_; clear n0_ n1_ n2_ n3_ n4_; (try clear hb); (try clear hb2); (try clear hk); (try clear hi); (try clear ho0); obtain ⟨Ao30, co30, eo30⟩ := Kd.N_slice HO402.out; subst eo30))
     go_ret
     exact ⟨by first | rfl | (simp [errW_none, errW_some] <;> rfl) | (simp [*, errW_none, errW_some] <;> rfl), by repeat (first | (with_reducible first | exact HB.out | apply below_alloc | apply pw_below_drewN | apply below_drew1) | exact HB.out)⟩
   ·rw [if_neg c6] at H
    have c6b0 : (t400 == (t394.length : Int)) = false := beq_eq_false_iff_ne.mpr c6
    have c6b1 : (t400 != (t394.length : Int)) = true := bne_iff_ne.mpr c6
    obtain rfl := Option.some.inj H
    go_enter Try.func15, Try.ntmps15
    go_wp2_with (first | ((with_reducible refine gate_callee (f := 21) rfl ?_); refine goesL_ (some 11) rfl rfl Try.func21 (by kernel_rfl) rfl #[.int .i64 7, .int .i64 3, .slice none 0 0] rfl pL ?_; (refine (export_Put.calls k 7 3 _ _ ([] : List (S135)) t394 t395 _ ?side1 ?side2 A1.out).mono ?_); (case side1 => exact Kd.C_nil _ _); (case side2 => exact Nat.le_refl _); rintro e w31 ⟨v396, rfl, ho0, hb⟩; refine ⟨_, rfl, ?_⟩; have n0_ := Aside0.mk (Kd.R_lower ho0 (below_size (pB HB.out))); have n1_ := Aside0.mk (below_step (pB HB.out) hb); clear HB; have HO397 := n0_; have HB := n1_; clear n0_ n1_; (try clear hb); (try clear hb2); (try clear hk); (try clear hi); (try clear ho0); obtain ⟨Ao32, co32, eo32⟩ := Kd.R_slice HO397.out; subst eo32) | ((with_reducible refine gate_callee (f := 66) rfl ?_); refine goesL_ (some 16) rfl rfl Try.func66 (by kernel_rfl) rfl #[.slice Ao32 t394.length co32] rfl pL ?_; (with_reducible refine (garnerref03_Scan.calls k _ _ t394 t398 t399 t400 _ ?side1 ?side2 A2.out).mono ?_); (case side1 => exact pC (Kd.R_reads' HO397.out).2.2); (case side2 => exact (Kd.R_reads' HO397.out).2.1); rintro e w33 ⟨v401, v403, rfl, ho0, ho1, hb⟩; refine ⟨_, rfl, ?_⟩; have n0_ := Aside0.mk (Kd.R_below (pR HO397.out) hb); have n1_ := Aside0.mk (Kd.N_lower (Kd.N_mono (ok' := fun k_ => some k_ ≠ (v403 : Value).ownBlock ∧ some k_ ≠ (.slice Ao32 t394.length co32 : Value).ownBlock) (Kd.S_N (Kd.S_bound (Kd.S_apart' ho0 (Kd.R_typed ho1) (by decide)))) (fun k_ hk_ => ⟨hk_.1.2, (Kd.fresh' (Kd.R_lt (pR HO397.out)) k_ hk_.2.1)⟩)) (below_size (pB HB.out))); have n2_ := Aside0.mk (Kd.R_lower ho1 (below_size (pB HB.out))); have n3_ := Aside0.mk (below_step (pB HB.out) hb); clear HO397 HB; have HO397 := n0_; have HO402 := n1_; have HO404 := n2_; have HB := n3_; clear n0_ n1_ n2_ n3_; (try clear hb); (try clear hb2); (try clear hk); (try clear hi); (try clear ho0); (try clear ho1)) | ((with_reducible refine gate_callee (f := 16) rfl ?_); refine goesL_ (some 22) rfl rfl Try.func16 (by kernel_rfl) rfl #[.slice Ao32 t394.length co32] rfl pL ?_; (with_reducible refine (export_Get.calls k _ _ t394 t405 t406 t407 t410 _ ?side1 ?side2 A3.out).mono ?_); (case side1 => exact pC (Kd.R_reads' HO397.out).2.2); (case side2 => exact (Kd.R_reads' HO397.out).2.1); rintro e w34 ⟨v408, rfl, ho0, hb⟩; refine ⟨_, rfl, ?_⟩; have n0_ := Aside0.mk (Kd.R_below (pR HO397.out) hb); have n1_ := Aside0.mk (Kd.N_elder' (pN HO402.out) (Kd.N_base ho0) hb); have n2_ := Aside0.mk (Kd.R_below (pR HO404.out) hb); have n3_ := Aside0.mk (Kd.N_lower (Kd.N_mono (ok' := fun k_ => some k_ ≠ (.slice Ao32 t394.length co32 : Value).ownBlock ∧ some k_ ≠ (v401 : Value).ownBlock ∧ some k_ ≠ (v403 : Value).ownBlock) ho0 (fun k_ hk_ => ⟨(Kd.fresh' (Kd.R_lt (pR HO397.out)) k_ hk_), (Kd.fresh' (Kd.N_lt (pN HO402.out)) k_ hk_), (Kd.fresh' (Kd.R_lt (pR HO404.out)) k_ hk_)⟩)) (below_size (pB HB.out))); have n4_ := Aside0.mk (below_step (pB HB.out) hb); clear HO397 HO402 HO404 HB; have HO397 := n0_; have HO402 := n1_; have HO404 := n2_; have HO409 := n3_; have HB := n4_; clear n0_ n1_ n2_ n3_ n4_; (try clear hb); (try clear hb2); (try clear hk); (try clear hi); (try clear ho0); obtain ⟨Ao35, co35, eo35⟩ := Kd.N_slice HO402.out; subst eo35))
    go_ret
    exact ⟨by first | rfl | (simp [errW_none, errW_some] <;> rfl) | (simp [*, errW_none, errW_some] <;> rfl), by repeat (first | (with_reducible first | exact HB.out | apply below_alloc | apply pw_below_drewN | apply below_drew1) | exact HB.out)⟩
  ·rw [if_neg c5] at H
   have c5b0 : ((t398.length : Int) == 2) = false := beq_eq_false_iff_ne.mpr c5
   have c5b1 : ((t398.length : Int) != 2) = true := bne_iff_ne.mpr c5
   obtain rfl := Option.some.inj H
   go_enter Try.func15, Try.ntmps15
   go_wp2_with (first | ((with_reducible refine gate_callee (f := 21) rfl ?_); refine goesL_ (some 11) rfl rfl Try.func21 (by kernel_rfl) rfl #[.int .i64 7, .int .i64 3, .slice none 0 0] rfl pL ?_; (refine (export_Put.calls k 7 3 _ _ ([] : List (S135)) t394 t395 _ ?side1 ?side2 A1.out).mono ?_); (case side1 => exact Kd.C_nil _ _); (case side2 => exact Nat.le_refl _); rintro e w36 ⟨v396, rfl, ho0, hb⟩; refine ⟨_, rfl, ?_⟩; have n0_ := Aside0.mk (Kd.R_lower ho0 (below_size (pB HB.out))); have n1_ := Aside0.mk (below_step (pB HB.out) hb); clear HB; have HO397 := n0_; have HB := n1_; clear n0_ n1_; (try clear hb); (try clear hb2); (try clear hk); (try clear hi); (try clear ho0); obtain ⟨Ao37, co37, eo37⟩ := Kd.R_slice HO397.out; subst eo37) | ((with_reducible refine gate_callee (f := 66) rfl ?_); refine goesL_ (some 16) rfl rfl Try.func66 (by kernel_rfl) rfl #[.slice Ao37 t394.length co37] rfl pL ?_; (with_reducible refine (garnerref03_Scan.calls k _ _ t394 t398 t399 t400 _ ?side1 ?side2 A2.out).mono ?_); (case side1 => exact pC (Kd.R_reads' HO397.out).2.2); (case side2 => exact (Kd.R_reads' HO397.out).2.1); rintro e w38 ⟨v401, v403, rfl, ho0, ho1, hb⟩; refine ⟨_, rfl, ?_⟩; have n0_ := Aside0.mk (Kd.R_below (pR HO397.out) hb); have n1_ := Aside0.mk (Kd.N_lower (Kd.N_mono (ok' := fun k_ => some k_ ≠ (v403 : Value).ownBlock ∧ some k_ ≠ (.slice Ao37 t394.length co37 : Value).ownBlock) (Kd.S_N (Kd.S_bound (Kd.S_apart' ho0 (Kd.R_typed ho1) (by decide)))) (fun k_ hk_ => ⟨hk_.1.2, (Kd.fresh' (Kd.R_lt (pR HO397.out)) k_ hk_.2.1)⟩)) (below_size (pB HB.out))); have n2_ := Aside0.mk (Kd.R_lower ho1 (below_size (pB HB.out))); have n3_ := Aside0.mk (below_step (pB HB.out) hb); clear HO397 HB; have HO397 := n0_; have HO402 := n1_; have HO404 := n2_; have HB := n3_; clear n0_ n1_ n2_ n3_; (try clear hb); (try clear hb2); (try clear hk); (try clear hi); (try clear ho0); (try clear ho1)) | ((with_reducible refine gate_callee (f := 16) rfl ?_); refine goesL_ (some 22) rfl rfl Try.func16 (by kernel_rfl) rfl #[.slice Ao37 t394.length co37] rfl pL ?_; (with_reducible refine (export_Get.calls k _ _ t394 t405 t406 t407 t410 _ ?side1 ?side2 A3.out).mono ?_); (case side1 => exact pC (Kd.R_reads' HO397.out).2.2); (case side2 => exact (Kd.R_reads' HO397.out).2.1); rintro e w39 ⟨v408, rfl, ho0, hb⟩; refine ⟨_, rfl, ?_⟩; have n0_ := Aside0.mk (Kd.R_below (pR HO397.out) hb); have n1_ := Aside0.mk (Kd.N_elder' (pN HO402.out) (Kd.N_base ho0) hb); have n2_ := Aside0.mk (Kd.R_below (pR HO404.out) hb); have n3_ := Aside0.mk (Kd.N_lower (Kd.N_mono (ok' := fun k_ => some k_ ≠ (.slice Ao37 t394.length co37 : Value).ownBlock ∧ some k_ ≠ (v401 : Value).ownBlock ∧ some k_ ≠ (v403 : Value).ownBlock) ho0 (fun k_ hk_ => ⟨(Kd.fresh' (Kd.R_lt (pR HO397.out)) k_ hk_), (Kd.fresh' (Kd.N_lt (pN HO402.out)) k_ hk_), (Kd.fresh' (Kd.R_lt (pR HO404.out)) k_ hk_)⟩)) (below_size (pB HB.out))); have n4_ := Aside0.mk (below_step (pB HB.out) hb); clear HO397 HO402 HO404 HB; have HO397 := n0_; have HO402 := n1_; have HO404 := n2_; have HO409 := n3_; have HB := n4_; clear n0_ n1_ n2_ n3_ n4_; (try clear hb); (try clear hb2); (try clear hk); (try clear hi); (try clear ho0); obtain ⟨Ao40, co40, eo40⟩ := Kd.N_slice HO402.out; subst eo40))
   go_ret
   exact ⟨by first | rfl | (simp [errW_none, errW_some] <;> rfl) | (simp [*, errW_none, errW_some] <;> rfl), by repeat (first | (with_reducible first | exact HB.out | apply below_alloc | apply pw_below_drewN | apply below_drew1) | exact HB.out)⟩
 ·rw [if_neg c4] at H
  have c4b0 : (t395 == 0) = false := beq_eq_false_iff_ne.mpr c4
  have c4b1 : (t395 != 0) = true := bne_iff_ne.mpr c4
  obtain rfl := Option.some.inj H
  go_enter Try.func15, Try.ntmps15
  go_wp2_with (first | ((with_reducible refine gate_callee (f := 21) rfl ?_); refine goesL_ (some 11) rfl rfl Try.func21 (by kernel_rfl) rfl #[.int .i64 7, .int .i64 3, .slice none 0 0] rfl pL ?_; (refine (export_Put.calls k 7 3 _ _ ([] : List (S135)) t394 t395 _ ?side1 ?side2 A1.out).mono ?_); (case side1 => exact Kd.C_nil _ _); (case side2 => exact Nat.le_refl _); rintro e w41 ⟨v396, rfl, ho0, hb⟩; refine ⟨_, rfl, ?_⟩; have n0_ := Aside0.mk (Kd.R_lower ho0 (below_size (pB HB.out))); have n1_ := Aside0.mk (below_step (pB HB.out) hb); clear HB; have HO397 := n0_; have HB := n1_; clear n0_ n1_; (try clear hb); (try clear hb2); (try clear hk); (try clear hi); (try clear ho0); obtain ⟨Ao42, co42, eo42⟩ := Kd.R_slice HO397.out; subst eo42) | ((with_reducible refine gate_callee (f := 66) rfl ?_); refine goesL_ (some 16) rfl rfl Try.func66 (by kernel_rfl) rfl #[.slice Ao42 t394.length co42] rfl pL ?_; (with_reducible refine (garnerref03_Scan.calls k _ _ t394 t398 t399 t400 _ ?side1 ?side2 A2.out).mono ?_); (case side1 => exact pC (Kd.R_reads' HO397.out).2.2); (case side2 => exact (Kd.R_reads' HO397.out).2.1); rintro e w43 ⟨v401, v403, rfl, ho0, ho1, hb⟩; refine ⟨_, rfl, ?_⟩; have n0_ := Aside0.mk (Kd.R_below (pR HO397.out) hb); have n1_ := Aside0.mk (Kd.N_lower (Kd.N_mono (ok' := fun k_ => some k_ ≠ (v403 : Value).ownBlock ∧ some k_ ≠ (.slice Ao42 t394.length co42 : Value).ownBlock) (Kd.S_N (Kd.S_bound (Kd.S_apart' ho0 (Kd.R_typed ho1) (by decide)))) (fun k_ hk_ => ⟨hk_.1.2, (Kd.fresh' (Kd.R_lt (pR HO397.out)) k_ hk_.2.1)⟩)) (below_size (pB HB.out))); have n2_ := Aside0.mk (Kd.R_lower ho1 (below_size (pB HB.out))); have n3_ := Aside0.mk (below_step (pB HB.out) hb); clear HO397 HB; have HO397 := n0_; have HO402 := n1_; have HO404 := n2_; have HB := n3_; clear n0_ n1_ n2_ n3_; (try clear hb); (try clear hb2); (try clear hk); (try clear hi); (try clear ho0); (try clear ho1)) | ((with_reducible refine gate_callee (f := 16) rfl ?_); refine goesL_ (some 22) rfl rfl Try.func16 (by kernel_rfl) rfl #[.slice Ao42 t394.length co42] rfl pL ?_; (with_reducible refine (export_Get.calls k _ _ t394 t405 t406 t407 t410 _ ?side1 ?side2 A3.out).mono ?_); (case side1 => exact pC (Kd.R_reads' HO397.out).2.2); (case side2 => exact (Kd.R_reads' HO397.out).2.1); rintro e w44 ⟨v408, rfl, ho0, hb⟩; refine ⟨_, rfl, ?_⟩; have n0_ := Aside0.mk (Kd.R_below (pR HO397.out) hb); have n1_ := Aside0.mk (Kd.N_elder' (pN HO402.out) (Kd.N_base ho0) hb); have n2_ := Aside0.mk (Kd.R_below (pR HO404.out) hb); have n3_ := Aside0.mk (Kd.N_lower (Kd.N_mono (ok' := fun k_ => some k_ ≠ (.slice Ao42 t394.length co42 : Value).ownBlock ∧ some k_ ≠ (v401 : Value).ownBlock ∧ some k_ ≠ (v403 : Value).ownBlock) ho0 (fun k_ hk_ => ⟨(Kd.fresh' (Kd.R_lt (pR HO397.out)) k_ hk_), (Kd.fresh' (Kd.N_lt (pN HO402.out)) k_ hk_), (Kd.fresh' (Kd.R_lt (pR HO404.out)) k_ hk_)⟩)) (below_size (pB HB.out))); have n4_ := Aside0.mk (below_step (pB HB.out) hb); clear HO397 HO402 HO404 HB; have HO397 := n0_; have HO402 := n1_; have HO404 := n2_; have HO409 := n3_; have HB := n4_; clear n0_ n1_ n2_ n3_ n4_; (try clear hb); (try clear hb2); (try clear hk); (try clear hi); (try clear ho0)))
  go_ret
  exact ⟨by first | rfl | (simp [errW_none, errW_some] <;> rfl) | (simp [*, errW_none, errW_some] <;> rfl), by repeat (first | (with_reducible first | exact HB.out | apply below_alloc | apply pw_below_drewN | apply below_drew1) | exact HB.out)⟩
def garnerref27_Same.l0 : Nat → List (S135) → List (S135) → Int → Option (Bool)
 | 0, _, _, _ => none
 | k + 1, x0, x1, x5 => if x5 < (x0.length : Int) then (if 0 ≤ x5 then (if x5 < (x1.length : Int) then (if ((rd_T135 x0 x5).f0).toList = ((rd_T135 x1 x5).f0).toList then ((garnerref02_Bytes.f k ((rd_T135 x0 x5).f1) ((rd_T135 x1 x5).f1)).bind fun t415 => (if t415 = true then (garnerref27_Same.l0 k x0 x1 (wrap64 (x5 + 1))) else (some false))) else (some false)) else (none)) else (none)) else (some true)
def garnerref27_Same.f (k : Nat) (l0 : List (S135)) (l1 : List (S135)) : Option (Bool) := if (l0.length : Int) = (l1.length : Int) then (garnerref27_Same.l0 k l0 l1 0) else (some false)
theorem garnerref27_Same.mono_l : ∀ k, (∀ y0 y1 y2, LeO (garnerref27_Same.l0 k y0 y1 y2) (garnerref27_Same.l0 (k + 1) y0 y1 y2))
 | 0 => fun _ _ _ r h => by simp [garnerref27_Same.l0] at h
 | k + 1 => by
  have ih0 := garnerref27_Same.mono_l k
  ·intro y0 y1 y2
   unfold garnerref27_Same.l0
   repeat' first
   | (with_reducible exact ih0 _ _ _)
   | (with_reducible exact garnerref02_Bytes.mono _ _ _)
   | (with_reducible exact LeO.refl _)
   | (with_reducible exact LeO.none _)
   | (with_reducible refine LeO.ite ?_ ?_)
   | (with_reducible refine LeO.bind ?_ (fun _ => ?_))
   | exact ih0 _ _ _
   | exact garnerref02_Bytes.mono _ _ _
   | exact LeO.none _
   | refine LeO.ite ?_ ?_
   | refine LeO.bind ?_ (fun _ => ?_)
theorem garnerref27_Same.mono : ∀ a0 a1 k, LeO (garnerref27_Same.f k a0 a1) (garnerref27_Same.f (k + 1) a0 a1) := by
 intro a0 a1 k
 have ih0 := garnerref27_Same.mono_l k
 unfold garnerref27_Same.f
 repeat' first
   | (with_reducible exact ih0 _ _ _)
   | (with_reducible exact garnerref02_Bytes.mono _ _ _)
   | (with_reducible exact LeO.refl _)
   | (with_reducible exact LeO.none _)
   | (with_reducible refine LeO.ite ?_ ?_)
   | (with_reducible refine LeO.bind ?_ (fun _ => ?_))
   | exact ih0 _ _ _
   | exact garnerref02_Bytes.mono _ _ _
   | exact LeO.none _
   | refine LeO.ite ?_ ?_
   | refine LeO.bind ?_ (fun _ => ?_)
set_option maxHeartbeats 8000000 in
set_option maxRecDepth 100000 in
theorem garnerref27_Same.calls (k : Nat) (A0 : Option Addr) (c0 : Nat) (l0 : List (S135)) (A1 : Option Addr) (c1 : Nat) (l1 : List (S135)) (r : Bool) (w : World) (hr0 : Kd.C k135 w A0 l0.length l0) (hc0 : l0.length ≤ c0) (hr1 : Kd.C k135 w A1 l1.length l1) (hc1 : l1.length ≤ c1) (h : garnerref27_Same.f k l0 l1 = some r) :
  Calls Try.prog 18 #[.slice A0 l0.length c0, .slice A1 l1.length c1] w fun e w' => e = .returned (.bool r) ∧ Drawn0 w w' := by
 have HR0 := Aside0.mk hr0
 have HC0 := Aside0.mk hc0
 clear hr0 hc0
 have HR1 := Aside0.mk hr1
 have HC1 := Aside0.mk hc1
 clear hr1 hc1
 have H : (if (l0.length : Int) = (l1.length : Int) then (garnerref27_Same.l0 k l0 l1 0) else (some false)) = some r := h
 clear h
 by_cases c3 : (l0.length : Int) = (l1.length : Int)
 ·rw [if_pos c3] at H
  have c3b0 : ((l0.length : Int) == (l1.length : Int)) = true := beq_iff_eq.mpr c3
  have c3b1 : ((l0.length : Int) != (l1.length : Int)) = false := bne_eq_false_iff_eq.mpr c3
  have c3b2 : (l0.length == l1.length) = true := by first | simpa using c3 | (simp at c3 ⊢; omega)
  clear c3
  have H' := Aside0.mk H
  clear H
  go_enter Try.func18, Try.ntmps18
  go_wp2
  repeat (go_quiet (fail); try go_wp2)
  go_loopg [5] k (fun kq v5 w' => ∃ (x5_1 : Int), v5 = .int .i64 x5_1 ∧ Aside0 (garnerref27_Same.l0 kq l0 l1 x5_1 = some r) ∧ Aside0 (kq ≤ k) ∧ Drawn0 w w')
  case atStart => exact ⟨(0), (by first | rfl | (simp; done) | (simp [*]; done)), H', ⟨Nat.le_refl _⟩, by repeat (first | exact Drawn0.refl _ | apply Drawn0.step)⟩
  case round =>
   clear H'
   try clear c1
   try clear p2
   try clear c3
   try clear c3b0
   try clear c3b1
   try clear c3b2
   obtain ⟨x5_1, rfl, HA, HK1, ⟨m1, rfl⟩⟩ := hrel
   cases gk with
   | zero => exact absurd HA.out (by simp [garnerref27_Same.l0])
   | succ k1 =>
    have H := HA.out
    clear HA
    simp only [garnerref27_Same.l0] at H
    by_cases c4 : x5_1 < (l0.length : Int)
    ·rw [if_pos c4] at H
     have c4b0 : decide (x5_1 < (l0.length : Int)) = true := decide_eq_true c4
     clear c4
     by_cases c5 : 0 ≤ x5_1
     ·rw [if_pos c5] at H
      have c5b0 : decide (0 ≤ x5_1) = true := decide_eq_true c5
      clear c5
      by_cases c6 : x5_1 < (l1.length : Int)
      ·rw [if_pos c6] at H
       have c6b0 : decide (x5_1 < (l1.length : Int)) = true := decide_eq_true c6
       clear c6
       by_cases c7 : ((rd_T135 l0 x5_1).f0).toList = ((rd_T135 l1 x5_1).f0).toList
       ·rw [if_pos c7] at H
        have c7b0 : (((rd_T135 l0 x5_1).f0).toList == ((rd_T135 l1 x5_1).f0).toList) = true := beq_iff_eq.mpr c7
        have c7b1 : (((rd_T135 l0 x5_1).f0).toList != ((rd_T135 l1 x5_1).f0).toList) = false := bne_eq_false_iff_eq.mpr c7
        clear c7
        replace H := Option.bind_eq_some_iff.mp H
        obtain ⟨t415, A80, H⟩ := H
        replace H : (if t415 = true then (garnerref27_Same.l0 k1 l0 l1 (wrap64 (x5_1 + 1))) else (some false)) = some r := H
        have A8 := Aside0.mk A80
        clear A80
        by_cases c9 : t415 = true
        ·subst c9
         have H1 : (garnerref27_Same.l0 k1 l0 l1 (wrap64 (x5_1 + 1))) = some r := by rw [if_pos rfl] at H; exact H
         clear H
         have H := H1
         clear H1
         have H' := Aside0.mk H
         clear H
         have p411 : 0 ≤ (x5_1 : Int) := of_decide_eq_true pS
         have q411 : x5_1 < (l0.length : Int) := of_decide_eq_true pS
         obtain ⟨ad411, A411_1, c411_1, e411, hx411_0, hx411_1, hl411_1, hi411_1⟩ := at_T135 HR0.out x5_1 p411 q411
         cases e411
         have HR411_1 := Aside0.mk hi411_1
         have HC411_1 := Aside0.mk hl411_1
         clear hi411_1 hl411_1
         replace p411 := eq_true p411
         replace q411 := eq_true q411
         have p412 : 0 ≤ (x5_1 : Int) := of_decide_eq_true pS
         have q412 : x5_1 < (l1.length : Int) := of_decide_eq_true pS
         obtain ⟨ad412, A412_1, c412_1, e412, hx412_0, hx412_1, hl412_1, hi412_1⟩ := at_T135 HR1.out x5_1 p412 q412
         cases e412
         have HR412_1 := Aside0.mk hi412_1
         have HC412_1 := Aside0.mk hl412_1
         clear hi412_1 hl412_1
         replace p412 := eq_true p412
         replace q412 := eq_true q412
         have p413 : 0 ≤ (x5_1 : Int) := of_decide_eq_true pS
         have q413 : x5_1 < (l0.length : Int) := of_decide_eq_true pS
         obtain ⟨ad413, A413_1, c413_1, e413, hx413_0, hx413_1, hl413_1, hi413_1⟩ := at_T135 HR0.out x5_1 p413 q413
         obtain rfl : ad411 = ad413 := (by injection e413)
         have HR413_1 := Aside0.mk hi413_1
         have HC413_1 := Aside0.mk hl413_1
         clear hi413_1 hl413_1
         replace p413 := eq_true p413
         replace q413 := eq_true q413
         have ea_ := Option.some.inj (hx411_1.symm.trans hx413_1)
         injection ea_ with ea_ en_ ec_
         subst ea_
         subst ec_
         clear en_
         have p414 : 0 ≤ (x5_1 : Int) := of_decide_eq_true pS
         have q414 : x5_1 < (l1.length : Int) := of_decide_eq_true pS
         obtain ⟨ad414, A414_1, c414_1, e414, hx414_0, hx414_1, hl414_1, hi414_1⟩ := at_T135 HR1.out x5_1 p414 q414
         obtain rfl : ad412 = ad414 := (by injection e414)
         have HR414_1 := Aside0.mk hi414_1
         have HC414_1 := Aside0.mk hl414_1
         clear hi414_1 hl414_1
         replace p414 := eq_true p414
         replace q414 := eq_true q414
         have ea_ := Option.some.inj (hx412_1.symm.trans hx414_1)
         injection ea_ with ea_ en_ ec_
         subst ea_
         subst ec_
         clear en_
         go_wp2_with (first | (go_at_call 22; (with_reducible refine (garnerref02_Bytes.calls k1 _ _ ((rd_T135 l0 x5_1).f1) _ _ ((rd_T135 l1 x5_1).f1) true _ ?side1 ?side2 ?side3 ?side4 A8.out).mono ?_); (case side1 => repeat (first | exact HR413_1.out | (with_reducible refine Kd.C_alloc ?_ _) | (with_reducible refine Kd.C_drewN ?_ _) | (with_reducible refine Kd.C_drew ?_))); (case side2 => exact HC413_1.out); (case side3 => repeat (first | exact HR414_1.out | (with_reducible refine Kd.C_alloc ?_ _) | (with_reducible refine Kd.C_drewN ?_ _) | (with_reducible refine Kd.C_drew ?_))); (case side4 => exact HC414_1.out); rintro e w' ⟨rfl, ⟨nd, rfl⟩⟩; (try first | exact ⟨rfl, _, World.drewN_drewN _ _ _⟩ | exact ⟨rfl, _, Eq.trans (World.drewN_drewN _ _ _) (congrArg (World.drewN _) (Nat.add_assoc _ _ _))⟩)))
         repeat (go_quiet (first | (go_at_call 22; (with_reducible refine (garnerref02_Bytes.calls k1 _ _ ((rd_T135 l0 x5_1).f1) _ _ ((rd_T135 l1 x5_1).f1) true _ ?side1 ?side2 ?side3 ?side4 A8.out).mono ?_); (case side1 => repeat (first | exact HR413_1.out | (with_reducible refine Kd.C_alloc ?_ _) | (with_reducible refine Kd.C_drewN ?_ _) | (with_reducible refine Kd.C_drew ?_))); (case side2 => exact HC413_1.out); (case side3 => repeat (first | exact HR414_1.out | (with_reducible refine Kd.C_alloc ?_ _) | (with_reducible refine Kd.C_drewN ?_ _) | (with_reducible refine Kd.C_drew ?_))); (case side4 => exact HC414_1.out); rintro e w' ⟨rfl, ⟨nd, rfl⟩⟩; (try first | exact ⟨rfl, _, World.drewN_drewN _ _ _⟩ | exact ⟨rfl, _, Eq.trans (World.drewN_drewN _ _ _) (congrArg (World.drewN _) (Nat.add_assoc _ _ _))⟩))); try go_wp2_with (first | (go_at_call 22; (with_reducible refine (garnerref02_Bytes.calls k1 _ _ ((rd_T135 l0 x5_1).f1) _ _ ((rd_T135 l1 x5_1).f1) true _ ?side1 ?side2 ?side3 ?side4 A8.out).mono ?_); (case side1 => repeat (first | exact HR413_1.out | (with_reducible refine Kd.C_alloc ?_ _) | (with_reducible refine Kd.C_drewN ?_ _) | (with_reducible refine Kd.C_drew ?_))); (case side2 => exact HC413_1.out); (case side3 => repeat (first | exact HR414_1.out | (with_reducible refine Kd.C_alloc ?_ _) | (with_reducible refine Kd.C_drewN ?_ _) | (with_reducible refine Kd.C_drew ?_))); (case side4 => exact HC414_1.out); rintro e w' ⟨rfl, ⟨nd, rfl⟩⟩; (try first | exact ⟨rfl, _, World.drewN_drewN _ _ _⟩ | exact ⟨rfl, _, Eq.trans (World.drewN_drewN _ _ _) (congrArg (World.drewN _) (Nat.add_assoc _ _ _))⟩))))
         go_roundg k1
         case measure => have := HK1.out; omega
         case rel => exact ⟨(wrap64 (x5_1 + 1)), (by first | rfl | (simp; done) | (simp [*]; done)), H', ⟨by have := HK1.out; omega⟩, by repeat (first | exact Drawn0.refl _ | apply Drawn0.step)⟩
        ·replace c9 := Bool.eq_false_iff.mpr c9
         subst c9
         have H1 : (some false) = some r := by rw [if_neg (show ¬ (false = true) by decide)] at H; exact H
         clear H
         have H := H1
         clear H1
         obtain rfl := Option.some.inj H
         have p411 : 0 ≤ (x5_1 : Int) := of_decide_eq_true pS
         have q411 : x5_1 < (l0.length : Int) := of_decide_eq_true pS
         obtain ⟨ad411, A411_1, c411_1, e411, hx411_0, hx411_1, hl411_1, hi411_1⟩ := at_T135 HR0.out x5_1 p411 q411
         cases e411
         have HR411_1 := Aside0.mk hi411_1
         have HC411_1 := Aside0.mk hl411_1
         clear hi411_1 hl411_1
         replace p411 := eq_true p411
         replace q411 := eq_true q411
         have p412 : 0 ≤ (x5_1 : Int) := of_decide_eq_true pS
         have q412 : x5_1 < (l1.length : Int) := of_decide_eq_true pS
         obtain ⟨ad412, A412_1, c412_1, e412, hx412_0, hx412_1, hl412_1, hi412_1⟩ := at_T135 HR1.out x5_1 p412 q412
         cases e412
         have HR412_1 := Aside0.mk hi412_1
         have HC412_1 := Aside0.mk hl412_1
         clear hi412_1 hl412_1
         replace p412 := eq_true p412
         replace q412 := eq_true q412
         have p413 : 0 ≤ (x5_1 : Int) := of_decide_eq_true pS
         have q413 : x5_1 < (l0.length : Int) := of_decide_eq_true pS
         obtain ⟨ad413, A413_1, c413_1, e413, hx413_0, hx413_1, hl413_1, hi413_1⟩ := at_T135 HR0.out x5_1 p413 q413
         obtain rfl : ad411 = ad413 := (by injection e413)
         have HR413_1 := Aside0.mk hi413_1
         have HC413_1 := Aside0.mk hl413_1
         clear hi413_1 hl413_1
         replace p413 := eq_true p413
         replace q413 := eq_true q413
         have ea_ := Option.some.inj (hx411_1.symm.trans hx413_1)
         injection ea_ with ea_ en_ ec_
         subst ea_
         subst ec_
         clear en_
         have p414 : 0 ≤ (x5_1 : Int) := of_decide_eq_true pS
         have q414 : x5_1 < (l1.length : Int) := of_decide_eq_true pS
         obtain ⟨ad414, A414_1, c414_1, e414, hx414_0, hx414_1, hl414_1, hi414_1⟩ := at_T135 HR1.out x5_1 p414 q414
         obtain rfl : ad412 = ad414 := (by injection e414)
         have HR414_1 := Aside0.mk hi414_1
         have HC414_1 := Aside0.mk hl414_1
         clear hi414_1 hl414_1
         replace p414 := eq_true p414
         replace q414 := eq_true q414
         have ea_ := Option.some.inj (hx412_1.symm.trans hx414_1)
         injection ea_ with ea_ en_ ec_
         subst ea_
         subst ec_
         clear en_
         go_wp2_with (first | (go_at_call 22; (with_reducible refine (garnerref02_Bytes.calls k1 _ _ ((rd_T135 l0 x5_1).f1) _ _ ((rd_T135 l1 x5_1).f1) false _ ?side1 ?side2 ?side3 ?side4 A8.out).mono ?_); (case side1 => repeat (first | exact HR413_1.out | (with_reducible refine Kd.C_alloc ?_ _) | (with_reducible refine Kd.C_drewN ?_ _) | (with_reducible refine Kd.C_drew ?_))); (case side2 => exact HC413_1.out); (case side3 => repeat (first | exact HR414_1.out | (with_reducible refine Kd.C_alloc ?_ _) | (with_reducible refine Kd.C_drewN ?_ _) | (with_reducible refine Kd.C_drew ?_))); (case side4 => exact HC414_1.out); rintro e w' ⟨rfl, ⟨nd, rfl⟩⟩; (try first | exact ⟨rfl, _, World.drewN_drewN _ _ _⟩ | exact ⟨rfl, _, Eq.trans (World.drewN_drewN _ _ _) (congrArg (World.drewN _) (Nat.add_assoc _ _ _))⟩)))
         repeat (go_quiet (first | (go_at_call 22; (with_reducible refine (garnerref02_Bytes.calls k1 _ _ ((rd_T135 l0 x5_1).f1) _ _ ((rd_T135 l1 x5_1).f1) false _ ?side1 ?side2 ?side3 ?side4 A8.out).mono ?_); (case side1 => repeat (first | exact HR413_1.out | (with_reducible refine Kd.C_alloc ?_ _) | (with_reducible refine Kd.C_drewN ?_ _) | (with_reducible refine Kd.C_drew ?_))); (case side2 => exact HC413_1.out); (case side3 => repeat (first | exact HR414_1.out | (with_reducible refine Kd.C_alloc ?_ _) | (with_reducible refine Kd.C_drewN ?_ _) | (with_reducible refine Kd.C_drew ?_))); (case side4 => exact HC414_1.out); rintro e w' ⟨rfl, ⟨nd, rfl⟩⟩; (try first | exact ⟨rfl, _, World.drewN_drewN _ _ _⟩ | exact ⟨rfl, _, Eq.trans (World.drewN_drewN _ _ _) (congrArg (World.drewN _) (Nat.add_assoc _ _ _))⟩))); try go_wp2_with (first | (go_at_call 22; (with_reducible refine (garnerref02_Bytes.calls k1 _ _ ((rd_T135 l0 x5_1).f1) _ _ ((rd_T135 l1 x5_1).f1) false _ ?side1 ?side2 ?side3 ?side4 A8.out).mono ?_); (case side1 => repeat (first | exact HR413_1.out | (with_reducible refine Kd.C_alloc ?_ _) | (with_reducible refine Kd.C_drewN ?_ _) | (with_reducible refine Kd.C_drew ?_))); (case side2 => exact HC413_1.out); (case side3 => repeat (first | exact HR414_1.out | (with_reducible refine Kd.C_alloc ?_ _) | (with_reducible refine Kd.C_drewN ?_ _) | (with_reducible refine Kd.C_drew ?_))); (case side4 => exact HC414_1.out); rintro e w' ⟨rfl, ⟨nd, rfl⟩⟩; (try first | exact ⟨rfl, _, World.drewN_drewN _ _ _⟩ | exact ⟨rfl, _, Eq.trans (World.drewN_drewN _ _ _) (congrArg (World.drewN _) (Nat.add_assoc _ _ _))⟩))))
         go_ret
         exact ⟨by first | rfl | (simp; done) | (simp [*]; done), by repeat (first | exact Drawn0.refl _ | apply Drawn0.step)⟩
       ·rw [if_neg c7] at H
        have c7b0 : (((rd_T135 l0 x5_1).f0).toList == ((rd_T135 l1 x5_1).f0).toList) = false := beq_eq_false_iff_ne.mpr c7
        have c7b1 : (((rd_T135 l0 x5_1).f0).toList != ((rd_T135 l1 x5_1).f0).toList) = true := bne_iff_ne.mpr c7
        obtain rfl := Option.some.inj H
        have p411 : 0 ≤ (x5_1 : Int) := of_decide_eq_true pS
        have q411 : x5_1 < (l0.length : Int) := of_decide_eq_true pS
        obtain ⟨ad411, A411_1, c411_1, e411, hx411_0, hx411_1, hl411_1, hi411_1⟩ := at_T135 HR0.out x5_1 p411 q411
        cases e411
        have HR411_1 := Aside0.mk hi411_1
        have HC411_1 := Aside0.mk hl411_1
        clear hi411_1 hl411_1
        replace p411 := eq_true p411
        replace q411 := eq_true q411
        have p412 : 0 ≤ (x5_1 : Int) := of_decide_eq_true pS
        have q412 : x5_1 < (l1.length : Int) := of_decide_eq_true pS
        obtain ⟨ad412, A412_1, c412_1, e412, hx412_0, hx412_1, hl412_1, hi412_1⟩ := at_T135 HR1.out x5_1 p412 q412
        cases e412
        have HR412_1 := Aside0.mk hi412_1
        have HC412_1 := Aside0.mk hl412_1
        clear hi412_1 hl412_1
        replace p412 := eq_true p412
        replace q412 := eq_true q412
        go_wp2
        repeat (go_quiet (fail); try go_wp2)
        go_ret
        exact ⟨by first | rfl | (simp; done) | (simp [*]; done), by repeat (first | exact Drawn0.refl _ | apply Drawn0.step)⟩
      ·rw [if_neg c6] at H
       exact absurd H (by simp)
     ·rw [if_neg c5] at H
      exact absurd H (by simp)
    ·rw [if_neg c4] at H
     have c4b0 : decide (x5_1 < (l0.length : Int)) = false := decide_eq_false c4
     clear c4
     obtain rfl := Option.some.inj H
     go_wp2
     repeat (go_quiet (fail); try go_wp2)
     go_ret
     exact ⟨by first | rfl | (simp; done) | (simp [*]; done), by repeat (first | exact Drawn0.refl _ | apply Drawn0.step)⟩
 ·rw [if_neg c3] at H
  have c3b0 : ((l0.length : Int) == (l1.length : Int)) = false := beq_eq_false_iff_ne.mpr c3
  have c3b1 : ((l0.length : Int) != (l1.length : Int)) = true := bne_iff_ne.mpr c3
  have c3b2 : (l0.length == l1.length) = false := by first | simpa using c3 | (simp at c3 ⊢; omega)
  obtain rfl := Option.some.inj H
  go_enter Try.func18, Try.ntmps18
  go_wp2
  repeat (go_quiet (fail); try go_wp2)
  go_ret
  exact ⟨by first | rfl | (simp; done) | (simp [*]; done), by repeat (first | exact Drawn0.refl _ | apply Drawn0.step)⟩
def garnerlaw27_Light.l0 : Nat → List (S135) → Int → Int → Option (Bool)
 | 0, _, _, _ => none
 | k + 1, x0, x3, x4 => if x4 < (x0.length : Int) then (if x4 ≤ 40 then (if x3 ≤ 20000 then (if 0 ≤ x4 then (garnerlaw27_Light.l0 k x0 (wrap64 ((wrap64 (x3 + (((rd_T135 x0 x4).f0).size : Int))) + (((rd_T135 x0 x4).f1).length : Int))) (wrap64 (x4 + 1))) else (none)) else (if (x0.length : Int) ≤ 40 then (some (decide (x3 ≤ 20000))) else (some false))) else (if (x0.length : Int) ≤ 40 then (some (decide (x3 ≤ 20000))) else (some false))) else (if (x0.length : Int) ≤ 40 then (some (decide (x3 ≤ 20000))) else (some false))
def garnerlaw27_Light.f (k : Nat) (l0 : List (S135)) : Option (Bool) := garnerlaw27_Light.l0 k l0 0 0
theorem garnerlaw27_Light.mono_l : ∀ k, (∀ y0 y1 y2, LeO (garnerlaw27_Light.l0 k y0 y1 y2) (garnerlaw27_Light.l0 (k + 1) y0 y1 y2))
 | 0 => fun _ _ _ r h => by simp [garnerlaw27_Light.l0] at h
 | k + 1 => by
  have ih0 := garnerlaw27_Light.mono_l k
  ·intro y0 y1 y2
   unfold garnerlaw27_Light.l0
   repeat' first
   | (with_reducible exact ih0 _ _ _)
   | (with_reducible exact LeO.refl _)
   | (with_reducible exact LeO.none _)
   | (with_reducible refine LeO.ite ?_ ?_)
   | (with_reducible refine LeO.bind ?_ (fun _ => ?_))
   | exact ih0 _ _ _
   | exact LeO.none _
   | refine LeO.ite ?_ ?_
   | refine LeO.bind ?_ (fun _ => ?_)
theorem garnerlaw27_Light.mono : ∀ a0 k, LeO (garnerlaw27_Light.f k a0) (garnerlaw27_Light.f (k + 1) a0) := by
 intro a0 k
 have ih0 := garnerlaw27_Light.mono_l k
 unfold garnerlaw27_Light.f
 repeat' first
   | (with_reducible exact ih0 _ _ _)
   | (with_reducible exact LeO.refl _)
   | (with_reducible exact LeO.none _)
   | (with_reducible refine LeO.ite ?_ ?_)
   | (with_reducible refine LeO.bind ?_ (fun _ => ?_))
   | exact ih0 _ _ _
   | exact LeO.none _
   | refine LeO.ite ?_ ?_
   | refine LeO.bind ?_ (fun _ => ?_)
set_option maxHeartbeats 8000000 in
set_option maxRecDepth 100000 in
theorem garnerlaw27_Light.calls (k : Nat) (A0 : Option Addr) (c0 : Nat) (l0 : List (S135)) (r : Bool) (w : World) (hr0 : Kd.C k135 w A0 l0.length l0) (hc0 : l0.length ≤ c0) (h : garnerlaw27_Light.f k l0 = some r) :
  Calls Try.prog 19 #[.slice A0 l0.length c0] w fun e w' => e = .returned (.bool r) ∧ Drawn0 w w' := by
 have HR0 := Aside0.mk hr0
 have HC0 := Aside0.mk hc0
 clear hr0 hc0
 have H : (garnerlaw27_Light.l0 k l0 0 0) = some r := h
 clear h
 have H' := Aside0.mk H
 clear H
 go_enter Try.func19, Try.ntmps19
 go_wp2
 repeat (go_quiet (fail); try go_wp2)
 go_loopg [3, 4] k (fun kq v3 v4 w' => ∃ (x3_1 : Int) (x4_1 : Int), v3 = .int .i64 x3_1 ∧ v4 = .int .i64 x4_1 ∧ Aside0 (garnerlaw27_Light.l0 kq l0 x3_1 x4_1 = some r) ∧ Aside0 (kq ≤ k) ∧ Drawn0 w w')
 case atStart => exact ⟨(0), (0), (by first | rfl | (simp; done) | (simp [*]; done)), (by first | rfl | (simp; done) | (simp [*]; done)), H', ⟨Nat.le_refl _⟩, by repeat (first | exact Drawn0.refl _ | apply Drawn0.step)⟩
 case round =>
  clear H'
  try clear c1
  obtain ⟨x3_1, x4_1, rfl, rfl, HA, HK1, ⟨m1, rfl⟩⟩ := hrel
  cases gk with
  | zero => exact absurd HA.out (by simp [garnerlaw27_Light.l0])
  | succ k1 =>
   have H := HA.out
   clear HA
   simp only [garnerlaw27_Light.l0] at H
   by_cases c2 : x4_1 < (l0.length : Int)
   ·rw [if_pos c2] at H
    have c2b0 : decide (x4_1 < (l0.length : Int)) = true := decide_eq_true c2
    clear c2
    by_cases c3 : x4_1 ≤ 40
    ·rw [if_pos c3] at H
     have c3b0 : decide (x4_1 ≤ 40) = true := decide_eq_true c3
     clear c3
     by_cases c4 : x3_1 ≤ 20000
     ·rw [if_pos c4] at H
      have c4b0 : decide (x3_1 ≤ 20000) = true := decide_eq_true c4
      clear c4
      by_cases c5 : 0 ≤ x4_1
      ·rw [if_pos c5] at H
       have c5b0 : decide (0 ≤ x4_1) = true := decide_eq_true c5
       clear c5
       have H' := Aside0.mk H
       clear H
       have p416 : 0 ≤ (x4_1 : Int) := of_decide_eq_true pS
       have q416 : x4_1 < (l0.length : Int) := of_decide_eq_true pS
       obtain ⟨ad416, A416_1, c416_1, e416, hx416_0, hx416_1, hl416_1, hi416_1⟩ := at_T135 HR0.out x4_1 p416 q416
       cases e416
       have HR416_1 := Aside0.mk hi416_1
       have HC416_1 := Aside0.mk hl416_1
       clear hi416_1 hl416_1
       replace p416 := eq_true p416
       replace q416 := eq_true q416
       have p417 : 0 ≤ (x4_1 : Int) := of_decide_eq_true pS
       have q417 : x4_1 < (l0.length : Int) := of_decide_eq_true pS
       obtain ⟨ad417, A417_1, c417_1, e417, hx417_0, hx417_1, hl417_1, hi417_1⟩ := at_T135 HR0.out x4_1 p417 q417
       obtain rfl : ad416 = ad417 := (by injection e417)
       have HR417_1 := Aside0.mk hi417_1
       have HC417_1 := Aside0.mk hl417_1
       clear hi417_1 hl417_1
       replace p417 := eq_true p417
       replace q417 := eq_true q417
       have ea_ := Option.some.inj (hx416_1.symm.trans hx417_1)
       injection ea_ with ea_ en_ ec_
       subst ea_
       subst ec_
       clear en_
       go_wp2
       repeat (go_quiet (fail); try go_wp2)
       go_roundg k1
       case measure => have := HK1.out; omega
       case rel => exact ⟨(wrap64 ((wrap64 (x3_1 + (((rd_T135 l0 x4_1).f0).size : Int))) + (((rd_T135 l0 x4_1).f1).length : Int))), (wrap64 (x4_1 + 1)), (by first | rfl | (simp; done) | (simp [*]; done)), (by first | rfl | (simp; done) | (simp [*]; done)), H', ⟨by have := HK1.out; omega⟩, by repeat (first | exact Drawn0.refl _ | apply Drawn0.step)⟩
      ·rw [if_neg c5] at H
       exact absurd H (by simp)
     ·rw [if_neg c4] at H
      have c4b0 : decide (x3_1 ≤ 20000) = false := decide_eq_false c4
      clear c4
      by_cases c6 : (l0.length : Int) ≤ 40
      ·rw [if_pos c6] at H
       have c6b0 : decide ((l0.length : Int) ≤ 40) = true := decide_eq_true c6
       have c6b1 : decide (l0.length ≤ 40) = true := decide_eq_true (by omega)
       clear c6
       obtain rfl := Option.some.inj H
       go_wp2
       repeat (go_quiet (fail); try go_wp2)
       go_ret
       exact ⟨by first | rfl | (simp; done) | (simp [*]; done), by repeat (first | exact Drawn0.refl _ | apply Drawn0.step)⟩
      ·rw [if_neg c6] at H
       have c6b0 : decide ((l0.length : Int) ≤ 40) = false := decide_eq_false c6
       have c6b1 : decide (l0.length ≤ 40) = false := decide_eq_false (by omega)
       clear c6
       obtain rfl := Option.some.inj H
       go_wp2
       repeat (go_quiet (fail); try go_wp2)
       go_ret
       exact ⟨by first | rfl | (simp; done) | (simp [*]; done), by repeat (first | exact Drawn0.refl _ | apply Drawn0.step)⟩
    ·rw [if_neg c3] at H
     have c3b0 : decide (x4_1 ≤ 40) = false := decide_eq_false c3
     clear c3
     by_cases c7 : (l0.length : Int) ≤ 40
     ·rw [if_pos c7] at H
      have c7b0 : decide ((l0.length : Int) ≤ 40) = true := decide_eq_true c7
      have c7b1 : decide (l0.length ≤ 40) = true := decide_eq_true (by omega)
      clear c7
      obtain rfl := Option.some.inj H
      go_wp2
      repeat (go_quiet (fail); try go_wp2)
      go_ret
      exact ⟨by first | rfl | (simp; done) | (simp [*]; done), by repeat (first | exact Drawn0.refl _ | apply Drawn0.step)⟩
     ·rw [if_neg c7] at H
      have c7b0 : decide ((l0.length : Int) ≤ 40) = false := decide_eq_false c7
      have c7b1 : decide (l0.length ≤ 40) = false := decide_eq_false (by omega)
      clear c7
      obtain rfl := Option.some.inj H
      go_wp2
      repeat (go_quiet (fail); try go_wp2)
      go_ret
      exact ⟨by first | rfl | (simp; done) | (simp [*]; done), by repeat (first | exact Drawn0.refl _ | apply Drawn0.step)⟩
   ·rw [if_neg c2] at H
    have c2b0 : decide (x4_1 < (l0.length : Int)) = false := decide_eq_false c2
    clear c2
    by_cases c8 : (l0.length : Int) ≤ 40
    ·rw [if_pos c8] at H
     have c8b0 : decide ((l0.length : Int) ≤ 40) = true := decide_eq_true c8
     have c8b1 : decide (l0.length ≤ 40) = true := decide_eq_true (by omega)
     clear c8
     obtain rfl := Option.some.inj H
     go_wp2
     repeat (go_quiet (fail); try go_wp2)
     go_ret
     exact ⟨by first | rfl | (simp; done) | (simp [*]; done), by repeat (first | exact Drawn0.refl _ | apply Drawn0.step)⟩
    ·rw [if_neg c8] at H
     have c8b0 : decide ((l0.length : Int) ≤ 40) = false := decide_eq_false c8
     have c8b1 : decide (l0.length ≤ 40) = false := decide_eq_false (by omega)
     clear c8
     obtain rfl := Option.some.inj H
     go_wp2
     repeat (go_quiet (fail); try go_wp2)
     go_ret
     exact ⟨by first | rfl | (simp; done) | (simp [*]; done), by repeat (first | exact Drawn0.refl _ | apply Drawn0.step)⟩
end Go.Proofs.Ytapamplgajkjlaa.PExportPuts
