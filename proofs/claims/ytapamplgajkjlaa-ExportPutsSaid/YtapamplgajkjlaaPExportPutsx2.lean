/- What the law reaches, as plain Lean functions, and that the machine's calls answer just that. -/
import Derived.Test.YtapamplgajkjlaaPExportPutsx0
import Derived.Test.YtapamplgajkjlaaPExportPutsx1
namespace Go.Proofs.Ytapamplgajkjlaa.PExportPuts
open Go.RowKit Go.Proofs.YtapamplgajkjlaaW.PrintWords Go.Proofs.YtapamplgajkjlaaW.PrintLast Go.Proofs.YtapamplgajkjlaaW.PrintMore
attribute [local go_sem] max2_int min2_int max_two min_two max_three min_three max_four min_four
set_option linter.unusedVariables false
set_option linter.unusedSimpArgs false
attribute [local go_sem] wrap64_l1 wrap64_l2 wrap64_l3 wrap64_l4 wrap64_l5 str_leq str_gtr str_geq
def frame_Put.l0 : Nat → List Int → List (S83) → Int → Int → Option (List Int × Int)
 | 0, _, _, _, _ => none
 | k + 1, x4, x7, x8, x9 => if x9 < x8 then (if 0 ≤ x9 then (if x9 < (x7.length : Int) then ((frame_may.f ((rd_T83 x7 x9).f0) ((rd_T83 x7 x9).f1)).bind fun t126 => (if t126 = true then ((varint_Put.f k (([IntKind.u64.wrap ((((rd_T83 x7 x9).f1).length : Int))] : List Int))).bind fun t130 => (if x4.length + t130.length < 140737488355328 then ((some (x4 ++ t130 : List Int)).bind fun y133 => (if y133.length < 140737488355328 then ((some (y133 ++ [((rd_T83 x7 x9).f0) % 256] : List Int)).bind fun y136 => (if y136.length + ((rd_T83 x7 x9).f1).length < 140737488355328 then ((frame_sum.f k (((rd_T83 x7 x9).f0) % 256) ((rd_T83 x7 x9).f1)).bind fun t142 => ((frame_tail.f (y136 ++ ((rd_T83 x7 x9).f1)) t142).bind fun t143 => (frame_Put.l0 k t143 x7 x8 (wrap64 (x9 + 1))))) else (none))) else (none))) else (none))) else (some (([] : List Int), 1)))) else (none)) else (none)) else (some (x4, 0))
def frame_Put.f (k : Nat) (l0 : List (S83)) : Option (List Int × Int) := frame_Put.l0 k ([] : List Int) l0 (l0.length : Int) 0
theorem frame_Put.mono_l : ∀ k, (∀ y0 y1 y2 y3, LeO (frame_Put.l0 k y0 y1 y2 y3) (frame_Put.l0 (k + 1) y0 y1 y2 y3))
 | 0 => fun _ _ _ _ r h => by simp [frame_Put.l0] at h
 | k + 1 => by
  have ih0 := frame_Put.mono_l k
  ·intro y0 y1 y2 y3
   unfold frame_Put.l0
   repeat' first
   | (with_reducible exact ih0 _ _ _ _)
   | (with_reducible exact frame_sum.mono _ _ _)
   | (with_reducible exact varint_Put.mono _ _)
   | (with_reducible exact LeO.refl _)
   | (with_reducible exact LeO.none _)
   | (with_reducible refine LeO.ite ?_ ?_)
   | (with_reducible refine LeO.bind ?_ (fun _ => ?_))
   | exact ih0 _ _ _ _
   | exact frame_sum.mono _ _ _
   | exact varint_Put.mono _ _
   | exact LeO.none _
   | refine LeO.ite ?_ ?_
   | refine LeO.bind ?_ (fun _ => ?_)
theorem frame_Put.mono : ∀ a0 k, LeO (frame_Put.f k a0) (frame_Put.f (k + 1) a0) := by
 intro a0 k
 have ih0 := frame_Put.mono_l k
 unfold frame_Put.f
 repeat' first
   | (with_reducible exact ih0 _ _ _ _)
   | (with_reducible exact frame_sum.mono _ _ _)
   | (with_reducible exact varint_Put.mono _ _)
   | (with_reducible exact LeO.refl _)
   | (with_reducible exact LeO.none _)
   | (with_reducible refine LeO.ite ?_ ?_)
   | (with_reducible refine LeO.bind ?_ (fun _ => ?_))
   | exact ih0 _ _ _ _
   | exact frame_sum.mono _ _ _
   | exact varint_Put.mono _ _
   | exact LeO.none _
   | refine LeO.ite ?_ ?_
   | refine LeO.bind ?_ (fun _ => ?_)
set_option maxHeartbeats 8000000 in
set_option maxRecDepth 100000 in
theorem frame_Put.calls (k : Nat) (A0 : Option Addr) (c0 : Nat) (l0 : List (S83)) (r1 : List Int) (r2 : Int) (w : World) (hr0 : Kd.C k83 w A0 l0.length l0) (hc0 : l0.length ≤ c0) (h : frame_Put.f k l0 = some (r1, r2)) :
  Calls Try.prog 74 #[.slice A0 l0.length c0] w fun e w' => ∃ v0_ : Value, e = .returned (.tuple #[v0_, .int .i64 r2]) ∧ Kd.R (Kd.int .u8) 5 w' w.heap.size (fun _ => True) v0_ r1 ∧ Below w.heap.size w w' := by
 have hu83 := Try.underlying83
 have HR0 := Aside0.mk hr0
 have HC0 := Aside0.mk hc0
 clear hr0 hc0
 have HB := Aside0.mk (Below.refl w.heap.size w)
 have H : (frame_Put.l0 k ([] : List Int) l0 (l0.length : Int) 0) = some (r1, r2) := h
 clear h
 have H' := Aside0.mk H
 clear H
 go_enter Try.func74, Try.ntmps74
 go_wp2
 go_loopg [4, 9] k (fun kq v4 v9 w' => ∃ (x4_1 : List Int) (x9_1 : Int), v9 = .int .i64 x9_1 ∧ Aside0 (frame_Put.l0 kq x4_1 l0 (l0.length : Int) x9_1 = some (r1, r2)) ∧ Aside0 (kq ≤ k) ∧ Aside0 (Kd.R (Kd.int .u8) 5 w' w.heap.size (fun _ => True) v4 x4_1) ∧ Aside0 (Below w.heap.size w w'))
 case atStart => exact ⟨(([] : List Int)), (0), (by first | rfl | (simp; done) | (simp [*]; done)), H', ⟨Nat.le_refl _⟩, ⟨by first | exact Kd.R_nil _ _ _ _ _ | exact Kd.N_nil _ _ _ _ _ | exact Kd.V_nil _ _ _ _ _ | exact Kd.Q_nil _ _ _ _ _ | exact Kd.S_nil _ _ _ _ _⟩, ⟨by repeat (first | (with_reducible first | exact HB.out | apply below_alloc | apply pw_below_drewN | apply below_drew1) | exact HB.out)⟩⟩
 case round =>
  clear H'
  obtain ⟨x4_1, x9_1, rfl, HA, HK1, HO_4, HB⟩ := hrel
  cases gk with
  | zero => exact absurd HA.out (by simp [frame_Put.l0])
  | succ k1 =>
   have H := HA.out
   clear HA
   simp only [frame_Put.l0] at H
   by_cases c2 : x9_1 < (l0.length : Int)
   ·rw [if_pos c2] at H
    have c2b0 : decide (x9_1 < (l0.length : Int)) = true := decide_eq_true c2
    clear c2
    by_cases c3 : 0 ≤ x9_1
    ·rw [if_pos c3] at H
     have c3b0 : decide (0 ≤ x9_1) = true := decide_eq_true c3
     clear c3
     by_cases c4 : x9_1 < (l0.length : Int)
     ·rw [if_pos c4] at H
      have c4b0 : decide (x9_1 < (l0.length : Int)) = true := decide_eq_true c4
      clear c4
      replace H := Option.bind_eq_some_iff.mp H
      obtain ⟨t126, A50, H⟩ := H
      replace H : (if t126 = true then ((varint_Put.f k1 (([IntKind.u64.wrap ((((rd_T83 l0 x9_1).f1).length : Int))] : List Int))).bind fun t130 => (if x4_1.length + t130.length < 140737488355328 then ((some (x4_1 ++ t130 : List Int)).bind fun y133 => (if y133.length < 140737488355328 then ((some (y133 ++ [((rd_T83 l0 x9_1).f0) % 256] : List Int)).bind fun y136 => (if y136.length + ((rd_T83 l0 x9_1).f1).length < 140737488355328 then ((frame_sum.f k1 (((rd_T83 l0 x9_1).f0) % 256) ((rd_T83 l0 x9_1).f1)).bind fun t142 => ((frame_tail.f (y136 ++ ((rd_T83 l0 x9_1).f1)) t142).bind fun t143 => (frame_Put.l0 k1 t143 l0 (l0.length : Int) (wrap64 (x9_1 + 1))))) else (none))) else (none))) else (none))) else (some (([] : List Int), 1))) = some (r1, r2) := H
      have A5 := Aside0.mk A50
      clear A50
      by_cases c6 : t126 = true
      ·subst c6
       have H1 : ((varint_Put.f k1 (([IntKind.u64.wrap ((((rd_T83 l0 x9_1).f1).length : Int))] : List Int))).bind fun t130 => (if x4_1.length + t130.length < 140737488355328 then ((some (x4_1 ++ t130 : List Int)).bind fun y133 => (if y133.length < 140737488355328 then ((some (y133 ++ [((rd_T83 l0 x9_1).f0) % 256] : List Int)).bind fun y136 => (if y136.length + ((rd_T83 l0 x9_1).f1).length < 140737488355328 then ((frame_sum.f k1 (((rd_T83 l0 x9_1).f0) % 256) ((rd_T83 l0 x9_1).f1)).bind fun t142 => ((frame_tail.f (y136 ++ ((rd_T83 l0 x9_1).f1)) t142).bind fun t143 => (frame_Put.l0 k1 t143 l0 (l0.length : Int) (wrap64 (x9_1 + 1))))) else (none))) else (none))) else (none))) = some (r1, r2) := by rw [if_pos rfl] at H; exact H
       clear H
       have H := H1
       clear H1
       obtain ⟨y127, hy127⟩ : ∃ y_ : List Int, y_ = (([IntKind.u64.wrap ((((rd_T83 l0 x9_1).f1).length : Int))] : List Int)) := ⟨_, rfl⟩
       replace H : ((varint_Put.f k1 y127).bind fun t130 => (if x4_1.length + t130.length < 140737488355328 then ((some (x4_1 ++ t130 : List Int)).bind fun y133 => (if y133.length < 140737488355328 then ((some (y133 ++ [((rd_T83 l0 x9_1).f0) % 256] : List Int)).bind fun y136 => (if y136.length + ((rd_T83 l0 x9_1).f1).length < 140737488355328 then ((frame_sum.f k1 (((rd_T83 l0 x9_1).f0) % 256) ((rd_T83 l0 x9_1).f1)).bind fun t142 => ((frame_tail.f (y136 ++ ((rd_T83 l0 x9_1).f1)) t142).bind fun t143 => (frame_Put.l0 k1 t143 l0 (l0.length : Int) (wrap64 (x9_1 + 1))))) else (none))) else (none))) else (none))) = some (r1, r2) := by first | (rw [hy127]; with_reducible exact H) | (have H2_ := (Option.bind_some _ _).symm.trans H; rw [hy127]; with_reducible exact H2_) | (have H2_ := (Option.bind_some _ _).symm.trans H; with_reducible exact H2_) | with_reducible exact H | (rw [hy127]; exact H) | exact H
       have Ny127 := Aside0.mk hy127
       clear hy127
       replace H := Option.bind_eq_some_iff.mp H
       obtain ⟨t130, A70, H⟩ := H
       replace H : (if x4_1.length + t130.length < 140737488355328 then ((some (x4_1 ++ t130 : List Int)).bind fun y133 => (if y133.length < 140737488355328 then ((some (y133 ++ [((rd_T83 l0 x9_1).f0) % 256] : List Int)).bind fun y136 => (if y136.length + ((rd_T83 l0 x9_1).f1).length < 140737488355328 then ((frame_sum.f k1 (((rd_T83 l0 x9_1).f0) % 256) ((rd_T83 l0 x9_1).f1)).bind fun t142 => ((frame_tail.f (y136 ++ ((rd_T83 l0 x9_1).f1)) t142).bind fun t143 => (frame_Put.l0 k1 t143 l0 (l0.length : Int) (wrap64 (x9_1 + 1))))) else (none))) else (none))) else (none)) = some (r1, r2) := H
       have A7 := Aside0.mk A70
       clear A70
       by_cases c8 : x4_1.length + t130.length < 140737488355328
       ·rw [if_pos c8] at H
        have LMc8 := Aside0.mk c8
        clear c8
        obtain ⟨y133, hy133⟩ : ∃ y_ : List Int, y_ = (x4_1 ++ t130) := ⟨_, rfl⟩
        replace H : (if y133.length < 140737488355328 then ((some (y133 ++ [((rd_T83 l0 x9_1).f0) % 256] : List Int)).bind fun y136 => (if y136.length + ((rd_T83 l0 x9_1).f1).length < 140737488355328 then ((frame_sum.f k1 (((rd_T83 l0 x9_1).f0) % 256) ((rd_T83 l0 x9_1).f1)).bind fun t142 => ((frame_tail.f (y136 ++ ((rd_T83 l0 x9_1).f1)) t142).bind fun t143 => (frame_Put.l0 k1 t143 l0 (l0.length : Int) (wrap64 (x9_1 + 1))))) else (none))) else (none)) = some (r1, r2) := by first | (rw [hy133]; with_reducible exact H) | (have H2_ := (Option.bind_some _ _).symm.trans H; rw [hy133]; with_reducible exact H2_) | (have H2_ := (Option.bind_some _ _).symm.trans H; with_reducible exact H2_) | with_reducible exact H | (rw [hy133]; exact H) | exact H
        have Ny133 := Aside0.mk hy133
        clear hy133
        by_cases c9 : y133.length < 140737488355328
        ·rw [if_pos c9] at H
         have LMc9 := Aside0.mk c9
         clear c9
         obtain ⟨y136, hy136⟩ : ∃ y_ : List Int, y_ = (y133 ++ [((rd_T83 l0 x9_1).f0) % 256]) := ⟨_, rfl⟩
         replace H : (if y136.length + ((rd_T83 l0 x9_1).f1).length < 140737488355328 then ((frame_sum.f k1 (((rd_T83 l0 x9_1).f0) % 256) ((rd_T83 l0 x9_1).f1)).bind fun t142 => ((frame_tail.f (y136 ++ ((rd_T83 l0 x9_1).f1)) t142).bind fun t143 => (frame_Put.l0 k1 t143 l0 (l0.length : Int) (wrap64 (x9_1 + 1))))) else (none)) = some (r1, r2) := by first | (rw [hy136]; with_reducible exact H) | (have H2_ := (Option.bind_some _ _).symm.trans H; rw [hy136]; with_reducible exact H2_) | (have H2_ := (Option.bind_some _ _).symm.trans H; with_reducible exact H2_) | with_reducible exact H | (rw [hy136]; exact H) | exact H
         have Ny136 := Aside0.mk hy136
         clear hy136
         by_cases c10 : y136.length + ((rd_T83 l0 x9_1).f1).length < 140737488355328
         ·rw [if_pos c10] at H
          have LMc10 := Aside0.mk c10
          clear c10
          obtain ⟨y139, hy139⟩ : ∃ y_ : List Int, y_ = (y136 ++ ((rd_T83 l0 x9_1).f1)) := ⟨_, rfl⟩
          replace H : ((frame_sum.f k1 (((rd_T83 l0 x9_1).f0) % 256) ((rd_T83 l0 x9_1).f1)).bind fun t142 => ((frame_tail.f y139 t142).bind fun t143 => (frame_Put.l0 k1 t143 l0 (l0.length : Int) (wrap64 (x9_1 + 1))))) = some (r1, r2) := by first | (rw [hy139]; with_reducible exact H) | (have H2_ := (Option.bind_some _ _).symm.trans H; rw [hy139]; with_reducible exact H2_) | (have H2_ := (Option.bind_some _ _).symm.trans H; with_reducible exact H2_) | with_reducible exact H | (rw [hy139]; exact H) | exact H
          have Ny139 := Aside0.mk hy139
          clear hy139
          replace H := Option.bind_eq_some_iff.mp H
          obtain ⟨t142, A110, H⟩ := H
          replace H : ((frame_tail.f y139 t142).bind fun t143 => (frame_Put.l0 k1 t143 l0 (l0.length : Int) (wrap64 (x9_1 + 1)))) = some (r1, r2) := H
          have A11 := Aside0.mk A110
          clear A110
          replace H := Option.bind_eq_some_iff.mp H
          obtain ⟨t143, A120, H⟩ := H
          replace H : (frame_Put.l0 k1 t143 l0 (l0.length : Int) (wrap64 (x9_1 + 1))) = some (r1, r2) := H
          have A12 := Aside0.mk A120
          clear A120
          have H' := Aside0.mk H
          clear H
          have p124 : 0 ≤ (x9_1 : Int) := of_decide_eq_true pS
          have q124 : x9_1 < (l0.length : Int) := of_decide_eq_true pS
          obtain ⟨ad124, A124_1, c124_1, e124, hx124_0, hx124_1, hl124_1, hi124_1⟩ := at_T83 HR0.out x9_1 p124 q124
          cases e124
          replace hx124_0 := (HB.out.cell (World.block_lt_of_cell? w _ hx124_0)).trans hx124_0
          replace hx124_1 := (HB.out.cell (World.block_lt_of_cell? w _ hx124_1)).trans hx124_1
          have HR124_1 := Aside0.mk hi124_1
          have HC124_1 := Aside0.mk hl124_1
          clear hi124_1 hl124_1
          replace p124 := eq_true p124
          replace q124 := eq_true q124
          go_wp2_with (first | ((with_reducible refine gate_dst (N := 6) rfl ?_); refine box_event ?hg (N := 6) ?hd (cs := #[.int .i64 0, .slice none 0 0]) (t := 83) ?hr ?_; (case hd => rfl); (case hg => rfl); (case hr => first | (go_simp; done) | (go_simp; rfl)); intro gb125 hg w13 hbox hb; have n0_ := Aside0.mk (Kd.R_below (pR HO_4.out) hb); have n1_ := Aside0.mk (below_step (pB HB.out) hb); have n2_ := Aside0.mk (hbox); have n3_ := Aside0.mk ((by rw [hg]; exact (below_size (pB HB.out)) : w.heap.size ≤ gb125)); have n4_ := Aside0.mk ((by rw [hg]; exact (below_size (pB HB.out)) : w.heap.size ≤ gb125)); clear HO_4 HB; have HO_4 := n0_; have HB := n1_; have BK125 := n2_; have GW125 := n3_; have GE125 := n4_; clear n0_ n1_ n2_ n3_ n4_ hb hbox hg; have hcz14_0 : w13.cell? ⟨gb125, 0, none⟩ = some (.int .i64 0) := (blk_cell BK125.out 0).trans rfl; have hcz14_1 : w13.cell? ⟨gb125, 1, none⟩ = some (.slice none 0 0) := (blk_cell BK125.out 1).trans rfl; have hfz14_0 := blk_frozen BK125.out 0; have hfz14_1 := blk_frozen BK125.out 1) | ((with_reducible refine gate_callee (f := 144) rfl ?_); refine goesL_ (some 14) rfl rfl Try.func144 (by kernel_rfl) rfl #[.agg #[.int .i64 ((rd_T83 l0 x9_1).f0), .slice A124_1 ((rd_T83 l0 x9_1).f1).length c124_1]] rfl pL ?_; (with_reducible refine (frame_may.calls ((rd_T83 l0 x9_1).f0) _ _ ((rd_T83 l0 x9_1).f1) true _ ?side1 ?side2 A5.out).mono ?_); (case side1 => exact Kd.C_below HR124_1.out (pE HB.out GE125.out)); (case side2 => exact HC124_1.out); rintro e w15 ⟨rfl, hb⟩; refine ⟨_, rfl, ?_⟩; have n0_ := Aside0.mk (Kd.R_below (by (with_reducible repeat (first | apply Kd.R_alloc | apply Kd.R_drewN | apply Kd.R_drew)); exact (Kd.R_mono (Kd.R_far (p := ⟨gb125, 1, none⟩) (Kd.R_far (p := ⟨gb125, 0, none⟩) (Kd.R_types HO_4.out BK125.out (by decide)) (fun _ hk => hk.2) (.int .i64 ((rd_T83 l0 x9_1).f0))) (fun _ hk => hk.2) (.slice A124_1 ((rd_T83 l0 x9_1).f1).length c124_1)) (fun _ h_ => h_.1))) hb); have n1_ := Aside0.mk (blk_below (g := gb125) (o := .cells #[.int .i64 ((rd_T83 l0 x9_1).f0), .slice A124_1 ((rd_T83 l0 x9_1).f1).length c124_1] 83 (0, 0)) (by (with_reducible repeat (first | refine blk_drewN ?_ _ | refine blk_drew ?_ | refine blk_alloc ?_ _)); refine blk_put (cs := #[.int .i64 ((rd_T83 l0 x9_1).f0), .slice none 0 0]) ?_ 1 _ rfl; (with_reducible repeat (first | refine blk_drewN ?_ _ | refine blk_drew ?_ | refine blk_alloc ?_ _)); refine blk_put (cs := #[.int .i64 0, .slice none 0 0]) ?_ 0 _ rfl; (with_reducible repeat (first | refine blk_drewN ?_ _ | refine blk_drew ?_ | refine blk_alloc ?_ _)); exact BK125.out) hb); have n2_ := Aside0.mk (below_step (pE HB.out GE125.out) hb); clear HO_4 BK125 HB; have HO_4 := n0_; have BK125 := n1_; have HB := n2_; clear n0_ n1_ n2_; (try clear hb); (try clear hb2); (try clear hk); (try clear hi); have hcz16_0 : w15.cell? ⟨gb125, 0, none⟩ = some (.int .i64 ((rd_T83 l0 x9_1).f0)) := (blk_cell BK125.out 0).trans rfl; have hcz16_1 : w15.cell? ⟨gb125, 1, none⟩ = some (.slice A124_1 ((rd_T83 l0 x9_1).f1).length c124_1) := (blk_cell BK125.out 1).trans rfl; have hfz16_0 := blk_frozen BK125.out 0; have hfz16_1 := blk_frozen BK125.out 1) | ((with_reducible refine gate_dst (N := 21) rfl ?_); refine Kd.R_lit (Kd.int .u64) _ 133 ?hg (N := 21) ?hd (xs := ([IntKind.u64.wrap ((((rd_T83 l0 x9_1).f1).length : Int))] : List Int)) (inner := [.int .u64 (IntKind.u64.wrap ((((rd_T83 l0 x9_1).f1).length : Int)))]) (ok := fun _ => True) (okp := fun _ => True) ?hr ?hp (fun _ hk => hk) trivial (Below.refl _ _) (Nat.le_refl _) (by simp) ?_; (case hd => rfl); (case hg => rfl); (case hr => first | (go_simp; done) | (go_simp; rfl)); (case hp => exact (Reps.one (show Kd.M (Kd.int .u64) _ _ _ (IntKind.u64.wrap ((((rd_T83 l0 x9_1).f1).length : Int))) [.int .u64 (IntKind.u64.wrap ((((rd_T83 l0 x9_1).f1).length : Int)))] from rfl) (Reps.none _ _))); intro v128 w17 ho18 hb hg_ hnew_; clear hg_ hnew_; (first | rw [← Ny127.out] at ho18 | (simp only [Int.reduceToNat] at ho18; rw [← Ny127.out] at ho18)); have n0_ := Aside0.mk (Kd.R_below (pR HO_4.out) hb); have n1_ := Aside0.mk (Kd.R_lower ho18 (below_size (pE HB.out GE125.out))); have n2_ := Aside0.mk (blk_below (g := gb125) (o := .cells #[.int .i64 ((rd_T83 l0 x9_1).f0), .slice A124_1 ((rd_T83 l0 x9_1).f1).length c124_1] 83 (0, 0)) (pK BK125.out) hb); have n3_ := Aside0.mk (below_step (pE HB.out GE125.out) hb); clear HO_4 BK125 HB; have HO_4 := n0_; have HO129 := n1_; have BK125 := n2_; have HB := n3_; clear n0_ n1_ n2_ n3_ hb ho18; obtain ⟨Ao19, co19, eo19⟩ := Kd.R_slice HO129.out; subst eo19) | ((with_reducible refine gate_callee (f := 75) rfl ?_); refine goesL_ (some 22) rfl rfl Try.func75 (by kernel_rfl) rfl #[.slice Ao19 y127.length co19] rfl pL ?_; (with_reducible refine (varint_Put.calls k1 _ _ y127 t130 _ ?side1 ?side2 A7.out).mono ?_); (case side1 => exact pC (Kd.R_reads' HO129.out).2.2); (case side2 => exact (Kd.R_reads' HO129.out).2.1); rintro e w20 ⟨v131, rfl, ho0, hb⟩; refine ⟨_, rfl, ?_⟩; have n0_ := Aside0.mk (Kd.R_elder' (pR HO_4.out) (Kd.R_base ho0) hb); have n1_ := Aside0.mk (Kd.R_below (pR HO129.out) hb); have n2_ := Aside0.mk (Kd.R_lower (Kd.R_new' ho0 (Kd.R_lt (pR HO_4.out))) (below_size (pE HB.out GE125.out))); have n3_ := Aside0.mk (blk_below (g := gb125) (o := .cells #[.int .i64 ((rd_T83 l0 x9_1).f0), .slice A124_1 ((rd_T83 l0 x9_1).f1).length c124_1] 83 (0, 0)) (pK BK125.out) hb); have n4_ := Aside0.mk (below_step (pE HB.out GE125.out) hb); clear HO_4 HO129 BK125 HB; have HO_4 := n0_; have HO129 := n1_; have HO132 := n2_; have BK125 := n3_; have HB := n4_; clear n0_ n1_ n2_ n3_ n4_; (try clear hb); (try clear hb2); (try clear hk); (try clear hi); (try clear ho0); obtain ⟨Ao22, co22, eo22⟩ := Kd.R_slice HO132.out; subst eo22) | ((with_reducible refine gate_builtin (b := .append) (xs := #[.tmp 16, .tmp 22]) rfl ?_); at_builtin; refine Kd.R_append_rows (Kd.int .u8) (w0 := w) w.heap.size rfl (.tmp 16) (.tmp 22) 22 5 (.int .u8 0) 1 rfl Try.underlying22 info5 rfl (by decide) (by omega) u4 x4_1 t130 _ _ _ (fun k_ => some k_ ≠ (.slice Ao22 t130.length co22 : Value).ownBlock) (fun _ => False) rfl rfl ?aO ?aR (fun _ _ h => h) (fun _ h => h.elim) ?aF ?aB ?aS ?aL ?_; (case aR => exact pC (Kd.R_reads' HO132.out).2.2); (case aB => exact (pE HB.out GE125.out)); (case aF => exact (fun k_ hk => Kd.fresh' (Kd.R_lt (pR HO132.out)) k_ hk)); (case aO => exact (by (with_reducible repeat (first | apply Kd.R_alloc | apply Kd.R_drewN | apply Kd.R_drew)); exact Kd.R_mono HO_4.out (fun _ hk => hk.2))); (case aS => exact (below_size (pE HB.out GE125.out))); (case aL => have := LMc8.out; omega); intro v134 w21 ho hb hg hat; rw [← Ny133.out] at ho; have n0_ := Aside0.mk (blk_grown (g := gb125) (o := .cells #[.int .i64 ((rd_T83 l0 x9_1).f0), .slice A124_1 ((rd_T83 l0 x9_1).f1).length c124_1] 83 (0, 0)) (pK BK125.out) hg (Kd.R_ne HO_4.out BK125.out (by decide))); have n1_ := Aside0.mk (Kd.R_over' (pR HO129.out) (Kd.R_typed (pR HO_4.out)) (by decide) hg); have n2_ := Aside0.mk (Kd.R_after (ok := (fun _ => True)) (pR HO132.out) hg hat); have n3_ := Aside0.mk (hb); have n4_ := Aside0.mk (ho); clear BK125 HO129 HO132 HB HO_4; have BK125 := n0_; have HO129 := n1_; have HO132 := n2_; have HB := n3_; have HO135 := n4_; clear n0_ n1_ n2_ n3_ n4_ ho hb hg hat; have hcz23_0 : w21.cell? ⟨gb125, 0, none⟩ = some (.int .i64 ((rd_T83 l0 x9_1).f0)) := (blk_cell BK125.out 0).trans rfl; have hcz23_1 : w21.cell? ⟨gb125, 1, none⟩ = some (.slice A124_1 ((rd_T83 l0 x9_1).f1).length c124_1) := (blk_cell BK125.out 1).trans rfl; have hfz23_0 := blk_frozen BK125.out 0; have hfz23_1 := blk_frozen BK125.out 1) | ((with_reducible refine gate_builtin (b := .append) (xs := #[.tmp 24, .tmp 28]) rfl ?_); at_builtin; refine Kd.R_append (Kd.int .u8) (w0 := w) w.heap.size rfl (.tmp 24) (.tmp 28) 22 5 (.int .u8 0) 1 rfl Try.underlying22 info5 rfl (by decide) (by omega) v134 y133 (((rd_T83 l0 x9_1).f0) % 256) [.int .u8 (((rd_T83 l0 x9_1).f0) % 256)] (fun k_ => some k_ ≠ (.slice Ao22 t130.length co22 : Value).ownBlock) (fun _ => False) rfl rfl ?aP (fun _ hk => hk.elim) ?aF ?aO ?aB ?aS ?aL ?_; (case aP => exact rfl); (case aB => exact (pE HB.out GE125.out)); (case aF => exact (fun k_ hk => Kd.fresh' (Kd.R_lt (pR HO132.out)) k_ hk)); (case aO => exact (pR HO135.out)); (case aS => exact (below_size (pE HB.out GE125.out))); (case aL => have := LMc9.out; omega); intro v137 w24 ho hb hg hat; rw [← Ny136.out] at ho; have n0_ := Aside0.mk (blk_grown (g := gb125) (o := .cells #[.int .i64 ((rd_T83 l0 x9_1).f0), .slice A124_1 ((rd_T83 l0 x9_1).f1).length c124_1] 83 (0, 0)) (pK BK125.out) hg (Kd.R_ne HO135.out BK125.out (by decide))); have n1_ := Aside0.mk (Kd.R_over' (pR HO129.out) (Kd.R_typed (pR HO135.out)) (by decide) hg); have n2_ := Aside0.mk (Kd.R_after (ok := (fun _ => True)) (pR HO132.out) hg hat); have n3_ := Aside0.mk (hb); have n4_ := Aside0.mk (ho); clear BK125 HO129 HO132 HB HO135; have BK125 := n0_; have HO129 := n1_; have HO132 := n2_; have HB := n3_; have HO138 := n4_; clear n0_ n1_ n2_ n3_ n4_ ho hb hg hat; have hcz25_0 : w24.cell? ⟨gb125, 0, none⟩ = some (.int .i64 ((rd_T83 l0 x9_1).f0)) := (blk_cell BK125.out 0).trans rfl; have hcz25_1 : w24.cell? ⟨gb125, 1, none⟩ = some (.slice A124_1 ((rd_T83 l0 x9_1).f1).length c124_1) := (blk_cell BK125.out 1).trans rfl; have hfz25_0 := blk_frozen BK125.out 0; have hfz25_1 := blk_frozen BK125.out 1) | ((with_reducible refine gate_builtin (b := .append) (xs := #[.tmp 30, .tmp 32]) rfl ?_); at_builtin; refine Kd.R_append_rows (Kd.int .u8) (w0 := w) w.heap.size rfl (.tmp 30) (.tmp 32) 22 5 (.int .u8 0) 1 rfl Try.underlying22 info5 rfl (by decide) (by omega) v137 y136 ((rd_T83 l0 x9_1).f1) _ _ _ (fun k_ => some k_ ≠ (.slice Ao22 t130.length co22 : Value).ownBlock) (fun _ => False) rfl rfl ?aO ?aR (fun _ _ h => h) (fun _ h => h.elim) ?aF ?aB ?aS ?aL ?_; (case aR => exact pC (Kd.C_below HR124_1.out HB.out)); (case aB => exact (pE HB.out GE125.out)); (case aF => exact (fun k_ hk => Kd.fresh' (Kd.R_lt (pR HO132.out)) k_ hk)); (case aO => exact (pR HO138.out)); (case aS => exact (below_size (pE HB.out GE125.out))); (case aL => have := LMc10.out; omega); intro v140 w26 ho hb hg hat; rw [← Ny139.out] at ho; have n0_ := Aside0.mk (blk_grown (g := gb125) (o := .cells #[.int .i64 ((rd_T83 l0 x9_1).f0), .slice A124_1 ((rd_T83 l0 x9_1).f1).length c124_1] 83 (0, 0)) (pK BK125.out) hg (Kd.R_ne HO138.out BK125.out (by decide))); have n1_ := Aside0.mk (Kd.R_over' (pR HO129.out) (Kd.R_typed (pR HO138.out)) (by decide) hg); have n2_ := Aside0.mk (Kd.R_after (ok := (fun _ => True)) (pR HO132.out) hg hat); have n3_ := Aside0.mk (hb); have n4_ := Aside0.mk (ho); clear BK125 HO129 HO132 HB HO138; have BK125 := n0_; have HO129 := n1_; have HO132 := n2_; have HB := n3_; have HO141 := n4_; clear n0_ n1_ n2_ n3_ n4_ ho hb hg hat; have hcz27_0 : w26.cell? ⟨gb125, 0, none⟩ = some (.int .i64 ((rd_T83 l0 x9_1).f0)) := (blk_cell BK125.out 0).trans rfl; have hcz27_1 : w26.cell? ⟨gb125, 1, none⟩ = some (.slice A124_1 ((rd_T83 l0 x9_1).f1).length c124_1) := (blk_cell BK125.out 1).trans rfl; have hfz27_0 := blk_frozen BK125.out 0; have hfz27_1 := blk_frozen BK125.out 1) | ((with_reducible refine gate_callee (f := 146) rfl ?_); refine goesL_ (some 40) rfl rfl Try.func146 (by kernel_rfl) rfl #[.int .u8 (((rd_T83 l0 x9_1).f0) % 256), .slice A124_1 ((rd_T83 l0 x9_1).f1).length c124_1] rfl pL ?_; (with_reducible refine (frame_sum.calls k1 (((rd_T83 l0 x9_1).f0) % 256) _ _ ((rd_T83 l0 x9_1).f1) t142 _ ?side1 ?side2 A11.out).mono ?_); (case side1 => exact pC (Kd.C_below HR124_1.out HB.out)); (case side2 => exact HC124_1.out); rintro e w28 ⟨rfl, hb⟩; refine ⟨_, rfl, ?_⟩; have n0_ := Aside0.mk (Kd.R_below (pR HO129.out) hb); have n1_ := Aside0.mk (Kd.R_below (pR HO132.out) hb); have n2_ := Aside0.mk (Kd.R_below (pR HO141.out) hb); have n3_ := Aside0.mk (blk_below (g := gb125) (o := .cells #[.int .i64 ((rd_T83 l0 x9_1).f0), .slice A124_1 ((rd_T83 l0 x9_1).f1).length c124_1] 83 (0, 0)) (pK BK125.out) hb); have n4_ := Aside0.mk (below_step (pE HB.out GE125.out) hb); clear HO129 HO132 HO141 BK125 HB; have HO129 := n0_; have HO132 := n1_; have HO141 := n2_; have BK125 := n3_; have HB := n4_; clear n0_ n1_ n2_ n3_ n4_; (try clear hb); (try clear hb2); (try clear hk); (try clear hi); obtain ⟨Ao29, co29, eo29⟩ := Kd.R_slice HO141.out; subst eo29) | ((with_reducible refine gate_callee (f := 145) rfl ?_); refine goesL_ (some 41) rfl rfl Try.func145 (by kernel_rfl) rfl #[.slice Ao29 y139.length co29, .int .u32 t142] rfl pL ?_; (with_reducible refine (frame_tail.calls (fun k_ => some k_ = (.slice Ao29 y139.length co29 : Value).ownBlock) (.slice Ao29 y139.length co29) y139 t142 t143 w _ ?side1 ?side2 A12.out).mono ?_); (case side1 => repeat (first | (with_reducible first | exact HB.out | apply below_alloc | apply pw_below_drewN | apply below_drew1 | refine below_set ?_ GE125.out) | exact HB.out)); (case side2 => exact Kd.R_tight rfl HO141.out); rintro e w30 ⟨v144, rfl, ho0, hb, hkp⟩; refine ⟨_, rfl, ?_⟩; have n0_ := Aside0.mk (blk_kept (pK BK125.out) hkp (fun hs_ => (fun e_ => (Kd.R_ne HO141.out BK125.out (by decide)) e_) hs_)); have n1_ := Aside0.mk (Kd.R_mono (ok' := fun k_ => True) (Kd.R_keptB ((Kd.R_apart' HO129.out (Kd.R_typed HO141.out) (by decide))) hkp (fun k_ hk_ hs_ => (hk_.2) hs_)) (fun k_ hk_ => trivial)); have n2_ := Aside0.mk (Kd.R_mono (ok' := fun k_ => some k_ ≠ (v144 : Value).ownBlock) (Kd.R_keptB (HO132.out) hkp (fun k_ hk_ hs_ => (hk_.2) hs_)) (fun k_ hk_ => fun e_ => Or.elim (ho0.1 k_ e_.symm) (fun hs_ => hk_.2.1 hs_) (fun hn_ => Nat.not_le.2 hk_.2.2 hn_))); have n3_ := Aside0.mk (Kd.R_mono (ok' := fun k_ => some k_ ≠ (.slice Ao22 t130.length co22 : Value).ownBlock) ho0 (fun k_ hk_ => Or.elim hk_ (fun hs_ => fun e_ => (((HO132.out).1 k_ e_.symm).2) hs_) (fun hn_ => (Kd.fresh' (Kd.R_lt (pR HO132.out)) k_ hn_)))); have n4_ := Aside0.mk (hb); clear BK125 HO129 HO132 HB HO141; have BK125 := n0_; have HO129 := n1_; have HO132 := n2_; have HO145 := n3_; have HB := n4_; clear n0_ n1_ n2_ n3_ n4_; (try clear hb); (try clear hkp); (try clear ho0)))
          go_roundg k1
          case measure => have := HK1.out; omega
          case rel => exact ⟨(t143), (wrap64 (x9_1 + 1)), (by first | rfl | (simp; done) | (simp [*]; done)), H', ⟨by have := HK1.out; omega⟩, ⟨by (with_reducible repeat (first | apply Kd.R_alloc | apply Kd.R_drewN | apply Kd.R_drew)); exact Kd.R_mono HO145.out (fun _ hk => trivial)⟩, ⟨by repeat (first | (with_reducible first | exact HB.out | apply below_alloc | apply pw_below_drewN | apply below_drew1 | refine below_set ?_ GE125.out) | exact HB.out)⟩⟩
         ·rw [if_neg c10] at H
          exact absurd H (by simp)
        ·rw [if_neg c9] at H
         exact absurd H (by simp)
       ·rw [if_neg c8] at H
        exact absurd H (by simp)
      ·replace c6 := Bool.eq_false_iff.mpr c6
       subst c6
       have H1 : (some (([] : List Int), 1)) = some (r1, r2) := by rw [if_neg (show ¬ (false = true) by decide)] at H; exact H
       clear H
       have H := H1
       clear H1
       simp only [Option.some.injEq, Prod.mk.injEq] at H
       obtain ⟨rfl, rfl⟩ := H
       have p124 : 0 ≤ (x9_1 : Int) := of_decide_eq_true pS
       have q124 : x9_1 < (l0.length : Int) := of_decide_eq_true pS
       obtain ⟨ad124, A124_1, c124_1, e124, hx124_0, hx124_1, hl124_1, hi124_1⟩ := at_T83 HR0.out x9_1 p124 q124
       cases e124
       replace hx124_0 := (HB.out.cell (World.block_lt_of_cell? w _ hx124_0)).trans hx124_0
       replace hx124_1 := (HB.out.cell (World.block_lt_of_cell? w _ hx124_1)).trans hx124_1
       have HR124_1 := Aside0.mk hi124_1
       have HC124_1 := Aside0.mk hl124_1
       clear hi124_1 hl124_1
       replace p124 := eq_true p124
       replace q124 := eq_true q124
       go_wp2_with (first | ((with_reducible refine gate_dst (N := 6) rfl ?_); refine box_event ?hg (N := 6) ?hd (cs := #[.int .i64 0, .slice none 0 0]) (t := 83) ?hr ?_; (case hd => rfl); (case hg => rfl); (case hr => first | (go_simp; done) | (go_simp; rfl)); intro gb125 hg w31 hbox hb; have n0_ := Aside0.mk (Kd.R_below (pR HO_4.out) hb); have n1_ := Aside0.mk (below_step (pB HB.out) hb); have n2_ := Aside0.mk (hbox); have n3_ := Aside0.mk ((by rw [hg]; exact (below_size (pB HB.out)) : w.heap.size ≤ gb125)); have n4_ := Aside0.mk ((by rw [hg]; exact (below_size (pB HB.out)) : w.heap.size ≤ gb125)); clear HO_4 HB; have HO_4 := n0_; have HB := n1_; have BK125 := n2_; have GW125 := n3_; have GE125 := n4_; clear n0_ n1_ n2_ n3_ n4_ hb hbox hg; have hcz32_0 : w31.cell? ⟨gb125, 0, none⟩ = some (.int .i64 0) := (blk_cell BK125.out 0).trans rfl; have hcz32_1 : w31.cell? ⟨gb125, 1, none⟩ = some (.slice none 0 0) := (blk_cell BK125.out 1).trans rfl; have hfz32_0 := blk_frozen BK125.out 0; have hfz32_1 := blk_frozen BK125.out 1) | ((with_reducible refine gate_callee (f := 144) rfl ?_); refine goesL_ (some 14) rfl rfl Try.func144 (by kernel_rfl) rfl #[.agg #[.int .i64 ((rd_T83 l0 x9_1).f0), .slice A124_1 ((rd_T83 l0 x9_1).f1).length c124_1]] rfl pL ?_; (with_reducible refine (frame_may.calls ((rd_T83 l0 x9_1).f0) _ _ ((rd_T83 l0 x9_1).f1) false _ ?side1 ?side2 A5.out).mono ?_); (case side1 => exact Kd.C_below HR124_1.out (pE HB.out GE125.out)); (case side2 => exact HC124_1.out); rintro e w33 ⟨rfl, hb⟩; refine ⟨_, rfl, ?_⟩; have n0_ := Aside0.mk (Kd.R_below (by (with_reducible repeat (first | apply Kd.R_alloc | apply Kd.R_drewN | apply Kd.R_drew)); exact (Kd.R_mono (Kd.R_far (p := ⟨gb125, 1, none⟩) (Kd.R_far (p := ⟨gb125, 0, none⟩) (Kd.R_types HO_4.out BK125.out (by decide)) (fun _ hk => hk.2) (.int .i64 ((rd_T83 l0 x9_1).f0))) (fun _ hk => hk.2) (.slice A124_1 ((rd_T83 l0 x9_1).f1).length c124_1)) (fun _ h_ => h_.1))) hb); have n1_ := Aside0.mk (blk_below (g := gb125) (o := .cells #[.int .i64 ((rd_T83 l0 x9_1).f0), .slice A124_1 ((rd_T83 l0 x9_1).f1).length c124_1] 83 (0, 0)) (by (with_reducible repeat (first | refine blk_drewN ?_ _ | refine blk_drew ?_ | refine blk_alloc ?_ _)); refine blk_put (cs := #[.int .i64 ((rd_T83 l0 x9_1).f0), .slice none 0 0]) ?_ 1 _ rfl; (with_reducible repeat (first | refine blk_drewN ?_ _ | refine blk_drew ?_ | refine blk_alloc ?_ _)); refine blk_put (cs := #[.int .i64 0, .slice none 0 0]) ?_ 0 _ rfl; (with_reducible repeat (first | refine blk_drewN ?_ _ | refine blk_drew ?_ | refine blk_alloc ?_ _)); exact BK125.out) hb); have n2_ := Aside0.mk (below_step (pE HB.out GE125.out) hb); clear HO_4 BK125 HB; have HO_4 := n0_; have BK125 := n1_; have HB := n2_; clear n0_ n1_ n2_; (try clear hb); (try clear hb2); (try clear hk); (try clear hi)))
       go_ret2
       exact ⟨_, by first | rfl | (simp [errW_none, errW_some] <;> rfl) | (simp [*, errW_none, errW_some] <;> rfl), by first | exact Kd.R_nil _ _ _ _ _ | exact Kd.N_nil _ _ _ _ _ | exact Kd.V_nil _ _ _ _ _ | exact Kd.Q_nil _ _ _ _ _ | exact Kd.S_nil _ _ _ _ _, by repeat (first | (with_reducible first | exact HB.out | apply below_alloc | apply pw_below_drewN | apply below_drew1 | refine below_set ?_ GE125.out) | exact HB.out)⟩
     ·rw [if_neg c4] at H
      exact absurd H (by simp)
    ·rw [if_neg c3] at H
     exact absurd H (by simp)
   ·rw [if_neg c2] at H
    have c2b0 : decide (x9_1 < (l0.length : Int)) = false := decide_eq_false c2
    clear c2
    simp only [Option.some.injEq, Prod.mk.injEq] at H
    obtain ⟨rfl, rfl⟩ := H
    go_wp2
    go_ret2
    exact ⟨_, by first | rfl | (simp [errW_none, errW_some] <;> rfl) | (simp [*, errW_none, errW_some] <;> rfl), by (with_reducible repeat (first | apply Kd.R_alloc | apply Kd.R_drewN | apply Kd.R_drew)); exact HO_4.out, by repeat (first | (with_reducible first | exact HB.out | apply below_alloc | apply pw_below_drewN | apply below_drew1) | exact HB.out)⟩
def export_foot.f (a0 : Int) : Option (List Int) := some (([(a0) % 256, (a0 / 256) % 256, (a0 / 65536) % 256, (a0 / 16777216) % 256] : List Int))
set_option maxHeartbeats 8000000 in
set_option maxRecDepth 100000 in
theorem export_foot.calls (a0 : Int) (r : List Int) (w : World) (h : export_foot.f a0 = some r) :
  Calls Try.prog 76 #[.int .u32 a0] w fun e w' => ∃ v0_ : Value, e = .returned (v0_) ∧ Kd.R (Kd.int .u8) 5 w' w.heap.size (fun _ => True) v0_ r ∧ Below w.heap.size w w' := by
 have HB := Aside0.mk (Below.refl w.heap.size w)
 have H : (some (([(a0) % 256, (a0 / 256) % 256, (a0 / 65536) % 256, (a0 / 16777216) % 256] : List Int))) = some r := h
 clear h
 obtain ⟨y146, hy146⟩ : ∃ y_ : List Int, y_ = (([(a0) % 256, (a0 / 256) % 256, (a0 / 65536) % 256, (a0 / 16777216) % 256] : List Int)) := ⟨_, rfl⟩
 replace H : (some y146) = some r := by first | (rw [hy146]; with_reducible exact H) | (have H2_ := (Option.bind_some _ _).symm.trans H; rw [hy146]; with_reducible exact H2_) | (have H2_ := (Option.bind_some _ _).symm.trans H; with_reducible exact H2_) | with_reducible exact H | (rw [hy146]; exact H) | exact H
 have Ny146 := Aside0.mk hy146
 clear hy146
 obtain rfl := Option.some.inj H
 go_enter Try.func76, Try.ntmps76
 go_wp2_with (first | ((with_reducible refine gate_dst (N := 14) rfl ?_); refine Kd.R_lit (Kd.int .u8) _ 5 ?hg (N := 14) ?hd (xs := ([(a0) % 256, (a0 / 256) % 256, (a0 / 65536) % 256, (a0 / 16777216) % 256] : List Int)) (inner := [.int .u8 ((a0) % 256), .int .u8 ((a0 / 256) % 256), .int .u8 ((a0 / 65536) % 256), .int .u8 ((a0 / 16777216) % 256)]) (ok := fun _ => True) (okp := fun _ => True) ?hr ?hp (fun _ hk => hk) trivial (Below.refl _ _) (Nat.le_refl _) (by simp) ?_; (case hd => rfl); (case hg => rfl); (case hr => first | (go_simp; done) | (go_simp; rfl)); (case hp => exact (Reps.one (show Kd.M (Kd.int .u8) _ _ _ ((a0) % 256) [.int .u8 ((a0) % 256)] from rfl) (Reps.one (show Kd.M (Kd.int .u8) _ _ _ ((a0 / 256) % 256) [.int .u8 ((a0 / 256) % 256)] from rfl) (Reps.one (show Kd.M (Kd.int .u8) _ _ _ ((a0 / 65536) % 256) [.int .u8 ((a0 / 65536) % 256)] from rfl) (Reps.one (show Kd.M (Kd.int .u8) _ _ _ ((a0 / 16777216) % 256) [.int .u8 ((a0 / 16777216) % 256)] from rfl) (Reps.none _ _)))))); intro v147 w2 ho3 hb hg_ hnew_; clear hg_ hnew_; (first | rw [← Ny146.out] at ho3 | (simp only [Int.reduceToNat] at ho3; rw [← Ny146.out] at ho3)); have n0_ := Aside0.mk (Kd.R_lower ho3 (below_size (pB HB.out))); have n1_ := Aside0.mk (below_step (pB HB.out) hb); clear HB; have HO148 := n0_; have HB := n1_; clear n0_ n1_ hb ho3))
 go_ret
 exact ⟨_, by first | rfl | (simp [errW_none, errW_some] <;> rfl) | (simp [*, errW_none, errW_some] <;> rfl), by (with_reducible repeat (first | apply Kd.R_alloc | apply Kd.R_drewN | apply Kd.R_drew)); exact HO148.out, by repeat (first | (with_reducible first | exact HB.out | apply below_alloc | apply pw_below_drewN | apply below_drew1) | exact HB.out)⟩
mutual
def export_Put.j0 : Nat → Int → Int → List (S135) → Bool → Option (List Int × Int)
 | 0, _, _, _, _ => none
 | k + 1, x0, x1, x2, x29 => if x29 = true then (some (([] : List Int), 1)) else ((varint_Put.f k (([IntKind.u64.wrap (x0), IntKind.u64.wrap (x1), IntKind.u64.wrap ((x2.length : Int))] : List Int))).bind fun t155 => ((frame_Put.f k (([(⟨21, t155⟩ : S83)] : List (S83)))).bind fun bt161 => (export_Put.l0 k bt161.1 x2 (x2.length : Int) 0)))
def export_Put.l0 : Nat → List Int → List (S135) → Int → Int → Option (List Int × Int)
 | 0, _, _, _, _ => none
 | k + 1, x8, x45, x46, x47 => if x47 < x46 then (if 0 ≤ x47 then (if x47 < (x45.length : Int) then ((varint_Put.f k (([IntKind.u64.wrap ((((rd_T135 x45 x47).f0).size : Int))] : List Int))).bind fun t170 => (if t170.length + ((rd_T135 x45 x47).f0).size < 140737488355328 then ((some (t170 ++ bytesOf ((rd_T135 x45 x47).f0) : List Int)).bind fun y173 => (if y173.length + ((rd_T135 x45 x47).f1).length < 140737488355328 then ((frame_Put.f k (([(⟨22, (y173 ++ ((rd_T135 x45 x47).f1))⟩ : S83)] : List (S83)))).bind fun bt182 => (if x8.length + bt182.1.length < 140737488355328 then (export_Put.l0 k (x8 ++ bt182.1) x45 x46 (wrap64 (x47 + 1))) else (none))) else (none))) else (none))) else (none)) else (none)) else ((crc_Of.f k x8).bind fun t189 => ((export_foot.f t189).bind fun t190 => ((frame_Put.f k (([(⟨23, t190⟩ : S83)] : List (S83)))).bind fun bt196 => (if x8.length + bt196.1.length < 140737488355328 then (some ((x8 ++ bt196.1), 0)) else (none)))))
end
def export_Put.f (k : Nat) (a0 : Int) (a1 : Int) (l2 : List (S135)) : Option (List Int × Int) := (export_counts.f a0).bind fun t149 => (if t149 = true then ((export_counts.f a1).bind fun t150 => (if t150 = true then ((export_Sorted.f k l2).bind fun t151 => (export_Put.j0 k a0 a1 l2 (!t151))) else (export_Put.j0 k a0 a1 l2 true))) else (export_Put.j0 k a0 a1 l2 true))
theorem export_Put.mono_l : ∀ k, (∀ y0 y1 y2 y3, LeO (export_Put.j0 k y0 y1 y2 y3) (export_Put.j0 (k + 1) y0 y1 y2 y3)) ∧ (∀ y0 y1 y2 y3, LeO (export_Put.l0 k y0 y1 y2 y3) (export_Put.l0 (k + 1) y0 y1 y2 y3))
 | 0 => ⟨fun _ _ _ _ r h => by simp [export_Put.j0] at h, fun _ _ _ _ r h => by simp [export_Put.l0] at h⟩
 | k + 1 => by
  obtain ⟨ih0, ih1⟩ := export_Put.mono_l k
  refine ⟨?_, ?_⟩
  ·intro y0 y1 y2 y3
   unfold export_Put.j0
   repeat' first
   | (with_reducible exact ih0 _ _ _ _)
   | (with_reducible exact ih1 _ _ _ _)
   | (with_reducible exact crc_Of.mono _ _)
   | (with_reducible exact export_Sorted.mono _ _)
   | (with_reducible exact frame_Put.mono _ _)
   | (with_reducible exact varint_Put.mono _ _)
   | (with_reducible exact LeO.refl _)
   | (with_reducible exact LeO.none _)
   | (with_reducible refine LeO.ite ?_ ?_)
   | (with_reducible refine LeO.bind ?_ (fun _ => ?_))
   | exact ih0 _ _ _ _
   | exact ih1 _ _ _ _
   | exact crc_Of.mono _ _
   | exact export_Sorted.mono _ _
   | exact frame_Put.mono _ _
   | exact varint_Put.mono _ _
   | exact LeO.none _
   | refine LeO.ite ?_ ?_
   | refine LeO.bind ?_ (fun _ => ?_)
  ·intro y0 y1 y2 y3
   unfold export_Put.l0
   repeat' first
   | (with_reducible exact ih0 _ _ _ _)
   | (with_reducible exact ih1 _ _ _ _)
   | (with_reducible exact crc_Of.mono _ _)
   | (with_reducible exact export_Sorted.mono _ _)
   | (with_reducible exact frame_Put.mono _ _)
   | (with_reducible exact varint_Put.mono _ _)
   | (with_reducible exact LeO.refl _)
   | (with_reducible exact LeO.none _)
   | (with_reducible refine LeO.ite ?_ ?_)
   | (with_reducible refine LeO.bind ?_ (fun _ => ?_))
   | exact ih0 _ _ _ _
   | exact ih1 _ _ _ _
   | exact crc_Of.mono _ _
   | exact export_Sorted.mono _ _
   | exact frame_Put.mono _ _
   | exact varint_Put.mono _ _
   | exact LeO.none _
   | refine LeO.ite ?_ ?_
   | refine LeO.bind ?_ (fun _ => ?_)
theorem export_Put.mono : ∀ a0 a1 a2 k, LeO (export_Put.f k a0 a1 a2) (export_Put.f (k + 1) a0 a1 a2) := by
 intro a0 a1 a2 k
 obtain ⟨ih0, ih1⟩ := export_Put.mono_l k
 unfold export_Put.f
 repeat' first
   | (with_reducible exact ih0 _ _ _ _)
   | (with_reducible exact ih1 _ _ _ _)
   | (with_reducible exact crc_Of.mono _ _)
   | (with_reducible exact export_Sorted.mono _ _)
   | (with_reducible exact frame_Put.mono _ _)
   | (with_reducible exact varint_Put.mono _ _)
   | (with_reducible exact LeO.refl _)
   | (with_reducible exact LeO.none _)
   | (with_reducible refine LeO.ite ?_ ?_)
   | (with_reducible refine LeO.bind ?_ (fun _ => ?_))
   | exact ih0 _ _ _ _
   | exact ih1 _ _ _ _
   | exact crc_Of.mono _ _
   | exact export_Sorted.mono _ _
   | exact frame_Put.mono _ _
   | exact varint_Put.mono _ _
   | exact LeO.none _
   | refine LeO.ite ?_ ?_
   | refine LeO.bind ?_ (fun _ => ?_)
def export_Put.T7 : Bool × List (List Nat × List Nat) := (true, [([], []), ([0], [0]), ([1], [1]), ([2], [2]), ([3], [3]), ([4], [4]), ([], []), ([6], [6]), ([5, 7, 5], [5, 7]), ([8, 8, 0, 1, 2, 3, 4, 5, 6, 7, 8], [8])])
def export_Put.B7 : List Nat := [0, 1, 3, 7, 15, 31, 0, 64, 255, 511]
theorem export_Put.tab7 : rtab .any (opsOf Try.f21 7) = export_Put.T7 := by kernel_rfl
theorem export_Put.bits7 : waitsOk export_Put.T7.2 export_Put.B7 = true := by kernel_rfl
set_option maxHeartbeats 8000000 in
set_option maxRecDepth 100000 in
theorem export_Put.calls (k : Nat) (a0 : Int) (a1 : Int) (A2 : Option Addr) (c2 : Nat) (l2 : List (S135)) (r1 : List Int) (r2 : Int) (w : World) (hr2 : Kd.C k135 w A2 l2.length l2) (hc2 : l2.length ≤ c2) (h : export_Put.f k a0 a1 l2 = some (r1, r2)) :
  Calls Try.prog 21 #[.int .i64 a0, .int .i64 a1, .slice A2 l2.length c2] w fun e w' => ∃ v0_ : Value, e = .returned (.tuple #[v0_, .int .i64 r2]) ∧ Kd.R (Kd.int .u8) 5 w' w.heap.size (fun _ => True) v0_ r1 ∧ Below w.heap.size w w' := by
 have hu83 := Try.underlying83
 have hu135 := Try.underlying135
 have HR2 := Aside0.mk hr2
 have HC2 := Aside0.mk hc2
 clear hr2 hc2
 have HB := Aside0.mk (Below.refl w.heap.size w)
 have H : ((export_counts.f a0).bind fun t149 => (if t149 = true then ((export_counts.f a1).bind fun t150 => (if t150 = true then ((export_Sorted.f k l2).bind fun t151 => (export_Put.j0 k a0 a1 l2 (!t151))) else (export_Put.j0 k a0 a1 l2 true))) else (export_Put.j0 k a0 a1 l2 true))) = some (r1, r2) := h
 clear h
 have HC4 := Aside0.mk H
 clear H
 go_enter Try.func21, Try.ntmps21
 go_upto_region 1 with (fail)
 go_cut [29] (fun v29 wc => ∃ (kq : Nat) (x29_3 : Bool), v29 = .bool x29_3 ∧ Aside0 (export_Put.j0 kq a0 a1 l2 x29_3 = some (r1, r2)) ∧ Aside0 (kq ≤ k) ∧ Aside0 (Below w.heap.size w wc))
 case first =>
  have H := HC4.out
  clear HC4
  replace H := Option.bind_eq_some_iff.mp H
  obtain ⟨t149, A50, H⟩ := H
  replace H : (if t149 = true then ((export_counts.f a1).bind fun t150 => (if t150 = true then ((export_Sorted.f k l2).bind fun t151 => (export_Put.j0 k a0 a1 l2 (!t151))) else (export_Put.j0 k a0 a1 l2 true))) else (export_Put.j0 k a0 a1 l2 true)) = some (r1, r2) := H
  have A5 := Aside0.mk A50
  clear A50
  by_cases c6 : t149 = true
  ·subst c6
   have H1 : ((export_counts.f a1).bind fun t150 => (if t150 = true then ((export_Sorted.f k l2).bind fun t151 => (export_Put.j0 k a0 a1 l2 (!t151))) else (export_Put.j0 k a0 a1 l2 true))) = some (r1, r2) := by rw [if_pos rfl] at H; exact H
   clear H
   have H := H1
   clear H1
   replace H := Option.bind_eq_some_iff.mp H
   obtain ⟨t150, A70, H⟩ := H
   replace H : (if t150 = true then ((export_Sorted.f k l2).bind fun t151 => (export_Put.j0 k a0 a1 l2 (!t151))) else (export_Put.j0 k a0 a1 l2 true)) = some (r1, r2) := H
   have A7 := Aside0.mk A70
   clear A70
   by_cases c8 : t150 = true
   ·subst c8
    have H1 : ((export_Sorted.f k l2).bind fun t151 => (export_Put.j0 k a0 a1 l2 (!t151))) = some (r1, r2) := by rw [if_pos rfl] at H; exact H
    clear H
    have H := H1
    clear H1
    replace H := Option.bind_eq_some_iff.mp H
    obtain ⟨t151, A90, H⟩ := H
    replace H : (export_Put.j0 k a0 a1 l2 (!t151)) = some (r1, r2) := H
    have A9 := Aside0.mk A90
    clear A90
    have H' := Aside0.mk H
    clear H
    go_wp2_with (first | ((with_reducible refine gate_callee (f := 73) rfl ?_); refine goesL_ (some 18) rfl rfl Try.func73 (by kernel_rfl) rfl #[.int .i64 a0] rfl pL ?_; (with_reducible refine (export_counts.calls a0 true _ A5.out).mono ?_); rintro e w' ⟨rfl, ⟨nd, rfl⟩⟩; refine ⟨_, rfl, ?_⟩) | (go_at_call 73; (with_reducible refine (export_counts.calls a1 true _ A7.out).mono ?_); rintro e w' ⟨rfl, ⟨nd, rfl⟩⟩) | (go_at_call 23; (with_reducible refine (export_Sorted.calls k _ _ l2 t151 _ ?side1 ?side2 A9.out).mono ?_); (case side1 => repeat (first | exact (Kd.C_below HR2.out (pB HB.out)) | (with_reducible refine Kd.C_alloc ?_ _) | (with_reducible refine Kd.C_drewN ?_ _) | (with_reducible refine Kd.C_drew ?_))); (case side2 => exact HC2.out); rintro e w10 ⟨rfl, hb⟩; have n0_ := Aside0.mk (below_step (pB HB.out) hb); clear HB; have HB := n0_; clear n0_; (try clear hb); (try clear hb2); (try clear hk); (try clear hi)))
    go_meet
    case rel => exact ⟨_, (!t151), (by first | rfl | (simp; done) | (simp [*]; done)), H', ⟨by first | omega | exact Nat.le_refl _⟩, ⟨by repeat (first | (with_reducible first | exact HB.out | apply below_alloc | apply pw_below_drewN | apply below_drew1) | exact HB.out)⟩⟩
   ·replace c8 := Bool.eq_false_iff.mpr c8
    subst c8
    have H1 : (export_Put.j0 k a0 a1 l2 true) = some (r1, r2) := by rw [if_neg (show ¬ (false = true) by decide)] at H; exact H
    clear H
    have H := H1
    clear H1
    have H' := Aside0.mk H
    clear H
    go_wp2_with (first | ((with_reducible refine gate_callee (f := 73) rfl ?_); refine goesL_ (some 18) rfl rfl Try.func73 (by kernel_rfl) rfl #[.int .i64 a0] rfl pL ?_; (with_reducible refine (export_counts.calls a0 true _ A5.out).mono ?_); rintro e w' ⟨rfl, ⟨nd, rfl⟩⟩; refine ⟨_, rfl, ?_⟩) | (go_at_call 73; (with_reducible refine (export_counts.calls a1 false _ A7.out).mono ?_); rintro e w' ⟨rfl, ⟨nd, rfl⟩⟩))
    go_meet
    case rel => exact ⟨_, (true), (by first | rfl | (simp; done) | (simp [*]; done)), H', ⟨by first | omega | exact Nat.le_refl _⟩, ⟨by repeat (first | (with_reducible first | exact HB.out | apply below_alloc | apply pw_below_drewN | apply below_drew1) | exact HB.out)⟩⟩
  ·replace c6 := Bool.eq_false_iff.mpr c6
   subst c6
   have H1 : (export_Put.j0 k a0 a1 l2 true) = some (r1, r2) := by rw [if_neg (show ¬ (false = true) by decide)] at H; exact H
   clear H
   have H := H1
   clear H1
   have H' := Aside0.mk H
   clear H
   go_wp2_with (first | ((with_reducible refine gate_callee (f := 73) rfl ?_); refine goesL_ (some 18) rfl rfl Try.func73 (by kernel_rfl) rfl #[.int .i64 a0] rfl pL ?_; (with_reducible refine (export_counts.calls a0 false _ A5.out).mono ?_); rintro e w' ⟨rfl, ⟨nd, rfl⟩⟩; refine ⟨_, rfl, ?_⟩))
   go_meet
   case rel => exact ⟨_, (true), (by first | rfl | (simp; done) | (simp [*]; done)), H', ⟨by first | omega | exact Nat.le_refl _⟩, ⟨by repeat (first | (with_reducible first | exact HB.out | apply below_alloc | apply pw_below_drewN | apply below_drew1) | exact HB.out)⟩⟩
 case rest =>
  clear HC4
  try clear c2
  try clear p2
  try clear c6
  try clear c7
  try clear c8
  obtain ⟨kq, x29_3, rfl, HA, HJ3, HB⟩ := hcut
  cases kq with
  | zero => exact absurd HA.out (by simp [export_Put.j0])
  | succ kj3 =>
   have H := HA.out
   clear HA
   simp only [export_Put.j0] at H
   by_cases c11 : x29_3 = true
   ·subst c11
    have H1 : (some (([] : List Int), 1)) = some (r1, r2) := by rw [if_pos rfl] at H; exact H
    clear H
    have H := H1
    clear H1
    simp only [Option.some.injEq, Prod.mk.injEq] at H
    obtain ⟨rfl, rfl⟩ := H
    go_wp2
    go_ret2
    exact ⟨_, by first | rfl | (simp [errW_none, errW_some] <;> rfl) | (simp [*, errW_none, errW_some] <;> rfl), by first | exact Kd.R_nil _ _ _ _ _ | exact Kd.N_nil _ _ _ _ _ | exact Kd.V_nil _ _ _ _ _ | exact Kd.Q_nil _ _ _ _ _ | exact Kd.S_nil _ _ _ _ _, by repeat (first | (with_reducible first | exact HB.out | apply below_alloc | apply pw_below_drewN | apply below_drew1) | exact HB.out)⟩
   ·replace c11 := Bool.eq_false_iff.mpr c11
    subst c11
    have H1 : ((varint_Put.f kj3 (([IntKind.u64.wrap (a0), IntKind.u64.wrap (a1), IntKind.u64.wrap ((l2.length : Int))] : List Int))).bind fun t155 => ((frame_Put.f kj3 (([(⟨21, t155⟩ : S83)] : List (S83)))).bind fun bt161 => (export_Put.l0 kj3 bt161.1 l2 (l2.length : Int) 0))) = some (r1, r2) := by rw [if_neg (show ¬ (false = true) by decide)] at H; exact H
    clear H
    have H := H1
    clear H1
    obtain ⟨y152, hy152⟩ : ∃ y_ : List Int, y_ = (([IntKind.u64.wrap (a0), IntKind.u64.wrap (a1), IntKind.u64.wrap ((l2.length : Int))] : List Int)) := ⟨_, rfl⟩
    replace H : ((varint_Put.f kj3 y152).bind fun t155 => ((frame_Put.f kj3 (([(⟨21, t155⟩ : S83)] : List (S83)))).bind fun bt161 => (export_Put.l0 kj3 bt161.1 l2 (l2.length : Int) 0))) = some (r1, r2) := by first | (rw [hy152]; with_reducible exact H) | (have H2_ := (Option.bind_some _ _).symm.trans H; rw [hy152]; with_reducible exact H2_) | (have H2_ := (Option.bind_some _ _).symm.trans H; with_reducible exact H2_) | with_reducible exact H | (rw [hy152]; exact H) | exact H
    have Ny152 := Aside0.mk hy152
    clear hy152
    replace H := Option.bind_eq_some_iff.mp H
    obtain ⟨t155, A120, H⟩ := H
    replace H : ((frame_Put.f kj3 (([(⟨21, t155⟩ : S83)] : List (S83)))).bind fun bt161 => (export_Put.l0 kj3 bt161.1 l2 (l2.length : Int) 0)) = some (r1, r2) := H
    have A12 := Aside0.mk A120
    clear A120
    obtain ⟨y158, hy158⟩ : ∃ y_ : List (S83), y_ = (([(⟨21, t155⟩ : S83)] : List (S83))) := ⟨_, rfl⟩
    replace H : ((frame_Put.f kj3 y158).bind fun bt161 => (export_Put.l0 kj3 bt161.1 l2 (l2.length : Int) 0)) = some (r1, r2) := by first | (rw [hy158]; with_reducible exact H) | (have H2_ := (Option.bind_some _ _).symm.trans H; rw [hy158]; with_reducible exact H2_) | (have H2_ := (Option.bind_some _ _).symm.trans H; with_reducible exact H2_) | with_reducible exact H | (rw [hy158]; exact H) | exact H
    have Ny158 := Aside0.mk hy158
    clear hy158
    replace H := Option.bind_eq_some_iff.mp H
    obtain ⟨⟨t161, t162⟩, A130, H⟩ := H
    replace H : (export_Put.l0 kj3 t161 l2 (l2.length : Int) 0) = some (r1, r2) := H
    have A13 := Aside0.mk A130
    clear A130
    have H' := Aside0.mk H
    clear H
    go_wp2_with (first | ((with_reducible refine gate_dst (N := 38) rfl ?_); refine Kd.R_lit (Kd.int .u64) _ 133 ?hg (N := 38) ?hd (xs := ([IntKind.u64.wrap (a0), IntKind.u64.wrap (a1), IntKind.u64.wrap ((l2.length : Int))] : List Int)) (inner := [.int .u64 (IntKind.u64.wrap (a0)), .int .u64 (IntKind.u64.wrap (a1)), .int .u64 (IntKind.u64.wrap ((l2.length : Int)))]) (ok := fun _ => True) (okp := fun _ => True) ?hr ?hp (fun _ hk => hk) trivial (Below.refl _ _) (Nat.le_refl _) (by simp) ?_; (case hd => rfl); (case hg => rfl); (case hr => first | (go_simp; done) | (go_simp; rfl)); (case hp => exact (Reps.one (show Kd.M (Kd.int .u64) _ _ _ (IntKind.u64.wrap (a0)) [.int .u64 (IntKind.u64.wrap (a0))] from rfl) (Reps.one (show Kd.M (Kd.int .u64) _ _ _ (IntKind.u64.wrap (a1)) [.int .u64 (IntKind.u64.wrap (a1))] from rfl) (Reps.one (show Kd.M (Kd.int .u64) _ _ _ (IntKind.u64.wrap ((l2.length : Int))) [.int .u64 (IntKind.u64.wrap ((l2.length : Int)))] from rfl) (Reps.none _ _))))); intro v153 w14 ho15 hb hg_ hnew_; clear hg_ hnew_; (first | rw [← Ny152.out] at ho15 | (simp only [Int.reduceToNat] at ho15; rw [← Ny152.out] at ho15)); have n0_ := Aside0.mk (Kd.R_lower ho15 (below_size (pB HB.out))); have n1_ := Aside0.mk (below_step (pB HB.out) hb); clear HB; have HO154 := n0_; have HB := n1_; clear n0_ n1_ hb ho15; obtain ⟨Ao16, co16, eo16⟩ := Kd.R_slice HO154.out; subst eo16) | ((with_reducible refine gate_callee (f := 75) rfl ?_); refine goesL_ (some 39) rfl rfl Try.func75 (by kernel_rfl) rfl #[.slice Ao16 y152.length co16] rfl pL ?_; (with_reducible refine (varint_Put.calls kj3 _ _ y152 t155 _ ?side1 ?side2 A12.out).mono ?_); (case side1 => exact pC (Kd.R_reads' HO154.out).2.2); (case side2 => exact (Kd.R_reads' HO154.out).2.1); rintro e w17 ⟨v156, rfl, ho0, hb⟩; refine ⟨_, rfl, ?_⟩; have n0_ := Aside0.mk (Kd.R_below (pR HO154.out) hb); have n1_ := Aside0.mk (Kd.R_lower ho0 (below_size (pB HB.out))); have n2_ := Aside0.mk (below_step (pB HB.out) hb); clear HO154 HB; have HO154 := n0_; have HO157 := n1_; have HB := n2_; clear n0_ n1_ n2_; (try clear hb); (try clear hb2); (try clear hk); (try clear hi); (try clear ho0); obtain ⟨Ao18, co18, eo18⟩ := Kd.R_slice HO157.out; subst eo18) | ((with_reducible refine gate_dst (N := 41) rfl ?_); refine Kd.N_lit k83 _ 83 ?hg (N' := 41) ?hd (xs := ([(⟨21, t155⟩ : S83)] : List (S83))) (inner := [.int .i64 21, .slice Ao18 t155.length co18]) (ok := (fun k_ => some k_ ≠ (.slice Ao16 y152.length co16 : Value).ownBlock)) (okp := (fun k_ => some k_ ≠ (.slice Ao16 y152.length co16 : Value).ownBlock)) ?hr ?hp (fun _ hk => hk) ((show ∀ k_, w17.heap.size ≤ k_ → (fun k_ => some k_ ≠ (.slice Ao16 y152.length co16 : Value).ownBlock) k_ from fun k_ hk => Kd.fresh' (Kd.R_lt (pR HO154.out)) k_ hk) _ (Nat.le_refl _)) (Below.refl _ _) (Nat.le_refl _) (by simp) ?_; (case hd => rfl); (case hg => rfl); (case hr => first | (go_simp; done) | (go_simp; rfl)); (case hp => exact (Reps.c2 (show Kd.FK k83 _ _ (⟨21, t155⟩ : S83) [.int .i64 21, .slice Ao18 t155.length co18] from (k83_mkF _ _ (⟨21, t155⟩ : S83) (Kd.R_reads' (Kd.R_mono (ok' := (fun k_ => some k_ ≠ (.slice Ao16 y152.length co16 : Value).ownBlock)) (Kd.R_apart' (HO157.out) (Kd.R_typed HO154.out) (by decide)) (fun k_ hk => hk.2))).2.1 (Kd.R_F (Kd.R_mono (ok' := (fun k_ => some k_ ≠ (.slice Ao16 y152.length co16 : Value).ownBlock)) (Kd.R_apart' (HO157.out) (Kd.R_typed HO154.out) (by decide)) (fun k_ hk => hk.2))))) (Reps.none _ _))); intro v159 w19 ho20 hb hg_ hnew_; clear hg_ hnew_; (first | rw [← Ny158.out] at ho20 | (simp only [Int.reduceToNat] at ho20; rw [← Ny158.out] at ho20)); have n0_ := Aside0.mk (Kd.R_below (pR HO154.out) hb); have n1_ := Aside0.mk (Kd.N_lower ho20 (below_size (pB HB.out))); have n2_ := Aside0.mk (below_step (pB HB.out) hb); clear HO154 HB HO157; have HO154 := n0_; have HO160 := n1_; have HB := n2_; clear n0_ n1_ n2_ hb ho20; obtain ⟨Ao21, co21, eo21⟩ := Kd.N_slice HO160.out; subst eo21) | ((with_reducible refine gate_callee (f := 74) rfl ?_); refine goesL_ (some 42) rfl rfl Try.func74 (by kernel_rfl) rfl #[.slice Ao21 y158.length co21] rfl pL ?_; (with_reducible refine (frame_Put.calls kj3 _ _ y158 t161 t162 _ ?side1 ?side2 A13.out).mono ?_); (case side1 => exact pC (Kd.N_reads' HO160.out).2.2); (case side2 => exact (Kd.N_reads' HO160.out).2.1); rintro e w22 ⟨v163, rfl, ho0, hb⟩; refine ⟨_, rfl, ?_⟩; have n0_ := Aside0.mk (Kd.R_below (pR HO154.out) hb); have n1_ := Aside0.mk (Kd.N_elder' (pN HO160.out) (Kd.R_base ho0) hb); have n2_ := Aside0.mk (Kd.R_lower ho0 (below_size (pB HB.out))); have n3_ := Aside0.mk (below_step (pB HB.out) hb); clear HO154 HO160 HB; have HO154 := n0_; have HO160 := n1_; have HO164 := n2_; have HB := n3_; clear n0_ n1_ n2_ n3_; (try clear hb); (try clear hb2); (try clear hk); (try clear hi); (try clear ho0)))
    go_loopg [8, 47] kj3 (fun kq v8 v47 w' => ∃ (x8_2 : List Int) (x47_2 : Int), v47 = .int .i64 x47_2 ∧ Aside0 (export_Put.l0 kq x8_2 l2 (l2.length : Int) x47_2 = some (r1, r2)) ∧ Aside0 (kq ≤ kj3) ∧ Aside0 (Kd.R (Kd.int .u8) 5 w' w.heap.size (fun _ => True) v8 x8_2) ∧ Aside0 (Below w.heap.size w w'))
    case atStart => exact ⟨(t161), (0), (by first | rfl | (simp; done) | (simp [*]; done)), H', ⟨Nat.le_refl _⟩, ⟨by (with_reducible repeat (first | apply Kd.R_alloc | apply Kd.R_drewN | apply Kd.R_drew)); exact HO164.out⟩, ⟨by repeat (first | (with_reducible first | exact HB.out | apply below_alloc | apply pw_below_drewN | apply below_drew1) | exact HB.out)⟩⟩
    case round =>
     clear H'
     try clear c1
     try clear c2
     try clear p2
     try clear c6
     try clear c7
     try clear c8
     try clear c11
     try clear c21
     try clear p2
     obtain ⟨x8_2, x47_2, rfl, HA, HK2, HO_8, HB⟩ := hrel
     cases gk with
     | zero => exact absurd HA.out (by simp [export_Put.l0])
     | succ k2 =>
      have H := HA.out
      clear HA
      simp only [export_Put.l0] at H
      by_cases c23 : x47_2 < (l2.length : Int)
      ·rw [if_pos c23] at H
       have c23b0 : decide (x47_2 < (l2.length : Int)) = true := decide_eq_true c23
       clear c23
       by_cases c24 : 0 ≤ x47_2
       ·rw [if_pos c24] at H
        have c24b0 : decide (0 ≤ x47_2) = true := decide_eq_true c24
        clear c24
        by_cases c25 : x47_2 < (l2.length : Int)
        ·rw [if_pos c25] at H
         have c25b0 : decide (x47_2 < (l2.length : Int)) = true := decide_eq_true c25
         clear c25
         obtain ⟨y167, hy167⟩ : ∃ y_ : List Int, y_ = (([IntKind.u64.wrap ((((rd_T135 l2 x47_2).f0).size : Int))] : List Int)) := ⟨_, rfl⟩
         replace H : ((varint_Put.f k2 y167).bind fun t170 => (if t170.length + ((rd_T135 l2 x47_2).f0).size < 140737488355328 then ((some (t170 ++ bytesOf ((rd_T135 l2 x47_2).f0) : List Int)).bind fun y173 => (if y173.length + ((rd_T135 l2 x47_2).f1).length < 140737488355328 then ((frame_Put.f k2 (([(⟨22, (y173 ++ ((rd_T135 l2 x47_2).f1))⟩ : S83)] : List (S83)))).bind fun bt182 => (if x8_2.length + bt182.1.length < 140737488355328 then (export_Put.l0 k2 (x8_2 ++ bt182.1) l2 (l2.length : Int) (wrap64 (x47_2 + 1))) else (none))) else (none))) else (none))) = some (r1, r2) := by first | (rw [hy167]; with_reducible exact H) | (have H2_ := (Option.bind_some _ _).symm.trans H; rw [hy167]; with_reducible exact H2_) | (have H2_ := (Option.bind_some _ _).symm.trans H; with_reducible exact H2_) | with_reducible exact H | (rw [hy167]; exact H) | exact H
         have Ny167 := Aside0.mk hy167
         clear hy167
         replace H := Option.bind_eq_some_iff.mp H
         obtain ⟨t170, A260, H⟩ := H
         replace H : (if t170.length + ((rd_T135 l2 x47_2).f0).size < 140737488355328 then ((some (t170 ++ bytesOf ((rd_T135 l2 x47_2).f0) : List Int)).bind fun y173 => (if y173.length + ((rd_T135 l2 x47_2).f1).length < 140737488355328 then ((frame_Put.f k2 (([(⟨22, (y173 ++ ((rd_T135 l2 x47_2).f1))⟩ : S83)] : List (S83)))).bind fun bt182 => (if x8_2.length + bt182.1.length < 140737488355328 then (export_Put.l0 k2 (x8_2 ++ bt182.1) l2 (l2.length : Int) (wrap64 (x47_2 + 1))) else (none))) else (none))) else (none)) = some (r1, r2) := H
         have A26 := Aside0.mk A260
         clear A260
         by_cases c27 : t170.length + ((rd_T135 l2 x47_2).f0).size < 140737488355328
         ·rw [if_pos c27] at H
          have LMc27 := Aside0.mk c27
          clear c27
          obtain ⟨y173, hy173⟩ : ∃ y_ : List Int, y_ = (t170 ++ bytesOf ((rd_T135 l2 x47_2).f0)) := ⟨_, rfl⟩
          replace H : (if y173.length + ((rd_T135 l2 x47_2).f1).length < 140737488355328 then ((frame_Put.f k2 (([(⟨22, (y173 ++ ((rd_T135 l2 x47_2).f1))⟩ : S83)] : List (S83)))).bind fun bt182 => (if x8_2.length + bt182.1.length < 140737488355328 then (export_Put.l0 k2 (x8_2 ++ bt182.1) l2 (l2.length : Int) (wrap64 (x47_2 + 1))) else (none))) else (none)) = some (r1, r2) := by first | (rw [hy173]; with_reducible exact H) | (have H2_ := (Option.bind_some _ _).symm.trans H; rw [hy173]; with_reducible exact H2_) | (have H2_ := (Option.bind_some _ _).symm.trans H; with_reducible exact H2_) | with_reducible exact H | (rw [hy173]; exact H) | exact H
          have Ny173 := Aside0.mk hy173
          clear hy173
          by_cases c28 : y173.length + ((rd_T135 l2 x47_2).f1).length < 140737488355328
          ·rw [if_pos c28] at H
           have LMc28 := Aside0.mk c28
           clear c28
           obtain ⟨y176, hy176⟩ : ∃ y_ : List Int, y_ = (y173 ++ ((rd_T135 l2 x47_2).f1)) := ⟨_, rfl⟩
           replace H : ((frame_Put.f k2 (([(⟨22, y176⟩ : S83)] : List (S83)))).bind fun bt182 => (if x8_2.length + bt182.1.length < 140737488355328 then (export_Put.l0 k2 (x8_2 ++ bt182.1) l2 (l2.length : Int) (wrap64 (x47_2 + 1))) else (none))) = some (r1, r2) := by first | (rw [hy176]; with_reducible exact H) | (have H2_ := (Option.bind_some _ _).symm.trans H; rw [hy176]; with_reducible exact H2_) | (have H2_ := (Option.bind_some _ _).symm.trans H; with_reducible exact H2_) | with_reducible exact H | (rw [hy176]; exact H) | exact H
           have Ny176 := Aside0.mk hy176
           clear hy176
           obtain ⟨y179, hy179⟩ : ∃ y_ : List (S83), y_ = (([(⟨22, y176⟩ : S83)] : List (S83))) := ⟨_, rfl⟩
           replace H : ((frame_Put.f k2 y179).bind fun bt182 => (if x8_2.length + bt182.1.length < 140737488355328 then (export_Put.l0 k2 (x8_2 ++ bt182.1) l2 (l2.length : Int) (wrap64 (x47_2 + 1))) else (none))) = some (r1, r2) := by first | (rw [hy179]; with_reducible exact H) | (have H2_ := (Option.bind_some _ _).symm.trans H; rw [hy179]; with_reducible exact H2_) | (have H2_ := (Option.bind_some _ _).symm.trans H; with_reducible exact H2_) | with_reducible exact H | (rw [hy179]; exact H) | exact H
           have Ny179 := Aside0.mk hy179
           clear hy179
           replace H := Option.bind_eq_some_iff.mp H
           obtain ⟨⟨t182, t183⟩, A290, H⟩ := H
           replace H : (if x8_2.length + t182.length < 140737488355328 then (export_Put.l0 k2 (x8_2 ++ t182) l2 (l2.length : Int) (wrap64 (x47_2 + 1))) else (none)) = some (r1, r2) := H
           have A29 := Aside0.mk A290
           clear A290
           by_cases c30 : x8_2.length + t182.length < 140737488355328
           ·rw [if_pos c30] at H
            have LMc30 := Aside0.mk c30
            clear c30
            obtain ⟨y186, hy186⟩ : ∃ y_ : List Int, y_ = (x8_2 ++ t182) := ⟨_, rfl⟩
            replace H : (export_Put.l0 k2 y186 l2 (l2.length : Int) (wrap64 (x47_2 + 1))) = some (r1, r2) := by first | (rw [hy186]; with_reducible exact H) | (have H2_ := (Option.bind_some _ _).symm.trans H; rw [hy186]; with_reducible exact H2_) | (have H2_ := (Option.bind_some _ _).symm.trans H; with_reducible exact H2_) | with_reducible exact H | (rw [hy186]; exact H) | exact H
            have Ny186 := Aside0.mk hy186
            clear hy186
            have H' := Aside0.mk H
            clear H
            have p165 : 0 ≤ (x47_2 : Int) := of_decide_eq_true pS
            have q165 : x47_2 < (l2.length : Int) := of_decide_eq_true pS
            obtain ⟨ad165, A165_1, c165_1, e165, hx165_0, hx165_1, hl165_1, hi165_1⟩ := at_T135 HR2.out x47_2 p165 q165
            cases e165
            replace hx165_0 := (HB.out.cell (World.block_lt_of_cell? w _ hx165_0)).trans hx165_0
            replace hx165_1 := (HB.out.cell (World.block_lt_of_cell? w _ hx165_1)).trans hx165_1
            have HR165_1 := Aside0.mk hi165_1
            have HC165_1 := Aside0.mk hl165_1
            clear hi165_1 hl165_1
            replace p165 := eq_true p165
            replace q165 := eq_true q165
            try go_wp2_with (first | ((with_reducible refine gate_dst (N := 11) rfl ?_); refine box_event ?hg (N := 11) ?hd (cs := #[.string (⟨#[]⟩ : ByteArray), .slice none 0 0]) (t := 135) ?hr ?_; (case hd => rfl); (case hg => rfl); (case hr => first | (go_simp; done) | (go_simp; rfl)); intro gb166 hg w31 hbox hb; have n0_ := Aside0.mk (Kd.R_below (pR HO_8.out) hb); have n1_ := Aside0.mk (below_step (pB HB.out) hb); have n2_ := Aside0.mk (hbox); have n3_ := Aside0.mk ((by rw [hg]; exact (below_size (pB HB.out)) : w.heap.size ≤ gb166)); have n4_ := Aside0.mk ((by rw [hg]; exact (below_size (pB HB.out)) : w.heap.size ≤ gb166)); clear HO_8 HB; have HO_8 := n0_; have HB := n1_; have BK166 := n2_; have GW166 := n3_; have GE166 := n4_; clear n0_ n1_ n2_ n3_ n4_ hb hbox hg; have hcz32_0 : w31.cell? ⟨gb166, 0, none⟩ = some (.string (⟨#[]⟩ : ByteArray)) := (blk_cell BK166.out 0).trans rfl; have hcz32_1 : w31.cell? ⟨gb166, 1, none⟩ = some (.slice none 0 0) := (blk_cell BK166.out 1).trans rfl; have hfz32_0 := blk_frozen BK166.out 0; have hfz32_1 := blk_frozen BK166.out 1))
            have n0_ : Aside0 (Kd.R (Kd.int .u8) 5 ((w31.setCell ⟨gb166, 0, none⟩ (.string ((rd_T135 l2 x47_2).f0))).setCell ⟨gb166, 1, none⟩ (.slice A165_1 ((rd_T135 l2 x47_2).f1).length c165_1)) w.heap.size (fun _ => True) u8 x8_2) := ⟨by (with_reducible repeat (first | apply Kd.R_alloc | apply Kd.R_drewN | apply Kd.R_drew)); exact Kd.R_mono (Kd.R_far (p := ⟨gb166, 1, none⟩) (Kd.R_far (p := ⟨gb166, 0, none⟩) (Kd.R_types HO_8.out BK166.out (by decide)) (fun _ hk => hk.2) (.string ((rd_T135 l2 x47_2).f0))) (fun _ hk => hk.2) (.slice A165_1 ((rd_T135 l2 x47_2).f1).length c165_1)) (fun _ hk => trivial)⟩
            have n1_ : Aside0 (((w31.setCell ⟨gb166, 0, none⟩ (.string ((rd_T135 l2 x47_2).f0))).setCell ⟨gb166, 1, none⟩ (.slice A165_1 ((rd_T135 l2 x47_2).f1).length c165_1)).heap[gb166]? = some (.cells #[.string ((rd_T135 l2 x47_2).f0), .slice A165_1 ((rd_T135 l2 x47_2).f1).length c165_1] 135 (0, 0))) := ⟨by (with_reducible repeat (first | refine blk_drewN ?_ _ | refine blk_drew ?_ | refine blk_alloc ?_ _)); refine blk_put (cs := #[.string ((rd_T135 l2 x47_2).f0), .slice none 0 0]) ?_ 1 _ rfl; (with_reducible repeat (first | refine blk_drewN ?_ _ | refine blk_drew ?_ | refine blk_alloc ?_ _)); refine blk_put (cs := #[.string (⟨#[]⟩ : ByteArray), .slice none 0 0]) ?_ 0 _ rfl; (with_reducible repeat (first | refine blk_drewN ?_ _ | refine blk_drew ?_ | refine blk_alloc ?_ _)); exact BK166.out⟩
            have n2_ : Aside0 (Below w.heap.size w ((w31.setCell ⟨gb166, 0, none⟩ (.string ((rd_T135 l2 x47_2).f0))).setCell ⟨gb166, 1, none⟩ (.slice A165_1 ((rd_T135 l2 x47_2).f1).length c165_1))) := ⟨by repeat (first | (with_reducible first | exact HB.out | apply below_alloc | apply pw_below_drewN | apply below_drew1 | refine below_set ?_ GE166.out) | exact HB.out)⟩
            (try clear HO_8)
            (try clear BK166)
            (try clear HB)
            generalize ((w31.setCell ⟨gb166, 0, none⟩ (.string ((rd_T135 l2 x47_2).f0))).setCell ⟨gb166, 1, none⟩ (.slice A165_1 ((rd_T135 l2 x47_2).f1).length c165_1)) = w33 at n0_ n1_ n2_ ⊢
            have HO_8 := n0_
            have BK166 := n1_
            have HB := n2_
            clear n0_ n1_ n2_
            have n0_ := Aside0.mk (Kd.R_drew HO_8.out)
            have n1_ := Aside0.mk (blk_drew BK166.out)
            have n2_ := Aside0.mk (below_drew1 HB.out)
            clear HO_8
            clear BK166
            clear HB
            have HO_8 := n0_
            have BK166 := n1_
            have HB := n2_
            clear n0_ n1_ n2_
            refine start_ (n := 10) (S := fun w' => w'.cell? ⟨gb166, 0, none⟩ = some (.string ((rd_T135 l2 x47_2).f0)) ∧ w'.cell? ⟨gb166, 1, none⟩ = some (.slice A165_1 ((rd_T135 l2 x47_2).f1).length c165_1)) (ds := []) #[false, false, false, false, false, false, false, false, false, false] (by kernel_rfl) rfl rfl ⟨(blk_cell BK166.out 0).trans rfl, (blk_cell BK166.out 1).trans rfl⟩ (fun hHeld => ?_); refine with_tabW export_Put.tab7 export_Put.bits7 (fun HT_ HW_ => ?_)
            generalize w33.drew = w34 at HO_8 BK166 HB hHeld ⊢
            refine pure_ (i := 0) (N := some 51) (v := ?_) (a' := ?_) #[true, false, false, false, false, false, false, false, false, false] rfl rfl (any_of HT_.out (by kernel_rfl)) (fun _ _ _ h => h) (Or.inl ⟨by rfl, ?_⟩) ?_ ?_
            rotate_left
            ·intro w'
             go_simp
             with_reducible rfl
            rotate_left
            ·simp only [Act.put, List.setIfInBounds_toArray, List.set_cons_zero, List.set_cons_succ, i64_w, i32_w]
             rfl
            refine pure_ (i := 6) (N := some 57) (v := ?_) (a' := ?_) #[true, false, false, false, false, false, true, false, false, false] rfl rfl (any_of HT_.out (by kernel_rfl)) (fun _ _ _ h => h) (Or.inl ⟨by rfl, ?_⟩) ?_ ?_
            rotate_left
            ·intro w'
             go_simp
             with_reducible rfl
            rotate_left
            ·simp only [Act.put, List.setIfInBounds_toArray, List.set_cons_zero, List.set_cons_succ, i64_w, i32_w]
             rfl
            refine take_ (i := 1) (N := some 52) (v := ?_) (a' := ?_) #[true, true, false, false, false, false, true, false, false, false] rfl rfl (take_ofW HT_.out HW_.out (by kernel_rfl)) (fun _ _ _ h => h) (Or.inl ⟨by rfl, ?_⟩) hHeld ?_ ?_
            rotate_left
            ·rintro w' ⟨s0, s1⟩
             go_simp
             with_reducible rfl
            rotate_left
            ·simp only [Act.put, List.setIfInBounds_toArray, List.set_cons_zero, List.set_cons_succ, i64_w, i32_w]
             rfl
            refine pure_ (i := 2) (N := some 53) (v := ?_) (a' := ?_) #[true, true, true, false, false, false, true, false, false, false] rfl rfl (any_of HT_.out (by kernel_rfl)) (fun _ _ _ h => h) (Or.inl ⟨by rfl, ?_⟩) ?_ ?_
            rotate_left
            ·intro w'
             go_simp
             with_reducible rfl
            rotate_left
            ·simp only [Act.put, List.setIfInBounds_toArray, List.set_cons_zero, List.set_cons_succ, i64_w, i32_w]
             rfl
            refine pure_ (i := 3) (N := some 54) (v := ?_) (a' := ?_) #[true, true, true, true, false, false, true, false, false, false] rfl rfl (any_of HT_.out (by kernel_rfl)) (fun _ _ _ h => h) (Or.inl ⟨by rfl, ?_⟩) ?_ ?_
            rotate_left
            ·intro w'
             go_simp
             with_reducible rfl
            rotate_left
            ·simp only [Act.put, List.setIfInBounds_toArray, List.set_cons_zero, List.set_cons_succ, i64_w, i32_w]
             rfl
            refine take_ (i := 7) (N := some 58) (v := ?_) (a' := ?_) #[true, true, true, true, false, false, true, true, false, false] rfl rfl (take_ofW HT_.out HW_.out (by kernel_rfl)) (fun _ _ _ h => h) (Or.inl ⟨by rfl, ?_⟩) hHeld ?_ ?_
            rotate_left
            ·rintro w' ⟨s0, s1⟩
             go_simp
             with_reducible rfl
            rotate_left
            ·simp only [Act.put, List.setIfInBounds_toArray, List.set_cons_zero, List.set_cons_succ, i64_w, i32_w]
             rfl
            refine one_ (i := 4) (N := some 55) #[true, true, true, true, true, false, true, true, false, false] rfl rfl (one_of HT_.out (by kernel_rfl)) (by decide) (fun K hK => ?_)
            refine Kd.R_lit_step (Kd.int .u64) _ 133 ?hg (N := 55) ?hd (xs := ([IntKind.u64.wrap ((((rd_T135 l2 x47_2).f0).size : Int))] : List Int)) (inner := [.int .u64 (IntKind.u64.wrap ((((rd_T135 l2 x47_2).f0).size : Int)))]) (ok := fun _ => True) (okp := fun _ => True) ?hr ?hp (fun _ hk => hk) trivial (Below.refl _ _) (Nat.le_refl _) (by simp) ?_; (case hd => rfl); (case hg => rfl); (case hr => first | (go_simp; done) | (go_simp; rfl)); (case hp => exact (Reps.one (show Kd.M (Kd.int .u64) _ _ _ (IntKind.u64.wrap ((((rd_T135 l2 x47_2).f0).size : Int))) [.int .u64 (IntKind.u64.wrap ((((rd_T135 l2 x47_2).f0).size : Int)))] from rfl) (Reps.none _ _)))
            intro v168 w35 ho36 hb hg_ hnew_
            clear hg_ hnew_
            (first | rw [← Ny167.out] at ho36 | (simp only [Int.reduceToNat] at ho36; rw [← Ny167.out] at ho36))
            have n0_ := Aside0.mk (Kd.R_below (pR HO_8.out) hb)
            have n1_ := Aside0.mk (Kd.R_lower ho36 (below_size (pE HB.out GE166.out)))
            have n2_ := Aside0.mk (blk_below (g := gb166) (o := .cells #[.string ((rd_T135 l2 x47_2).f0), .slice A165_1 ((rd_T135 l2 x47_2).f1).length c165_1] 135 (0, 0)) (pK BK166.out) hb)
            have n3_ := Aside0.mk (below_step (pE HB.out GE166.out) hb)
            clear HO_8
            clear BK166
            clear HB
            have HO_8 := n0_
            have HO169 := n1_
            have BK166 := n2_
            have HB := n3_
            clear n0_ n1_ n2_ n3_
            clear hb ho36
            obtain ⟨Ao37, co37, eo37⟩ := Kd.R_slice HO169.out
            (first | subst eo37 | (injection eo37 with f1_ f2_ f3_; have f4_ := f1_.symm; have f5_ := f3_.symm; clear f1_ f2_ f3_; subst f4_; subst f5_))
            refine hK.out _ _ ⟨(blk_cell BK166.out 0).trans rfl, (blk_cell BK166.out 1).trans rfl⟩ (fun hHeld => ?_)
            clear hK K
            refine norm_ (a' := ?_) ?_ ?_
            rotate_left
            ·show Act.put _ (some 55) _ = _
             simp only [Act.put, List.setIfInBounds_toArray, List.set_cons_zero, List.set_cons_succ, i64_w, i32_w]
             rfl
            refine one_ (i := 5) (N := some 56) #[true, true, true, true, true, true, true, true, false, false] rfl rfl (one_of HT_.out (by kernel_rfl)) (by decide) (fun K hK => ?_)
            refine goes_ Try.func75 (by kernel_rfl) rfl #[.slice Ao37 y167.length co37] (by rfl) rfl rfl pL ?_
            with_reducible refine (varint_Put.calls k2 _ _ y167 t170 _ ?side1 ?side2 A26.out).mono ?_
            (case side1 => exact pC (Kd.R_reads' HO169.out).2.2)
            (case side2 => exact (Kd.R_reads' HO169.out).2.1)
            rintro e w38 ⟨v171, rfl, ho0, hb⟩
            refine ⟨_, rfl, ?_⟩
            have n0_ := Aside0.mk (Kd.R_elder' (pR HO_8.out) (Kd.R_base ho0) hb)
            have n1_ := Aside0.mk (Kd.R_below (pR HO169.out) hb)
            have n2_ := Aside0.mk (Kd.R_lower (Kd.R_new' ho0 (Kd.R_lt (pR HO_8.out))) (below_size (pE HB.out GE166.out)))
            have n3_ := Aside0.mk (blk_below (g := gb166) (o := .cells #[.string ((rd_T135 l2 x47_2).f0), .slice A165_1 ((rd_T135 l2 x47_2).f1).length c165_1] 135 (0, 0)) (pK BK166.out) hb)
            have n4_ := Aside0.mk (below_step (pE HB.out GE166.out) hb)
            clear HO_8
            clear HO169
            clear BK166
            clear HB
            have HO_8 := n0_
            have HO169 := n1_
            have HO172 := n2_
            have BK166 := n3_
            have HB := n4_
            clear n0_ n1_ n2_ n3_ n4_
            (try clear hb)
            (try clear hb2)
            (try clear hk)
            (try clear hi)
            (try clear ho0)
            refine hK.out _ _ ⟨(blk_cell BK166.out 0).trans rfl, (blk_cell BK166.out 1).trans rfl⟩ (fun hHeld => ?_)
            clear hK K
            refine norm_ (a' := ?_) ?_ ?_
            rotate_left
            ·show Act.put _ (some 56) _ = _
             simp only [Act.put, List.setIfInBounds_toArray, List.set_cons_zero, List.set_cons_succ, i64_w, i32_w]
             rfl
            refine one_ (i := 8) (N := some 59) #[true, true, true, true, true, true, true, true, true, false] rfl rfl (one_of HT_.out (by kernel_rfl)) (by decide) (fun K hK => ?_)
            refine R_append_str_step (w0 := w) w.heap.size (by rfl) (.tmp 56) _ 22 9 5 rfl Try.underlying22 Try.underlying9 info5 v171 t170 ((rd_T135 l2 x47_2).f0) (fun k_ => some k_ ≠ (u8 : Value).ownBlock) rfl rfl ?aO ?aF ?aB ?aS ?aL ?_
            (case aB => exact (pE HB.out GE166.out))
            (case aF => exact (fun k_ hk => Kd.fresh' (Kd.R_lt (pR HO_8.out)) k_ hk))
            (case aO => exact (by (with_reducible repeat (first | apply Kd.R_alloc | apply Kd.R_drewN | apply Kd.R_drew)); exact Kd.R_mono HO172.out (fun _ hk => hk.2)))
            (case aS => exact (below_size (pE HB.out GE166.out)))
            (case aL => have := LMc27.out; omega)
            intro v174 w39 ho hb hg hat
            rw [← Ny173.out] at ho
            have n0_ := Aside0.mk (Kd.R_after (ok := (fun _ => True)) (pR HO_8.out) hg hat)
            have n1_ := Aside0.mk (blk_grown (g := gb166) (o := .cells #[.string ((rd_T135 l2 x47_2).f0), .slice A165_1 ((rd_T135 l2 x47_2).f1).length c165_1] 135 (0, 0)) (pK BK166.out) hg (Kd.R_ne HO172.out BK166.out (by decide)))
            have n2_ := Aside0.mk (Kd.R_over' (pR HO169.out) (Kd.R_typed (pR HO172.out)) (by decide) hg)
            have n3_ := Aside0.mk (hb)
            have n4_ := Aside0.mk (ho)
            clear HO_8
            clear BK166
            clear HO169
            clear HB
            clear HO172
            have HO_8 := n0_
            have BK166 := n1_
            have HO169 := n2_
            have HB := n3_
            have HO175 := n4_
            clear n0_ n1_ n2_ n3_ n4_
            clear ho hb hg hat
            refine hK.out _ _ ⟨(blk_cell BK166.out 0).trans rfl, (blk_cell BK166.out 1).trans rfl⟩ (fun hHeld => ?_)
            clear hK K
            refine norm_ (a' := ?_) ?_ ?_
            rotate_left
            ·show Act.put _ (some 59) _ = _
             simp only [Act.put, List.setIfInBounds_toArray, List.set_cons_zero, List.set_cons_succ, i64_w, i32_w]
             rfl
            refine pure_ (i := 9) (N := some 12) (v := ?_) (a' := ?_) #[true, true, true, true, true, true, true, true, true, true] rfl rfl (any_of HT_.out (by kernel_rfl)) (fun _ _ _ h => h) (Or.inl ⟨by rfl, ?_⟩) ?_ ?_
            rotate_left
            ·intro w'
             go_simp
             with_reducible rfl
            rotate_left
            ·simp only [Act.put, List.setIfInBounds_toArray, List.set_cons_zero, List.set_cons_succ, i64_w, i32_w]
             rfl
            refine done_ (done_of HT_.out (by kernel_rfl)) ?_
            have hcz40_0 : w39.cell? ⟨gb166, 0, none⟩ = some (.string ((rd_T135 l2 x47_2).f0)) := (blk_cell BK166.out 0).trans rfl
            have hcz40_1 : w39.cell? ⟨gb166, 1, none⟩ = some (.slice A165_1 ((rd_T135 l2 x47_2).f1).length c165_1) := (blk_cell BK166.out 1).trans rfl
            have hfz40_0 := blk_frozen BK166.out 0
            have hfz40_1 := blk_frozen BK166.out 1
            try go_wp2_with (first | ((with_reducible refine gate_builtin (b := .append) (xs := #[.tmp 61, .tmp 63]) rfl ?_); at_builtin; refine Kd.R_append_rows (Kd.int .u8) (w0 := w) w.heap.size rfl (.tmp 61) (.tmp 63) 22 5 (.int .u8 0) 1 rfl Try.underlying22 info5 rfl (by decide) (by omega) v174 y173 ((rd_T135 l2 x47_2).f1) _ _ _ (fun k_ => some k_ ≠ (u8 : Value).ownBlock) (fun _ => False) rfl rfl ?aO ?aR (fun _ _ h => h) (fun _ h => h.elim) ?aF ?aB ?aS ?aL ?_; (case aR => exact pC (Kd.C_below HR165_1.out HB.out)); (case aB => exact (pE HB.out GE166.out)); (case aF => exact (fun k_ hk => Kd.fresh' (Kd.R_lt (pR HO_8.out)) k_ hk)); (case aO => exact (pR HO175.out)); (case aS => exact (below_size (pE HB.out GE166.out))); (case aL => have := LMc28.out; omega); intro v177 w41 ho hb hg hat; rw [← Ny176.out] at ho; have n0_ := Aside0.mk (Kd.R_after (ok := (fun _ => True)) (pR HO_8.out) hg hat); have n1_ := Aside0.mk (blk_grown (g := gb166) (o := .cells #[.string ((rd_T135 l2 x47_2).f0), .slice A165_1 ((rd_T135 l2 x47_2).f1).length c165_1] 135 (0, 0)) (pK BK166.out) hg (Kd.R_ne HO175.out BK166.out (by decide))); have n2_ := Aside0.mk (Kd.R_over' (pR HO169.out) (Kd.R_typed (pR HO175.out)) (by decide) hg); have n3_ := Aside0.mk (hb); have n4_ := Aside0.mk (ho); clear HO_8 BK166 HO169 HB HO175; have HO_8 := n0_; have BK166 := n1_; have HO169 := n2_; have HB := n3_; have HO178 := n4_; clear n0_ n1_ n2_ n3_ n4_ ho hb hg hat; obtain ⟨Ao42, co42, eo42⟩ := Kd.R_slice HO178.out; subst eo42) | ((with_reducible refine gate_dst (N := 66) rfl ?_); refine Kd.N_lit k83 _ 83 ?hg (N' := 66) ?hd (xs := ([(⟨22, y176⟩ : S83)] : List (S83))) (inner := [.int .i64 22, .slice Ao42 y176.length co42]) (ok := (fun k_ => some k_ ≠ (u8 : Value).ownBlock ∧ some k_ ≠ (.slice Ao37 y167.length co37 : Value).ownBlock ∧ k_ ≠ gb166)) (okp := (fun k_ => some k_ ≠ (u8 : Value).ownBlock ∧ some k_ ≠ (.slice Ao37 y167.length co37 : Value).ownBlock ∧ k_ ≠ gb166)) ?hr ?hp (fun _ hk => hk) ((show ∀ k_, w41.heap.size ≤ k_ → (fun k_ => some k_ ≠ (u8 : Value).ownBlock ∧ some k_ ≠ (.slice Ao37 y167.length co37 : Value).ownBlock ∧ k_ ≠ gb166) k_ from fun k_ hk => ⟨Kd.fresh' (Kd.R_lt (pR HO_8.out)) k_ hk, Kd.fresh' (Kd.R_lt (pR HO169.out)) k_ hk, Kd.freshB (g := gb166) (o := .cells #[.string ((rd_T135 l2 x47_2).f0), .slice A165_1 ((rd_T135 l2 x47_2).f1).length c165_1] 135 (0, 0)) (pK BK166.out) k_ hk⟩) _ (Nat.le_refl _)) (Below.refl _ _) (Nat.le_refl _) (by simp) ?_; (case hd => rfl); (case hg => rfl); (case hr => first | (go_simp; done) | (go_simp; rfl)); (case hp => exact (Reps.c2 (show Kd.FK k83 _ _ (⟨22, y176⟩ : S83) [.int .i64 22, .slice Ao42 y176.length co42] from (k83_mkF _ _ (⟨22, y176⟩ : S83) (Kd.R_reads' (Kd.R_mono (ok' := (fun k_ => some k_ ≠ (u8 : Value).ownBlock ∧ some k_ ≠ (.slice Ao37 y167.length co37 : Value).ownBlock ∧ k_ ≠ gb166)) (Kd.R_types (Kd.R_apart' (HO178.out) (Kd.R_typed HO169.out) (by decide)) BK166.out (by decide)) (fun k_ hk => ⟨hk.1.1, ⟨hk.1.2, hk.2⟩⟩))).2.1 (Kd.R_F (Kd.R_mono (ok' := (fun k_ => some k_ ≠ (u8 : Value).ownBlock ∧ some k_ ≠ (.slice Ao37 y167.length co37 : Value).ownBlock ∧ k_ ≠ gb166)) (Kd.R_types (Kd.R_apart' (HO178.out) (Kd.R_typed HO169.out) (by decide)) BK166.out (by decide)) (fun k_ hk => ⟨hk.1.1, ⟨hk.1.2, hk.2⟩⟩))))) (Reps.none _ _))); intro v180 w43 ho44 hb hg_ hnew_; clear hg_ hnew_; (first | rw [← Ny179.out] at ho44 | (simp only [Int.reduceToNat] at ho44; rw [← Ny179.out] at ho44)); have n0_ := Aside0.mk (Kd.R_below (pR HO_8.out) hb); have n1_ := Aside0.mk (Kd.R_below (pR HO169.out) hb); have n2_ := Aside0.mk (Kd.N_lower ho44 (below_size (pE HB.out GE166.out))); have n3_ := Aside0.mk (blk_below (g := gb166) (o := .cells #[.string ((rd_T135 l2 x47_2).f0), .slice A165_1 ((rd_T135 l2 x47_2).f1).length c165_1] 135 (0, 0)) (pK BK166.out) hb); have n4_ := Aside0.mk (below_step (pE HB.out GE166.out) hb); clear HO_8 HO169 BK166 HB HO178; have HO_8 := n0_; have HO169 := n1_; have HO181 := n2_; have BK166 := n3_; have HB := n4_; clear n0_ n1_ n2_ n3_ n4_ hb ho44; obtain ⟨Ao45, co45, eo45⟩ := Kd.N_slice HO181.out; subst eo45) | ((with_reducible refine gate_callee (f := 74) rfl ?_); refine goesL_ (some 67) rfl rfl Try.func74 (by kernel_rfl) rfl #[.slice Ao45 y179.length co45] rfl pL ?_; (with_reducible refine (frame_Put.calls k2 _ _ y179 t182 t183 _ ?side1 ?side2 A29.out).mono ?_); (case side1 => exact pC (Kd.N_reads' HO181.out).2.2); (case side2 => exact (Kd.N_reads' HO181.out).2.1); rintro e w46 ⟨v184, rfl, ho0, hb⟩; refine ⟨_, rfl, ?_⟩; have n0_ := Aside0.mk (Kd.R_elder' (pR HO_8.out) (Kd.R_base ho0) hb); have n1_ := Aside0.mk (Kd.R_below (pR HO169.out) hb); have n2_ := Aside0.mk (Kd.N_elder' (pN HO181.out) (Kd.R_base ho0) hb); have n3_ := Aside0.mk (Kd.R_lower (Kd.R_new' ho0 (Kd.R_lt (pR HO_8.out))) (below_size (pE HB.out GE166.out))); have n4_ := Aside0.mk (blk_below (g := gb166) (o := .cells #[.string ((rd_T135 l2 x47_2).f0), .slice A165_1 ((rd_T135 l2 x47_2).f1).length c165_1] 135 (0, 0)) (pK BK166.out) hb); have n5_ := Aside0.mk (below_step (pE HB.out GE166.out) hb); clear HO_8 HO169 HO181 BK166 HB; have HO_8 := n0_; have HO169 := n1_; have HO181 := n2_; have HO185 := n3_; have BK166 := n4_; have HB := n5_; clear n0_ n1_ n2_ n3_ n4_ n5_; (try clear hb); (try clear hb2); (try clear hk); (try clear hi); (try clear ho0); obtain ⟨Ao48, co48, eo48⟩ := Kd.R_slice HO185.out; subst eo48) | ((with_reducible refine gate_builtin (b := .append) (xs := #[.tmp 70, .tmp 71]) rfl ?_); at_builtin; refine Kd.R_append_rows (Kd.int .u8) (w0 := w) w.heap.size rfl (.tmp 70) (.tmp 71) 22 5 (.int .u8 0) 1 rfl Try.underlying22 info5 rfl (by decide) (by omega) u8 x8_2 t182 _ _ _ (fun k_ => some k_ ≠ (.slice Ao48 t182.length co48 : Value).ownBlock) (fun _ => False) rfl rfl ?aO ?aR (fun _ _ h => h) (fun _ h => h.elim) ?aF ?aB ?aS ?aL ?_; (case aR => exact pC (Kd.R_reads' HO185.out).2.2); (case aB => exact (pE HB.out GE166.out)); (case aF => exact (fun k_ hk => Kd.fresh' (Kd.R_lt (pR HO185.out)) k_ hk)); (case aO => exact (by (with_reducible repeat (first | apply Kd.R_alloc | apply Kd.R_drewN | apply Kd.R_drew)); exact Kd.R_mono HO_8.out (fun _ hk => hk.2))); (case aS => exact (below_size (pE HB.out GE166.out))); (case aL => have := LMc30.out; omega); intro v187 w47 ho hb hg hat; rw [← Ny186.out] at ho; have n0_ := Aside0.mk (blk_grown (g := gb166) (o := .cells #[.string ((rd_T135 l2 x47_2).f0), .slice A165_1 ((rd_T135 l2 x47_2).f1).length c165_1] 135 (0, 0)) (pK BK166.out) hg (Kd.R_ne HO_8.out BK166.out (by decide))); have n1_ := Aside0.mk (Kd.R_over' (pR HO169.out) (Kd.R_typed (pR HO_8.out)) (by decide) hg); have n2_ := Aside0.mk (Kd.N_afterv (ok := (fun k_ => some k_ ≠ (.slice Ao37 y167.length co37 : Value).ownBlock ∧ some k_ ≠ (.slice Ao48 t182.length co48 : Value).ownBlock ∧ k_ ≠ gb166)) (by (with_reducible repeat (first | apply Kd.N_alloc | apply Kd.N_drewN | apply Kd.N_drew)); exact Kd.N_mono HO181.out (fun _ hk => ⟨⟨hk.1.2.1, ⟨hk.2, hk.1.2.2⟩⟩, hk.1.1⟩)) hg hat); have n3_ := Aside0.mk (Kd.R_after (ok := (fun _ => True)) (pR HO185.out) hg hat); have n4_ := Aside0.mk (hb); have n5_ := Aside0.mk (ho); clear BK166 HO169 HO181 HO185 HB HO_8; have BK166 := n0_; have HO169 := n1_; have HO181 := n2_; have HO185 := n3_; have HB := n4_; have HO188 := n5_; clear n0_ n1_ n2_ n3_ n4_ n5_ ho hb hg hat))
            go_roundg k2
            case measure => have := HJ3.out; have := HK2.out; omega
            case rel => exact ⟨(y186), (wrap64 (x47_2 + 1)), (by first | rfl | (simp; done) | (simp [*]; done)), H', ⟨by have := HJ3.out; have := HK2.out; omega⟩, ⟨by (with_reducible repeat (first | apply Kd.R_alloc | apply Kd.R_drewN | apply Kd.R_drew)); exact Kd.R_mono HO188.out (fun _ hk => trivial)⟩, ⟨by repeat (first | (with_reducible first | exact HB.out | apply below_alloc | apply pw_below_drewN | apply below_drew1 | refine below_set ?_ GE166.out) | exact HB.out)⟩⟩
           ·rw [if_neg c30] at H
            exact absurd H (by simp)
          ·rw [if_neg c28] at H
           exact absurd H (by simp)
         ·rw [if_neg c27] at H
          exact absurd H (by simp)
        ·rw [if_neg c25] at H
         exact absurd H (by simp)
       ·rw [if_neg c24] at H
        exact absurd H (by simp)
      ·rw [if_neg c23] at H
       have c23b0 : decide (x47_2 < (l2.length : Int)) = false := decide_eq_false c23
       clear c23
       replace H := Option.bind_eq_some_iff.mp H
       obtain ⟨t189, A490, H⟩ := H
       replace H : ((export_foot.f t189).bind fun t190 => ((frame_Put.f k2 (([(⟨23, t190⟩ : S83)] : List (S83)))).bind fun bt196 => (if x8_2.length + bt196.1.length < 140737488355328 then (some ((x8_2 ++ bt196.1), 0)) else (none)))) = some (r1, r2) := H
       have A49 := Aside0.mk A490
       clear A490
       replace H := Option.bind_eq_some_iff.mp H
       obtain ⟨t190, A500, H⟩ := H
       replace H : ((frame_Put.f k2 (([(⟨23, t190⟩ : S83)] : List (S83)))).bind fun bt196 => (if x8_2.length + bt196.1.length < 140737488355328 then (some ((x8_2 ++ bt196.1), 0)) else (none))) = some (r1, r2) := H
       have A50 := Aside0.mk A500
       clear A500
       obtain ⟨y193, hy193⟩ : ∃ y_ : List (S83), y_ = (([(⟨23, t190⟩ : S83)] : List (S83))) := ⟨_, rfl⟩
       replace H : ((frame_Put.f k2 y193).bind fun bt196 => (if x8_2.length + bt196.1.length < 140737488355328 then (some ((x8_2 ++ bt196.1), 0)) else (none))) = some (r1, r2) := by first | (rw [hy193]; with_reducible exact H) | (have H2_ := (Option.bind_some _ _).symm.trans H; rw [hy193]; with_reducible exact H2_) | (have H2_ := (Option.bind_some _ _).symm.trans H; with_reducible exact H2_) | with_reducible exact H | (rw [hy193]; exact H) | exact H
       have Ny193 := Aside0.mk hy193
       clear hy193
       replace H := Option.bind_eq_some_iff.mp H
       obtain ⟨⟨t196, t197⟩, A510, H⟩ := H
       replace H : (if x8_2.length + t196.length < 140737488355328 then (some ((x8_2 ++ t196), 0)) else (none)) = some (r1, r2) := H
       have A51 := Aside0.mk A510
       clear A510
       by_cases c52 : x8_2.length + t196.length < 140737488355328
       ·rw [if_pos c52] at H
        have LMc52 := Aside0.mk c52
        clear c52
        obtain ⟨y200, hy200⟩ : ∃ y_ : List Int, y_ = (x8_2 ++ t196) := ⟨_, rfl⟩
        replace H : (some (y200, 0)) = some (r1, r2) := by first | (rw [hy200]; with_reducible exact H) | (have H2_ := (Option.bind_some _ _).symm.trans H; rw [hy200]; with_reducible exact H2_) | (have H2_ := (Option.bind_some _ _).symm.trans H; with_reducible exact H2_) | with_reducible exact H | (rw [hy200]; exact H) | exact H
        have Ny200 := Aside0.mk hy200
        clear hy200
        simp only [Option.some.injEq, Prod.mk.injEq] at H
        obtain ⟨rfl, rfl⟩ := H
        obtain ⟨Ao53, co53, eo53⟩ := Kd.R_slice HO_8.out
        subst eo53
        go_wp2_with (first | ((with_reducible refine gate_callee (f := 77) rfl ?_); refine goesL_ (some 76) rfl rfl Try.func77 (by kernel_rfl) rfl #[.slice Ao53 x8_2.length co53] rfl pL ?_; (with_reducible refine (crc_Of.calls k2 _ _ x8_2 t189 _ ?side1 ?side2 A49.out).mono ?_); (case side1 => exact pC (Kd.R_reads' HO_8.out).2.2); (case side2 => exact (Kd.R_reads' HO_8.out).2.1); rintro e w' ⟨rfl, ⟨nd, rfl⟩⟩; refine ⟨_, rfl, ?_⟩) | ((with_reducible refine gate_callee (f := 76) rfl ?_); refine goesL_ (some 77) rfl rfl Try.func76 (by kernel_rfl) rfl #[.int .u32 t189] rfl pL ?_; (with_reducible refine (export_foot.calls t189 t190 _ A50.out).mono ?_); rintro e w54 ⟨v191, rfl, ho0, hb⟩; refine ⟨_, rfl, ?_⟩; have n0_ := Aside0.mk (Kd.R_elder' (pR HO_8.out) (Kd.R_base ho0) hb); have n1_ := Aside0.mk (Kd.R_lower (Kd.R_new' ho0 (Kd.R_lt (pR HO_8.out))) (below_size (pB HB.out))); have n2_ := Aside0.mk (below_step (pB HB.out) hb); clear HO_8 HB; have HO_8 := n0_; have HO192 := n1_; have HB := n2_; clear n0_ n1_ n2_; (try clear hb); (try clear hb2); (try clear hk); (try clear hi); (try clear ho0); obtain ⟨Ao55, co55, eo55⟩ := Kd.R_slice HO192.out; subst eo55) | ((with_reducible refine gate_dst (N := 79) rfl ?_); refine Kd.N_lit k83 _ 83 ?hg (N' := 79) ?hd (xs := ([(⟨23, t190⟩ : S83)] : List (S83))) (inner := [.int .i64 23, .slice Ao55 t190.length co55]) (ok := (fun k_ => some k_ ≠ (.slice Ao53 x8_2.length co53 : Value).ownBlock)) (okp := (fun k_ => some k_ ≠ (.slice Ao53 x8_2.length co53 : Value).ownBlock)) ?hr ?hp (fun _ hk => hk) ((show ∀ k_, w54.heap.size ≤ k_ → (fun k_ => some k_ ≠ (.slice Ao53 x8_2.length co53 : Value).ownBlock) k_ from fun k_ hk => Kd.fresh' (Kd.R_lt (pR HO_8.out)) k_ hk) _ (Nat.le_refl _)) (Below.refl _ _) (Nat.le_refl _) (by simp) ?_; (case hd => rfl); (case hg => rfl); (case hr => first | (go_simp; done) | (go_simp; rfl)); (case hp => exact (Reps.c2 (show Kd.FK k83 _ _ (⟨23, t190⟩ : S83) [.int .i64 23, .slice Ao55 t190.length co55] from (k83_mkF _ _ (⟨23, t190⟩ : S83) (Kd.R_reads' (Kd.R_mono (ok' := (fun k_ => some k_ ≠ (.slice Ao53 x8_2.length co53 : Value).ownBlock)) (HO192.out) (fun k_ hk => hk.2))).2.1 (Kd.R_F (Kd.R_mono (ok' := (fun k_ => some k_ ≠ (.slice Ao53 x8_2.length co53 : Value).ownBlock)) (HO192.out) (fun k_ hk => hk.2))))) (Reps.none _ _))); intro v194 w56 ho57 hb hg_ hnew_; clear hg_ hnew_; (first | rw [← Ny193.out] at ho57 | (simp only [Int.reduceToNat] at ho57; rw [← Ny193.out] at ho57)); have n0_ := Aside0.mk (Kd.R_below (pR HO_8.out) hb); have n1_ := Aside0.mk (Kd.N_lower ho57 (below_size (pB HB.out))); have n2_ := Aside0.mk (below_step (pB HB.out) hb); clear HO_8 HB HO192; have HO_8 := n0_; have HO195 := n1_; have HB := n2_; clear n0_ n1_ n2_ hb ho57; obtain ⟨Ao58, co58, eo58⟩ := Kd.N_slice HO195.out; subst eo58) | ((with_reducible refine gate_callee (f := 74) rfl ?_); refine goesL_ (some 80) rfl rfl Try.func74 (by kernel_rfl) rfl #[.slice Ao58 y193.length co58] rfl pL ?_; (with_reducible refine (frame_Put.calls k2 _ _ y193 t196 t197 _ ?side1 ?side2 A51.out).mono ?_); (case side1 => exact pC (Kd.N_reads' HO195.out).2.2); (case side2 => exact (Kd.N_reads' HO195.out).2.1); rintro e w59 ⟨v198, rfl, ho0, hb⟩; refine ⟨_, rfl, ?_⟩; have n0_ := Aside0.mk (Kd.R_elder' (pR HO_8.out) (Kd.R_base ho0) hb); have n1_ := Aside0.mk (Kd.N_elder' (pN HO195.out) (Kd.R_base ho0) hb); have n2_ := Aside0.mk (Kd.R_lower (Kd.R_new' ho0 (Kd.R_lt (pR HO_8.out))) (below_size (pB HB.out))); have n3_ := Aside0.mk (below_step (pB HB.out) hb); clear HO_8 HO195 HB; have HO_8 := n0_; have HO195 := n1_; have HO199 := n2_; have HB := n3_; clear n0_ n1_ n2_ n3_; (try clear hb); (try clear hb2); (try clear hk); (try clear hi); (try clear ho0); obtain ⟨Ao61, co61, eo61⟩ := Kd.R_slice HO199.out; subst eo61) | ((with_reducible refine gate_builtin (b := .append) (xs := #[.tmp 83, .tmp 84]) rfl ?_); at_builtin; refine Kd.R_append_rows (Kd.int .u8) (w0 := w) w.heap.size rfl (.tmp 83) (.tmp 84) 22 5 (.int .u8 0) 1 rfl Try.underlying22 info5 rfl (by decide) (by omega) (.slice Ao53 x8_2.length co53) x8_2 t196 _ _ _ (fun k_ => some k_ ≠ (.slice Ao61 t196.length co61 : Value).ownBlock) (fun _ => False) rfl rfl ?aO ?aR (fun _ _ h => h) (fun _ h => h.elim) ?aF ?aB ?aS ?aL ?_; (case aR => exact pC (Kd.R_reads' HO199.out).2.2); (case aB => exact (pB HB.out)); (case aF => exact (fun k_ hk => Kd.fresh' (Kd.R_lt (pR HO199.out)) k_ hk)); (case aO => exact (by (with_reducible repeat (first | apply Kd.R_alloc | apply Kd.R_drewN | apply Kd.R_drew)); exact Kd.R_mono HO_8.out (fun _ hk => hk.2))); (case aS => exact (below_size (pB HB.out))); (case aL => have := LMc52.out; omega); intro v201 w60 ho hb hg hat; rw [← Ny200.out] at ho; have n0_ := Aside0.mk (Kd.N_afterv (ok := (fun k_ => some k_ ≠ (.slice Ao61 t196.length co61 : Value).ownBlock)) (by (with_reducible repeat (first | apply Kd.N_alloc | apply Kd.N_drewN | apply Kd.N_drew)); exact Kd.N_mono HO195.out (fun _ hk => ⟨hk.2, hk.1⟩)) hg hat); have n1_ := Aside0.mk (Kd.R_after (ok := (fun _ => True)) (pR HO199.out) hg hat); have n2_ := Aside0.mk (hb); have n3_ := Aside0.mk (ho); clear HO195 HO199 HB HO_8; have HO195 := n0_; have HO199 := n1_; have HB := n2_; have HO202 := n3_; clear n0_ n1_ n2_ n3_ ho hb hg hat))
        go_ret2
        exact ⟨_, by first | rfl | (simp [errW_none, errW_some] <;> rfl) | (simp [*, errW_none, errW_some] <;> rfl), by (with_reducible repeat (first | apply Kd.R_alloc | apply Kd.R_drewN | apply Kd.R_drew)); exact Kd.R_mono HO202.out (fun _ hk => trivial), by repeat (first | (with_reducible first | exact HB.out | apply below_alloc | apply pw_below_drewN | apply below_drew1) | exact HB.out)⟩
       ·rw [if_neg c52] at H
        exact absurd H (by simp)
end Go.Proofs.Ytapamplgajkjlaa.PExportPuts
