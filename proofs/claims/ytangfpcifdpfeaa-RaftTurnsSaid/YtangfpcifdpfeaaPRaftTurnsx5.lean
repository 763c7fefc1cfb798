/- What the law reaches, as plain Lean functions, and that the machine's calls answer just that. -/
import Derived.Test.YtangfpcifdpfeaaPRaftTurnsx0
import Derived.Test.YtangfpcifdpfeaaPRaftTurnsx3
import Derived.Test.YtangfpcifdpfeaaPRaftTurnsx4
namespace Go.Proofs.Ytangfpcifdpfeaa.PRaftTurns
open Go.RowKit Go.Proofs.YtangfpcifdpfeaaW.PrintWords Go.Proofs.YtangfpcifdpfeaaW.PrintLast Go.Proofs.YtangfpcifdpfeaaW.PrintMore
attribute [local go_sem] max2_int min2_int max_two min_two max_three min_three max_four min_four
set_option linter.unusedVariables false
set_option linter.unusedSimpArgs false
attribute [local go_sem] wrap64_l1 wrap64_l2 wrap64_l3 wrap64_l4 wrap64_l5
mutual
def raft_Check.j0 : Nat → Bool → Int → Int → List (S55) → Int → Int → Int → Int → Option (Int)
 | 0, _, _, _, _, _, _, _, _ => none
 | k + 1, x39, x116000, x116001, x116002, x116003, x116004, x116005, x116006 => if x39 = true then (some 1) else (if (x116002.length : Int) > 0 then (if 0 < (x116002.length : Int) then (if ((rd_T55 x116002 0).f0) = (wrap64 (x116000 + 1)) then (raft_Check.j1 k (decide (((rd_T55 x116002 0).f1) < x116001)) x116000 x116001 x116002 x116003 x116004 x116005 x116006) else (raft_Check.j1 k true x116000 x116001 x116002 x116003 x116004 x116005 x116006)) else (none)) else (raft_Check.j1 k false x116000 x116001 x116002 x116003 x116004 x116005 x116006))
def raft_Check.j1 : Nat → Bool → Int → Int → List (S55) → Int → Int → Int → Int → Option (Int)
 | 0, _, _, _, _, _, _, _, _ => none
 | k + 1, x64, x116000, x116001, x116002, x116003, x116004, x116005, x116006 => if x64 = true then (some 1) else (if x116006 < x116000 then (some 1) else (if x116006 > x116005 then (some 1) else (if x116005 > (wrap64 (x116000 + (x116002.length : Int))) then (some 1) else (some 0))))
end
def raft_Check.f (k : Nat) (a0_0 : Int) (a0_1 : Int) (l0_2 : List (S55)) (a0_3 : Int) (a0_4 : Int) (a0_5 : Int) (a0_6 : Int) : Option (Int) := if a0_0 = 0 then (if a0_1 = 0 then (if (l0_2.length : Int) > 1000 then (raft_Check.j0 k true a0_0 a0_1 l0_2 a0_3 a0_4 a0_5 a0_6) else ((raft_rows.f k l0_2).bind fun t116 => (if t116 = true then ((hard_Check.f a0_3 a0_4 a0_5).bind fun t117 => (raft_Check.j0 k (t117 != 0) a0_0 a0_1 l0_2 a0_3 a0_4 a0_5 a0_6)) else (raft_Check.j0 k true a0_0 a0_1 l0_2 a0_3 a0_4 a0_5 a0_6)))) else ((raft_counts.f a0_0).bind fun t118 => (if t118 = true then ((raft_counts.f a0_1).bind fun t119 => (if t119 = true then (if (l0_2.length : Int) > 1000 then (raft_Check.j0 k true a0_0 a0_1 l0_2 a0_3 a0_4 a0_5 a0_6) else ((raft_rows.f k l0_2).bind fun t120 => (if t120 = true then ((hard_Check.f a0_3 a0_4 a0_5).bind fun t121 => (raft_Check.j0 k (t121 != 0) a0_0 a0_1 l0_2 a0_3 a0_4 a0_5 a0_6)) else (raft_Check.j0 k true a0_0 a0_1 l0_2 a0_3 a0_4 a0_5 a0_6)))) else (raft_Check.j0 k true a0_0 a0_1 l0_2 a0_3 a0_4 a0_5 a0_6))) else (raft_Check.j0 k true a0_0 a0_1 l0_2 a0_3 a0_4 a0_5 a0_6)))) else ((raft_counts.f a0_0).bind fun t122 => (if t122 = true then ((raft_counts.f a0_1).bind fun t123 => (if t123 = true then (if (l0_2.length : Int) > 1000 then (raft_Check.j0 k true a0_0 a0_1 l0_2 a0_3 a0_4 a0_5 a0_6) else ((raft_rows.f k l0_2).bind fun t124 => (if t124 = true then ((hard_Check.f a0_3 a0_4 a0_5).bind fun t125 => (raft_Check.j0 k (t125 != 0) a0_0 a0_1 l0_2 a0_3 a0_4 a0_5 a0_6)) else (raft_Check.j0 k true a0_0 a0_1 l0_2 a0_3 a0_4 a0_5 a0_6)))) else (raft_Check.j0 k true a0_0 a0_1 l0_2 a0_3 a0_4 a0_5 a0_6))) else (raft_Check.j0 k true a0_0 a0_1 l0_2 a0_3 a0_4 a0_5 a0_6)))
theorem raft_Check.mono_l : ∀ k, (∀ y0 y1 y2 y3 y4 y5 y6 y7, LeO (raft_Check.j0 k y0 y1 y2 y3 y4 y5 y6 y7) (raft_Check.j0 (k + 1) y0 y1 y2 y3 y4 y5 y6 y7)) ∧ (∀ y0 y1 y2 y3 y4 y5 y6 y7, LeO (raft_Check.j1 k y0 y1 y2 y3 y4 y5 y6 y7) (raft_Check.j1 (k + 1) y0 y1 y2 y3 y4 y5 y6 y7))
 | 0 => ⟨fun _ _ _ _ _ _ _ _ r h => by simp [raft_Check.j0] at h, fun _ _ _ _ _ _ _ _ r h => by simp [raft_Check.j1] at h⟩
 | k + 1 => by
  obtain ⟨ih0, ih1⟩ := raft_Check.mono_l k
  refine ⟨?_, ?_⟩
  ·intro y0 y1 y2 y3 y4 y5 y6 y7
   unfold raft_Check.j0
   repeat' first
   | (with_reducible exact ih0 _ _ _ _ _ _ _ _)
   | (with_reducible exact ih1 _ _ _ _ _ _ _ _)
   | (with_reducible exact raft_rows.mono _ _)
   | (with_reducible exact LeO.refl _)
   | (with_reducible exact LeO.none _)
   | (with_reducible refine LeO.ite ?_ ?_)
   | (with_reducible refine LeO.bind ?_ (fun _ => ?_))
   | exact ih0 _ _ _ _ _ _ _ _
   | exact ih1 _ _ _ _ _ _ _ _
   | exact raft_rows.mono _ _
   | exact LeO.none _
   | refine LeO.ite ?_ ?_
   | refine LeO.bind ?_ (fun _ => ?_)
  ·intro y0 y1 y2 y3 y4 y5 y6 y7
   unfold raft_Check.j1
   repeat' first
   | (with_reducible exact ih0 _ _ _ _ _ _ _ _)
   | (with_reducible exact ih1 _ _ _ _ _ _ _ _)
   | (with_reducible exact raft_rows.mono _ _)
   | (with_reducible exact LeO.refl _)
   | (with_reducible exact LeO.none _)
   | (with_reducible refine LeO.ite ?_ ?_)
   | (with_reducible refine LeO.bind ?_ (fun _ => ?_))
   | exact ih0 _ _ _ _ _ _ _ _
   | exact ih1 _ _ _ _ _ _ _ _
   | exact raft_rows.mono _ _
   | exact LeO.none _
   | refine LeO.ite ?_ ?_
   | refine LeO.bind ?_ (fun _ => ?_)
theorem raft_Check.mono : ∀ a0 a1 a2 a3 a4 a5 a6 k, LeO (raft_Check.f k a0 a1 a2 a3 a4 a5 a6) (raft_Check.f (k + 1) a0 a1 a2 a3 a4 a5 a6) := by
 intro a0 a1 a2 a3 a4 a5 a6 k
 obtain ⟨ih0, ih1⟩ := raft_Check.mono_l k
 unfold raft_Check.f
 repeat' first
   | (with_reducible exact ih0 _ _ _ _ _ _ _ _)
   | (with_reducible exact ih1 _ _ _ _ _ _ _ _)
   | (with_reducible exact raft_rows.mono _ _)
   | (with_reducible exact LeO.refl _)
   | (with_reducible exact LeO.none _)
   | (with_reducible refine LeO.ite ?_ ?_)
   | (with_reducible refine LeO.bind ?_ (fun _ => ?_))
   | exact ih0 _ _ _ _ _ _ _ _
   | exact ih1 _ _ _ _ _ _ _ _
   | exact raft_rows.mono _ _
   | exact LeO.none _
   | refine LeO.ite ?_ ?_
   | refine LeO.bind ?_ (fun _ => ?_)
set_option maxHeartbeats 8000000 in
set_option maxRecDepth 100000 in
theorem raft_Check.calls (k : Nat) (a0_0 : Int) (a0_1 : Int) (A0_2 : Option Addr) (c0_2 : Nat) (l0_2 : List (S55)) (a0_3 : Int) (a0_4 : Int) (a0_5 : Int) (a0_6 : Int) (r : Int) (w : World) (hr0_2 : Kd.C k55 w A0_2 l0_2.length l0_2) (hc0_2 : l0_2.length ≤ c0_2) (h : raft_Check.f k a0_0 a0_1 l0_2 a0_3 a0_4 a0_5 a0_6 = some r) :
  Calls Try.prog 21 #[.agg #[.int .i64 a0_0, .int .i64 a0_1, .slice A0_2 l0_2.length c0_2, .int .i64 a0_3, .int .i64 a0_4, .int .i64 a0_5, .int .i64 a0_6]] w fun e w' => e = .returned (.int .i64 r) ∧ Below w.heap.size w w' := by
 have hu26 := Try.underlying26
 have hu24 := Try.underlying24
 have Ae := Am hr0_2
 have Af := Am hc0_2
 clear hr0_2 hc0_2
 have HB := Am (Below.refl w.heap.size w)
 have H : (if a0_0 = 0 then (if a0_1 = 0 then (if (l0_2.length : Int) > 1000 then (raft_Check.j0 k true a0_0 a0_1 l0_2 a0_3 a0_4 a0_5 a0_6) else ((raft_rows.f k l0_2).bind fun t116 => (if t116 = true then ((hard_Check.f a0_3 a0_4 a0_5).bind fun t117 => (raft_Check.j0 k (t117 != 0) a0_0 a0_1 l0_2 a0_3 a0_4 a0_5 a0_6)) else (raft_Check.j0 k true a0_0 a0_1 l0_2 a0_3 a0_4 a0_5 a0_6)))) else ((raft_counts.f a0_0).bind fun t118 => (if t118 = true then ((raft_counts.f a0_1).bind fun t119 => (if t119 = true then (if (l0_2.length : Int) > 1000 then (raft_Check.j0 k true a0_0 a0_1 l0_2 a0_3 a0_4 a0_5 a0_6) else ((raft_rows.f k l0_2).bind fun t120 => (if t120 = true then ((hard_Check.f a0_3 a0_4 a0_5).bind fun t121 => (raft_Check.j0 k (t121 != 0) a0_0 a0_1 l0_2 a0_3 a0_4 a0_5 a0_6)) else (raft_Check.j0 k true a0_0 a0_1 l0_2 a0_3 a0_4 a0_5 a0_6)))) else (raft_Check.j0 k true a0_0 a0_1 l0_2 a0_3 a0_4 a0_5 a0_6))) else (raft_Check.j0 k true a0_0 a0_1 l0_2 a0_3 a0_4 a0_5 a0_6)))) else ((raft_counts.f a0_0).bind fun t122 => (if t122 = true then ((raft_counts.f a0_1).bind fun t123 => (if t123 = true then (if (l0_2.length : Int) > 1000 then (raft_Check.j0 k true a0_0 a0_1 l0_2 a0_3 a0_4 a0_5 a0_6) else ((raft_rows.f k l0_2).bind fun t124 => (if t124 = true then ((hard_Check.f a0_3 a0_4 a0_5).bind fun t125 => (raft_Check.j0 k (t125 != 0) a0_0 a0_1 l0_2 a0_3 a0_4 a0_5 a0_6)) else (raft_Check.j0 k true a0_0 a0_1 l0_2 a0_3 a0_4 a0_5 a0_6)))) else (raft_Check.j0 k true a0_0 a0_1 l0_2 a0_3 a0_4 a0_5 a0_6))) else (raft_Check.j0 k true a0_0 a0_1 l0_2 a0_3 a0_4 a0_5 a0_6)))) = some r := h
 clear h
 have HC2 := Am H
 clear H
 go_enter Try.func21, Try.ntmps21
 go_upto_region 1 with (first | ((with_reducible refine gate_dst (N := 1) rfl ?_); (try (refine gate_guard (by rfl) ?_; dsimp only)); refine box_event ?hg (N := 1) ?hd (cs := #[.int .i64 a0_0, .int .i64 a0_1, .slice A0_2 l0_2.length c0_2, .int .i64 a0_3, .int .i64 a0_4, .int .i64 a0_5, .int .i64 a0_6]) (t := 26) ?hr ?_; (case hd => rfl); (case hg => rfl); (case hr => first | (go_simp; done) | (go_simp; rfl)); intro Bq hg w3 hbox hb; have Aa := Am (hbox); have Bt := Am ((by rw [hg]; exact (below_size (pB HB.out)) : w.heap.size ≤ Bq)); replace HB := Am (below_step (pB HB.out) hb); have Ab := Bt; clear hb hbox hg))
 repeat (go_quiet (first | ((with_reducible refine gate_dst (N := 1) rfl ?_); (try (refine gate_guard (by rfl) ?_; dsimp only)); refine box_event ?hg (N := 1) ?hd (cs := #[.int .i64 a0_0, .int .i64 a0_1, .slice A0_2 l0_2.length c0_2, .int .i64 a0_3, .int .i64 a0_4, .int .i64 a0_5, .int .i64 a0_6]) (t := 26) ?hr ?_; (case hd => rfl); (case hg => rfl); (case hr => first | (go_simp; done) | (go_simp; rfl)); intro Bq hg w3 hbox hb; have Aa := Am (hbox); have Bt := Am ((by rw [hg]; exact (below_size (pB HB.out)) : w.heap.size ≤ Bq)); replace HB := Am (below_step (pB HB.out) hb); have Ab := Bt; clear hb hbox hg)); go_upto_region 1 with (first | ((with_reducible refine gate_dst (N := 1) rfl ?_); (try (refine gate_guard (by rfl) ?_; dsimp only)); refine box_event ?hg (N := 1) ?hd (cs := #[.int .i64 a0_0, .int .i64 a0_1, .slice A0_2 l0_2.length c0_2, .int .i64 a0_3, .int .i64 a0_4, .int .i64 a0_5, .int .i64 a0_6]) (t := 26) ?hr ?_; (case hd => rfl); (case hg => rfl); (case hr => first | (go_simp; done) | (go_simp; rfl)); intro Bq hg w3 hbox hb; have Aa := Am (hbox); have Bt := Am ((by rw [hg]; exact (below_size (pB HB.out)) : w.heap.size ≤ Bq)); replace HB := Am (below_step (pB HB.out) hb); have Ab := Bt; clear hb hbox hg)))
 (try simp only [Act.put, List.setIfInBounds_toArray, List.set_cons_zero, List.set_cons_succ])
 go_cut [39] (fun v39 wc => ∃ (kq : Nat) (Bu : Bool), v39 = .bool Bu ∧ Aside0 (raft_Check.j0 kq Bu a0_0 a0_1 l0_2 a0_3 a0_4 a0_5 a0_6 = some r) ∧ Aside0 (kq ≤ k) ∧ Aside0 (wc.heap[Bq]? = some (.cells #[.int .i64 a0_0, .int .i64 a0_1, (.slice A0_2 l0_2.length c0_2), .int .i64 a0_3, .int .i64 a0_4, .int .i64 a0_5, .int .i64 a0_6] 26 (0, 0))) ∧ Aside0 (Below w.heap.size w wc))
 case first =>
  have H := HC2.out
  clear HC2
  by_cases c4 : a0_0 = 0
  rotate_left
  ·rw [if_neg c4] at H
   have c4b0 : (a0_0 == 0) = false := beq_eq_false_iff_ne.mpr c4
   have c4b1 : (a0_0 != 0) = true := bne_iff_ne.mpr c4
   (first | rw [c4b0] | (simp only [i64_w, i32_w]; rw [c4b0]) | skip)
   replace H := Option.bind_eq_some_iff.mp H
   obtain ⟨t122, A340, H⟩ := H
   replace H : (if t122 = true then ((raft_counts.f a0_1).bind fun t123 => (if t123 = true then (if (l0_2.length : Int) > 1000 then (raft_Check.j0 k true a0_0 a0_1 l0_2 a0_3 a0_4 a0_5 a0_6) else ((raft_rows.f k l0_2).bind fun t124 => (if t124 = true then ((hard_Check.f a0_3 a0_4 a0_5).bind fun t125 => (raft_Check.j0 k (t125 != 0) a0_0 a0_1 l0_2 a0_3 a0_4 a0_5 a0_6)) else (raft_Check.j0 k true a0_0 a0_1 l0_2 a0_3 a0_4 a0_5 a0_6)))) else (raft_Check.j0 k true a0_0 a0_1 l0_2 a0_3 a0_4 a0_5 a0_6))) else (raft_Check.j0 k true a0_0 a0_1 l0_2 a0_3 a0_4 a0_5 a0_6)) = some r := H
   have A34 := Am A340
   clear A340
   by_cases c35 : t122 = true
   rotate_left
   ·replace c35 := Bool.eq_false_iff.mpr c35
    subst c35
    have H1 : (raft_Check.j0 k true a0_0 a0_1 l0_2 a0_3 a0_4 a0_5 a0_6) = some r := by rw [if_neg (show ¬ (false = true) by decide)] at H; exact H
    clear H
    have H := H1
    clear H1
    have H' := Am H
    clear H
    obtain ⟨F7, F8, F9, Ga, Gb, Gc, Gd⟩ := bc7 Aa.out
    obtain ⟨Ge, Gf, Gg, Gh, Gi, Gj, Gk⟩ := bf7 Aa.out
    go_wp2_with (first | (go_at_call 24; (with_reducible refine (raft_counts.calls a0_0 false _ A34.out).mono ?_); rintro e w' ⟨rfl, ⟨nd, rfl⟩⟩; (try first | exact ⟨rfl, _, World.drewN_drewN _ _ _⟩ | exact ⟨rfl, _, Eq.trans (World.drewN_drewN _ _ _) (congrArg (World.drewN _) (Nat.add_assoc _ _ _))⟩)))
    repeat (go_quiet (first | (go_at_call 24; (with_reducible refine (raft_counts.calls a0_0 false _ A34.out).mono ?_); rintro e w' ⟨rfl, ⟨nd, rfl⟩⟩; (try first | exact ⟨rfl, _, World.drewN_drewN _ _ _⟩ | exact ⟨rfl, _, Eq.trans (World.drewN_drewN _ _ _) (congrArg (World.drewN _) (Nat.add_assoc _ _ _))⟩))); try go_wp2_with (first | (go_at_call 24; (with_reducible refine (raft_counts.calls a0_0 false _ A34.out).mono ?_); rintro e w' ⟨rfl, ⟨nd, rfl⟩⟩; (try first | exact ⟨rfl, _, World.drewN_drewN _ _ _⟩ | exact ⟨rfl, _, Eq.trans (World.drewN_drewN _ _ _) (congrArg (World.drewN _) (Nat.add_assoc _ _ _))⟩))))
    go_meet
    case rel => exact ⟨_, (true), (by first | rfl | (simp; done) | (simp [*]; done)), H', ⟨by first | omega | exact Nat.le_refl _⟩, ⟨pK Aa.out⟩, ⟨pE HB.out Ab.out⟩⟩
   subst c35
   have H1 : ((raft_counts.f a0_1).bind fun t123 => (if t123 = true then (if (l0_2.length : Int) > 1000 then (raft_Check.j0 k true a0_0 a0_1 l0_2 a0_3 a0_4 a0_5 a0_6) else ((raft_rows.f k l0_2).bind fun t124 => (if t124 = true then ((hard_Check.f a0_3 a0_4 a0_5).bind fun t125 => (raft_Check.j0 k (t125 != 0) a0_0 a0_1 l0_2 a0_3 a0_4 a0_5 a0_6)) else (raft_Check.j0 k true a0_0 a0_1 l0_2 a0_3 a0_4 a0_5 a0_6)))) else (raft_Check.j0 k true a0_0 a0_1 l0_2 a0_3 a0_4 a0_5 a0_6))) = some r := by rw [if_pos rfl] at H; exact H
   clear H
   have H := H1
   clear H1
   replace H := Option.bind_eq_some_iff.mp H
   obtain ⟨t123, A360, H⟩ := H
   replace H : (if t123 = true then (if (l0_2.length : Int) > 1000 then (raft_Check.j0 k true a0_0 a0_1 l0_2 a0_3 a0_4 a0_5 a0_6) else ((raft_rows.f k l0_2).bind fun t124 => (if t124 = true then ((hard_Check.f a0_3 a0_4 a0_5).bind fun t125 => (raft_Check.j0 k (t125 != 0) a0_0 a0_1 l0_2 a0_3 a0_4 a0_5 a0_6)) else (raft_Check.j0 k true a0_0 a0_1 l0_2 a0_3 a0_4 a0_5 a0_6)))) else (raft_Check.j0 k true a0_0 a0_1 l0_2 a0_3 a0_4 a0_5 a0_6)) = some r := H
   have A36 := Am A360
   clear A360
   by_cases c37 : t123 = true
   rotate_left
   ·replace c37 := Bool.eq_false_iff.mpr c37
    subst c37
    have H1 : (raft_Check.j0 k true a0_0 a0_1 l0_2 a0_3 a0_4 a0_5 a0_6) = some r := by rw [if_neg (show ¬ (false = true) by decide)] at H; exact H
    clear H
    have H := H1
    clear H1
    have H' := Am H
    clear H
    obtain ⟨Ft, Fu, Fv, Fw, Fx, Fy, Fz⟩ := bc7 Aa.out
    obtain ⟨F0, F1, F2, F3, F4, F5, F6⟩ := bf7 Aa.out
    go_wp2_with (first | (go_at_call 24; (with_reducible refine (raft_counts.calls a0_0 true _ A34.out).mono ?_); rintro e w' ⟨rfl, ⟨nd, rfl⟩⟩; (try first | exact ⟨rfl, _, World.drewN_drewN _ _ _⟩ | exact ⟨rfl, _, Eq.trans (World.drewN_drewN _ _ _) (congrArg (World.drewN _) (Nat.add_assoc _ _ _))⟩)) | (go_at_call 24; (with_reducible refine (raft_counts.calls a0_1 false _ A36.out).mono ?_); rintro e w' ⟨rfl, ⟨nd, rfl⟩⟩; (try first | exact ⟨rfl, _, World.drewN_drewN _ _ _⟩ | exact ⟨rfl, _, Eq.trans (World.drewN_drewN _ _ _) (congrArg (World.drewN _) (Nat.add_assoc _ _ _))⟩)))
    repeat (go_quiet (first | (go_at_call 24; (with_reducible refine (raft_counts.calls a0_0 true _ A34.out).mono ?_); rintro e w' ⟨rfl, ⟨nd, rfl⟩⟩; (try first | exact ⟨rfl, _, World.drewN_drewN _ _ _⟩ | exact ⟨rfl, _, Eq.trans (World.drewN_drewN _ _ _) (congrArg (World.drewN _) (Nat.add_assoc _ _ _))⟩)) | (go_at_call 24; (with_reducible refine (raft_counts.calls a0_1 false _ A36.out).mono ?_); rintro e w' ⟨rfl, ⟨nd, rfl⟩⟩; (try first | exact ⟨rfl, _, World.drewN_drewN _ _ _⟩ | exact ⟨rfl, _, Eq.trans (World.drewN_drewN _ _ _) (congrArg (World.drewN _) (Nat.add_assoc _ _ _))⟩))); try go_wp2_with (first | (go_at_call 24; (with_reducible refine (raft_counts.calls a0_0 true _ A34.out).mono ?_); rintro e w' ⟨rfl, ⟨nd, rfl⟩⟩; (try first | exact ⟨rfl, _, World.drewN_drewN _ _ _⟩ | exact ⟨rfl, _, Eq.trans (World.drewN_drewN _ _ _) (congrArg (World.drewN _) (Nat.add_assoc _ _ _))⟩)) | (go_at_call 24; (with_reducible refine (raft_counts.calls a0_1 false _ A36.out).mono ?_); rintro e w' ⟨rfl, ⟨nd, rfl⟩⟩; (try first | exact ⟨rfl, _, World.drewN_drewN _ _ _⟩ | exact ⟨rfl, _, Eq.trans (World.drewN_drewN _ _ _) (congrArg (World.drewN _) (Nat.add_assoc _ _ _))⟩))))
    go_meet
    case rel => exact ⟨_, (true), (by first | rfl | (simp; done) | (simp [*]; done)), H', ⟨by first | omega | exact Nat.le_refl _⟩, ⟨pK Aa.out⟩, ⟨pE HB.out Ab.out⟩⟩
   subst c37
   have H1 : (if (l0_2.length : Int) > 1000 then (raft_Check.j0 k true a0_0 a0_1 l0_2 a0_3 a0_4 a0_5 a0_6) else ((raft_rows.f k l0_2).bind fun t124 => (if t124 = true then ((hard_Check.f a0_3 a0_4 a0_5).bind fun t125 => (raft_Check.j0 k (t125 != 0) a0_0 a0_1 l0_2 a0_3 a0_4 a0_5 a0_6)) else (raft_Check.j0 k true a0_0 a0_1 l0_2 a0_3 a0_4 a0_5 a0_6)))) = some r := by rw [if_pos rfl] at H; exact H
   clear H
   have H := H1
   clear H1
   by_cases c38 : (l0_2.length : Int) > 1000
   ·rw [if_pos c38] at H
    have c38b0 : decide (1000 < (l0_2.length : Int)) = true := decide_eq_true c38
    have c38b1 : decide (1000 < l0_2.length) = true := decide_eq_true (by omega)
    clear c38
    have H' := Am H
    clear H
    obtain ⟨El, Em, En, Eo, Ep, Er, Es⟩ := bc7 Aa.out
    obtain ⟨Et, Eu, Ew, Ex, Ey, Ez, E0⟩ := bf7 Aa.out
    go_wp2_with (first | (go_at_call 24; (with_reducible refine (raft_counts.calls a0_0 true _ A34.out).mono ?_); rintro e w' ⟨rfl, ⟨nd, rfl⟩⟩; (try first | exact ⟨rfl, _, World.drewN_drewN _ _ _⟩ | exact ⟨rfl, _, Eq.trans (World.drewN_drewN _ _ _) (congrArg (World.drewN _) (Nat.add_assoc _ _ _))⟩)) | (go_at_call 24; (with_reducible refine (raft_counts.calls a0_1 true _ A36.out).mono ?_); rintro e w' ⟨rfl, ⟨nd, rfl⟩⟩; (try first | exact ⟨rfl, _, World.drewN_drewN _ _ _⟩ | exact ⟨rfl, _, Eq.trans (World.drewN_drewN _ _ _) (congrArg (World.drewN _) (Nat.add_assoc _ _ _))⟩)))
    repeat (go_quiet (first | (go_at_call 24; (with_reducible refine (raft_counts.calls a0_0 true _ A34.out).mono ?_); rintro e w' ⟨rfl, ⟨nd, rfl⟩⟩; (try first | exact ⟨rfl, _, World.drewN_drewN _ _ _⟩ | exact ⟨rfl, _, Eq.trans (World.drewN_drewN _ _ _) (congrArg (World.drewN _) (Nat.add_assoc _ _ _))⟩)) | (go_at_call 24; (with_reducible refine (raft_counts.calls a0_1 true _ A36.out).mono ?_); rintro e w' ⟨rfl, ⟨nd, rfl⟩⟩; (try first | exact ⟨rfl, _, World.drewN_drewN _ _ _⟩ | exact ⟨rfl, _, Eq.trans (World.drewN_drewN _ _ _) (congrArg (World.drewN _) (Nat.add_assoc _ _ _))⟩))); try go_wp2_with (first | (go_at_call 24; (with_reducible refine (raft_counts.calls a0_0 true _ A34.out).mono ?_); rintro e w' ⟨rfl, ⟨nd, rfl⟩⟩; (try first | exact ⟨rfl, _, World.drewN_drewN _ _ _⟩ | exact ⟨rfl, _, Eq.trans (World.drewN_drewN _ _ _) (congrArg (World.drewN _) (Nat.add_assoc _ _ _))⟩)) | (go_at_call 24; (with_reducible refine (raft_counts.calls a0_1 true _ A36.out).mono ?_); rintro e w' ⟨rfl, ⟨nd, rfl⟩⟩; (try first | exact ⟨rfl, _, World.drewN_drewN _ _ _⟩ | exact ⟨rfl, _, Eq.trans (World.drewN_drewN _ _ _) (congrArg (World.drewN _) (Nat.add_assoc _ _ _))⟩))))
    go_meet
    case rel => exact ⟨_, (true), (by first | rfl | (simp; done) | (simp [*]; done)), H', ⟨by first | omega | exact Nat.le_refl _⟩, ⟨pK Aa.out⟩, ⟨pE HB.out Ab.out⟩⟩
   rw [if_neg c38] at H
   have c38b0 : decide (1000 < (l0_2.length : Int)) = false := decide_eq_false c38
   have c38b1 : decide (1000 < l0_2.length) = false := decide_eq_false (by omega)
   clear c38
   replace H := Option.bind_eq_some_iff.mp H
   obtain ⟨t124, A400, H⟩ := H
   replace H : (if t124 = true then ((hard_Check.f a0_3 a0_4 a0_5).bind fun t125 => (raft_Check.j0 k (t125 != 0) a0_0 a0_1 l0_2 a0_3 a0_4 a0_5 a0_6)) else (raft_Check.j0 k true a0_0 a0_1 l0_2 a0_3 a0_4 a0_5 a0_6)) = some r := H
   have A40 := Am A400
   clear A400
   by_cases c41 : t124 = true
   rotate_left
   ·replace c41 := Bool.eq_false_iff.mpr c41
    subst c41
    have H1 : (raft_Check.j0 k true a0_0 a0_1 l0_2 a0_3 a0_4 a0_5 a0_6) = some r := by rw [if_neg (show ¬ (false = true) by decide)] at H; exact H
    clear H
    have H := H1
    clear H1
    have H' := Am H
    clear H
    obtain ⟨Ff, Fg, Fh, Fi, Fj, Fk, Fl⟩ := bc7 Aa.out
    obtain ⟨Fm, Fn, Fo, Fp, Fq, Fr, Fs⟩ := bf7 Aa.out
    go_wp2_with (first | (go_at_call 24; (with_reducible refine (raft_counts.calls a0_0 true _ A34.out).mono ?_); rintro e w' ⟨rfl, ⟨nd, rfl⟩⟩; (try first | exact ⟨rfl, _, World.drewN_drewN _ _ _⟩ | exact ⟨rfl, _, Eq.trans (World.drewN_drewN _ _ _) (congrArg (World.drewN _) (Nat.add_assoc _ _ _))⟩)) | (go_at_call 24; (with_reducible refine (raft_counts.calls a0_1 true _ A36.out).mono ?_); rintro e w' ⟨rfl, ⟨nd, rfl⟩⟩; (try first | exact ⟨rfl, _, World.drewN_drewN _ _ _⟩ | exact ⟨rfl, _, Eq.trans (World.drewN_drewN _ _ _) (congrArg (World.drewN _) (Nat.add_assoc _ _ _))⟩)) | (go_at_call 34; (with_reducible refine (raft_rows.calls k _ _ l0_2 false _ ?Ac ?Ad A40.out).mono ?_); (case Ac => repeat (first | exact (Kd.C_below Ae.out (pE HB.out Ab.out)) | (with_reducible refine Kd.C_alloc ?_ _) | (with_reducible refine Kd.C_drewN ?_ _) | (with_reducible refine Kd.C_drew ?_))); (case Ad => exact Af.out); rintro e w48 ⟨rfl, hb⟩; replace Aa := kBa Aa hb; replace HB := Am (below_step (pE HB.out Ab.out) hb); (try clear hb); (try clear hb2); (try clear hk); (try clear hi)))
    repeat (go_quiet (first | (go_at_call 24; (with_reducible refine (raft_counts.calls a0_0 true _ A34.out).mono ?_); rintro e w' ⟨rfl, ⟨nd, rfl⟩⟩; (try first | exact ⟨rfl, _, World.drewN_drewN _ _ _⟩ | exact ⟨rfl, _, Eq.trans (World.drewN_drewN _ _ _) (congrArg (World.drewN _) (Nat.add_assoc _ _ _))⟩)) | (go_at_call 24; (with_reducible refine (raft_counts.calls a0_1 true _ A36.out).mono ?_); rintro e w' ⟨rfl, ⟨nd, rfl⟩⟩; (try first | exact ⟨rfl, _, World.drewN_drewN _ _ _⟩ | exact ⟨rfl, _, Eq.trans (World.drewN_drewN _ _ _) (congrArg (World.drewN _) (Nat.add_assoc _ _ _))⟩)) | (go_at_call 34; (with_reducible refine (raft_rows.calls k _ _ l0_2 false _ ?Ac ?Ad A40.out).mono ?_); (case Ac => repeat (first | exact (Kd.C_below Ae.out (pE HB.out Ab.out)) | (with_reducible refine Kd.C_alloc ?_ _) | (with_reducible refine Kd.C_drewN ?_ _) | (with_reducible refine Kd.C_drew ?_))); (case Ad => exact Af.out); rintro e w48 ⟨rfl, hb⟩; replace Aa := kBa Aa hb; replace HB := Am (below_step (pE HB.out Ab.out) hb); (try clear hb); (try clear hb2); (try clear hk); (try clear hi))); try go_wp2_with (first | (go_at_call 24; (with_reducible refine (raft_counts.calls a0_0 true _ A34.out).mono ?_); rintro e w' ⟨rfl, ⟨nd, rfl⟩⟩; (try first | exact ⟨rfl, _, World.drewN_drewN _ _ _⟩ | exact ⟨rfl, _, Eq.trans (World.drewN_drewN _ _ _) (congrArg (World.drewN _) (Nat.add_assoc _ _ _))⟩)) | (go_at_call 24; (with_reducible refine (raft_counts.calls a0_1 true _ A36.out).mono ?_); rintro e w' ⟨rfl, ⟨nd, rfl⟩⟩; (try first | exact ⟨rfl, _, World.drewN_drewN _ _ _⟩ | exact ⟨rfl, _, Eq.trans (World.drewN_drewN _ _ _) (congrArg (World.drewN _) (Nat.add_assoc _ _ _))⟩)) | (go_at_call 34; (with_reducible refine (raft_rows.calls k _ _ l0_2 false _ ?Ac ?Ad A40.out).mono ?_); (case Ac => repeat (first | exact (Kd.C_below Ae.out (pE HB.out Ab.out)) | (with_reducible refine Kd.C_alloc ?_ _) | (with_reducible refine Kd.C_drewN ?_ _) | (with_reducible refine Kd.C_drew ?_))); (case Ad => exact Af.out); rintro e w48 ⟨rfl, hb⟩; replace Aa := kBa Aa hb; replace HB := Am (below_step (pE HB.out Ab.out) hb); (try clear hb); (try clear hb2); (try clear hk); (try clear hi))))
    go_meet
    case rel => exact ⟨_, (true), (by first | rfl | (simp; done) | (simp [*]; done)), H', ⟨by first | omega | exact Nat.le_refl _⟩, ⟨pK Aa.out⟩, ⟨pE HB.out Ab.out⟩⟩
   subst c41
   have H1 : ((hard_Check.f a0_3 a0_4 a0_5).bind fun t125 => (raft_Check.j0 k (t125 != 0) a0_0 a0_1 l0_2 a0_3 a0_4 a0_5 a0_6)) = some r := by rw [if_pos rfl] at H; exact H
   clear H
   have H := H1
   clear H1
   replace H := Option.bind_eq_some_iff.mp H
   obtain ⟨t125, A420, H⟩ := H
   replace H : (raft_Check.j0 k (t125 != 0) a0_0 a0_1 l0_2 a0_3 a0_4 a0_5 a0_6) = some r := H
   have A42 := Am A420
   clear A420
   have H' := Am H
   clear H
   obtain ⟨E1, E2, E3, E4, E5, E6, E7⟩ := bc7 Aa.out
   obtain ⟨E8, E9, Fa, Fb, Fc, Fd, Fe⟩ := bf7 Aa.out
   go_wp2_with (first | (go_at_call 24; (with_reducible refine (raft_counts.calls a0_0 true _ A34.out).mono ?_); rintro e w' ⟨rfl, ⟨nd, rfl⟩⟩; (try first | exact ⟨rfl, _, World.drewN_drewN _ _ _⟩ | exact ⟨rfl, _, Eq.trans (World.drewN_drewN _ _ _) (congrArg (World.drewN _) (Nat.add_assoc _ _ _))⟩)) | (go_at_call 24; (with_reducible refine (raft_counts.calls a0_1 true _ A36.out).mono ?_); rintro e w' ⟨rfl, ⟨nd, rfl⟩⟩; (try first | exact ⟨rfl, _, World.drewN_drewN _ _ _⟩ | exact ⟨rfl, _, Eq.trans (World.drewN_drewN _ _ _) (congrArg (World.drewN _) (Nat.add_assoc _ _ _))⟩)) | (go_at_call 34; (with_reducible refine (raft_rows.calls k _ _ l0_2 true _ ?Ac ?Ad A40.out).mono ?_); (case Ac => repeat (first | exact (Kd.C_below Ae.out (pE HB.out Ab.out)) | (with_reducible refine Kd.C_alloc ?_ _) | (with_reducible refine Kd.C_drewN ?_ _) | (with_reducible refine Kd.C_drew ?_))); (case Ad => exact Af.out); rintro e w44 ⟨rfl, hb⟩; replace Aa := kBa Aa hb; replace HB := Am (below_step (pE HB.out Ab.out) hb); (try clear hb); (try clear hb2); (try clear hk); (try clear hi); obtain ⟨Bc, Bd, Be, Bf, Bg, Bh, Bi⟩ := bc7 Aa.out; obtain ⟨Bj, Bk, Bl, Bm, Bn, Bo, Bp⟩ := bf7 Aa.out) | (go_at_call 35; (with_reducible refine (hard_Check.calls a0_3 a0_4 a0_5 t125 _ A42.out).mono ?_); rintro e w46 ⟨rfl, hb⟩; replace Aa := kBa Aa hb; replace HB := Am (below_step (pE HB.out Ab.out) hb); (try clear hb); (try clear hb2); (try clear hk); (try clear hi)))
   repeat (go_quiet (first | (go_at_call 24; (with_reducible refine (raft_counts.calls a0_0 true _ A34.out).mono ?_); rintro e w' ⟨rfl, ⟨nd, rfl⟩⟩; (try first | exact ⟨rfl, _, World.drewN_drewN _ _ _⟩ | exact ⟨rfl, _, Eq.trans (World.drewN_drewN _ _ _) (congrArg (World.drewN _) (Nat.add_assoc _ _ _))⟩)) | (go_at_call 24; (with_reducible refine (raft_counts.calls a0_1 true _ A36.out).mono ?_); rintro e w' ⟨rfl, ⟨nd, rfl⟩⟩; (try first | exact ⟨rfl, _, World.drewN_drewN _ _ _⟩ | exact ⟨rfl, _, Eq.trans (World.drewN_drewN _ _ _) (congrArg (World.drewN _) (Nat.add_assoc _ _ _))⟩)) | (go_at_call 34; (with_reducible refine (raft_rows.calls k _ _ l0_2 true _ ?Ac ?Ad A40.out).mono ?_); (case Ac => repeat (first | exact (Kd.C_below Ae.out (pE HB.out Ab.out)) | (with_reducible refine Kd.C_alloc ?_ _) | (with_reducible refine Kd.C_drewN ?_ _) | (with_reducible refine Kd.C_drew ?_))); (case Ad => exact Af.out); rintro e w44 ⟨rfl, hb⟩; replace Aa := kBa Aa hb; replace HB := Am (below_step (pE HB.out Ab.out) hb); (try clear hb); (try clear hb2); (try clear hk); (try clear hi); obtain ⟨Bc, Bd, Be, Bf, Bg, Bh, Bi⟩ := bc7 Aa.out; obtain ⟨Bj, Bk, Bl, Bm, Bn, Bo, Bp⟩ := bf7 Aa.out) | (go_at_call 35; (with_reducible refine (hard_Check.calls a0_3 a0_4 a0_5 t125 _ A42.out).mono ?_); rintro e w46 ⟨rfl, hb⟩; replace Aa := kBa Aa hb; replace HB := Am (below_step (pE HB.out Ab.out) hb); (try clear hb); (try clear hb2); (try clear hk); (try clear hi))); try go_wp2_with (first | (go_at_call 24; (with_reducible refine (raft_counts.calls a0_0 true _ A34.out).mono ?_); rintro e w' ⟨rfl, ⟨nd, rfl⟩⟩; (try first | exact ⟨rfl, _, World.drewN_drewN _ _ _⟩ | exact ⟨rfl, _, Eq.trans (World.drewN_drewN _ _ _) (congrArg (World.drewN _) (Nat.add_assoc _ _ _))⟩)) | (go_at_call 24; (with_reducible refine (raft_counts.calls a0_1 true _ A36.out).mono ?_); rintro e w' ⟨rfl, ⟨nd, rfl⟩⟩; (try first | exact ⟨rfl, _, World.drewN_drewN _ _ _⟩ | exact ⟨rfl, _, Eq.trans (World.drewN_drewN _ _ _) (congrArg (World.drewN _) (Nat.add_assoc _ _ _))⟩)) | (go_at_call 34; (with_reducible refine (raft_rows.calls k _ _ l0_2 true _ ?Ac ?Ad A40.out).mono ?_); (case Ac => repeat (first | exact (Kd.C_below Ae.out (pE HB.out Ab.out)) | (with_reducible refine Kd.C_alloc ?_ _) | (with_reducible refine Kd.C_drewN ?_ _) | (with_reducible refine Kd.C_drew ?_))); (case Ad => exact Af.out); rintro e w44 ⟨rfl, hb⟩; replace Aa := kBa Aa hb; replace HB := Am (below_step (pE HB.out Ab.out) hb); (try clear hb); (try clear hb2); (try clear hk); (try clear hi); obtain ⟨Bc, Bd, Be, Bf, Bg, Bh, Bi⟩ := bc7 Aa.out; obtain ⟨Bj, Bk, Bl, Bm, Bn, Bo, Bp⟩ := bf7 Aa.out) | (go_at_call 35; (with_reducible refine (hard_Check.calls a0_3 a0_4 a0_5 t125 _ A42.out).mono ?_); rintro e w46 ⟨rfl, hb⟩; replace Aa := kBa Aa hb; replace HB := Am (below_step (pE HB.out Ab.out) hb); (try clear hb); (try clear hb2); (try clear hk); (try clear hi))))
   go_meet
   case rel => exact ⟨_, ((t125 != 0)), (by first | rfl | (simp; done) | (simp [*]; done)), H', ⟨by first | omega | exact Nat.le_refl _⟩, ⟨pK Aa.out⟩, ⟨pE HB.out Ab.out⟩⟩
  rw [if_pos c4] at H
  have c4b0 : (a0_0 == 0) = true := beq_iff_eq.mpr c4
  have c4b1 : (a0_0 != 0) = false := bne_eq_false_iff_eq.mpr c4
  clear c4
  (first | rw [c4b0] | (simp only [i64_w, i32_w]; rw [c4b0]) | skip)
  by_cases c5 : a0_1 = 0
  ·rw [if_pos c5] at H
   have c5b0 : (a0_1 == 0) = true := beq_iff_eq.mpr c5
   have c5b1 : (a0_1 != 0) = false := bne_eq_false_iff_eq.mpr c5
   clear c5
   by_cases c6 : (l0_2.length : Int) > 1000
   ·rw [if_pos c6] at H
    have c6b0 : decide (1000 < (l0_2.length : Int)) = true := decide_eq_true c6
    have c6b1 : decide (1000 < l0_2.length) = true := decide_eq_true (by omega)
    clear c6
    have H' := Am H
    clear H
    obtain ⟨Gx, Gy, Gz, G0, G1, G2, G3⟩ := bc7 Aa.out
    obtain ⟨G4, G5, G6, G7, G8, G9, Ha⟩ := bf7 Aa.out
    go_wp2
    repeat (go_quiet (fail); try go_wp2)
    go_meet
    case rel => exact ⟨_, (true), (by first | rfl | (simp; done) | (simp [*]; done)), H', ⟨by first | omega | exact Nat.le_refl _⟩, ⟨pK Aa.out⟩, ⟨pE HB.out Ab.out⟩⟩
   rw [if_neg c6] at H
   have c6b0 : decide (1000 < (l0_2.length : Int)) = false := decide_eq_false c6
   have c6b1 : decide (1000 < l0_2.length) = false := decide_eq_false (by omega)
   clear c6
   replace H := Option.bind_eq_some_iff.mp H
   obtain ⟨t116, A80, H⟩ := H
   replace H : (if t116 = true then ((hard_Check.f a0_3 a0_4 a0_5).bind fun t117 => (raft_Check.j0 k (t117 != 0) a0_0 a0_1 l0_2 a0_3 a0_4 a0_5 a0_6)) else (raft_Check.j0 k true a0_0 a0_1 l0_2 a0_3 a0_4 a0_5 a0_6)) = some r := H
   have A8 := Am A80
   clear A80
   by_cases c9 : t116 = true
   rotate_left
   ·replace c9 := Bool.eq_false_iff.mpr c9
    subst c9
    have H1 : (raft_Check.j0 k true a0_0 a0_1 l0_2 a0_3 a0_4 a0_5 a0_6) = some r := by rw [if_neg (show ¬ (false = true) by decide)] at H; exact H
    clear H
    have H := H1
    clear H1
    have H' := Am H
    clear H
    obtain ⟨B9, Ca, Cb, Cc, Cd, Ce, Cf⟩ := bc7 Aa.out
    obtain ⟨Cg, Ch, Ci, Cj, Ck, Cl, Cm⟩ := bf7 Aa.out
    go_wp2_with (first | (go_at_call 34; (with_reducible refine (raft_rows.calls k _ _ l0_2 false _ ?Ac ?Ad A8.out).mono ?_); (case Ac => exact pC (Kd.C_below Ae.out HB.out)); (case Ad => exact Af.out); rintro e w16 ⟨rfl, hb⟩; replace Aa := kBa Aa hb; replace HB := Am (below_step (pE HB.out Ab.out) hb); (try clear hb); (try clear hb2); (try clear hk); (try clear hi)))
    repeat (go_quiet (first | (go_at_call 34; (with_reducible refine (raft_rows.calls k _ _ l0_2 false _ ?Ac ?Ad A8.out).mono ?_); (case Ac => exact pC (Kd.C_below Ae.out HB.out)); (case Ad => exact Af.out); rintro e w16 ⟨rfl, hb⟩; replace Aa := kBa Aa hb; replace HB := Am (below_step (pE HB.out Ab.out) hb); (try clear hb); (try clear hb2); (try clear hk); (try clear hi))); try go_wp2_with (first | (go_at_call 34; (with_reducible refine (raft_rows.calls k _ _ l0_2 false _ ?Ac ?Ad A8.out).mono ?_); (case Ac => exact pC (Kd.C_below Ae.out HB.out)); (case Ad => exact Af.out); rintro e w16 ⟨rfl, hb⟩; replace Aa := kBa Aa hb; replace HB := Am (below_step (pE HB.out Ab.out) hb); (try clear hb); (try clear hb2); (try clear hk); (try clear hi))))
    go_meet
    case rel => exact ⟨_, (true), (by first | rfl | (simp; done) | (simp [*]; done)), H', ⟨by first | omega | exact Nat.le_refl _⟩, ⟨pK Aa.out⟩, ⟨pE HB.out Ab.out⟩⟩
   subst c9
   have H1 : ((hard_Check.f a0_3 a0_4 a0_5).bind fun t117 => (raft_Check.j0 k (t117 != 0) a0_0 a0_1 l0_2 a0_3 a0_4 a0_5 a0_6)) = some r := by rw [if_pos rfl] at H; exact H
   clear H
   have H := H1
   clear H1
   replace H := Option.bind_eq_some_iff.mp H
   obtain ⟨t117, A100, H⟩ := H
   replace H : (raft_Check.j0 k (t117 != 0) a0_0 a0_1 l0_2 a0_3 a0_4 a0_5 a0_6) = some r := H
   have A10 := Am A100
   clear A100
   have H' := Am H
   clear H
   obtain ⟨Bv, Bw, Bx, By, Bz, B0, B1⟩ := bc7 Aa.out
   obtain ⟨B2, B3, B4, B5, B6, B7, B8⟩ := bf7 Aa.out
   go_wp2_with (first | (go_at_call 34; (with_reducible refine (raft_rows.calls k _ _ l0_2 true _ ?Ac ?Ad A8.out).mono ?_); (case Ac => exact pC (Kd.C_below Ae.out HB.out)); (case Ad => exact Af.out); rintro e w12 ⟨rfl, hb⟩; replace Aa := kBa Aa hb; replace HB := Am (below_step (pE HB.out Ab.out) hb); (try clear hb); (try clear hb2); (try clear hk); (try clear hi); obtain ⟨Ai, Aj, Ak, Al, An, Ao, Ap⟩ := bc7 Aa.out; obtain ⟨Aq, Ar, As, At, Au, Av, Aw⟩ := bf7 Aa.out) | (go_at_call 35; (with_reducible refine (hard_Check.calls a0_3 a0_4 a0_5 t117 _ A10.out).mono ?_); rintro e w14 ⟨rfl, hb⟩; replace Aa := kBa Aa hb; replace HB := Am (below_step (pE HB.out Ab.out) hb); (try clear hb); (try clear hb2); (try clear hk); (try clear hi)))
   repeat (go_quiet (first | (go_at_call 34; (with_reducible refine (raft_rows.calls k _ _ l0_2 true _ ?Ac ?Ad A8.out).mono ?_); (case Ac => exact pC (Kd.C_below Ae.out HB.out)); (case Ad => exact Af.out); rintro e w12 ⟨rfl, hb⟩; replace Aa := kBa Aa hb; replace HB := Am (below_step (pE HB.out Ab.out) hb); (try clear hb); (try clear hb2); (try clear hk); (try clear hi); obtain ⟨Ai, Aj, Ak, Al, An, Ao, Ap⟩ := bc7 Aa.out; obtain ⟨Aq, Ar, As, At, Au, Av, Aw⟩ := bf7 Aa.out) | (go_at_call 35; (with_reducible refine (hard_Check.calls a0_3 a0_4 a0_5 t117 _ A10.out).mono ?_); rintro e w14 ⟨rfl, hb⟩; replace Aa := kBa Aa hb; replace HB := Am (below_step (pE HB.out Ab.out) hb); (try clear hb); (try clear hb2); (try clear hk); (try clear hi))); try go_wp2_with (first | (go_at_call 34; (with_reducible refine (raft_rows.calls k _ _ l0_2 true _ ?Ac ?Ad A8.out).mono ?_); (case Ac => exact pC (Kd.C_below Ae.out HB.out)); (case Ad => exact Af.out); rintro e w12 ⟨rfl, hb⟩; replace Aa := kBa Aa hb; replace HB := Am (below_step (pE HB.out Ab.out) hb); (try clear hb); (try clear hb2); (try clear hk); (try clear hi); obtain ⟨Ai, Aj, Ak, Al, An, Ao, Ap⟩ := bc7 Aa.out; obtain ⟨Aq, Ar, As, At, Au, Av, Aw⟩ := bf7 Aa.out) | (go_at_call 35; (with_reducible refine (hard_Check.calls a0_3 a0_4 a0_5 t117 _ A10.out).mono ?_); rintro e w14 ⟨rfl, hb⟩; replace Aa := kBa Aa hb; replace HB := Am (below_step (pE HB.out Ab.out) hb); (try clear hb); (try clear hb2); (try clear hk); (try clear hi))))
   go_meet
   case rel => exact ⟨_, ((t117 != 0)), (by first | rfl | (simp; done) | (simp [*]; done)), H', ⟨by first | omega | exact Nat.le_refl _⟩, ⟨pK Aa.out⟩, ⟨pE HB.out Ab.out⟩⟩
  rw [if_neg c5] at H
  have c5b0 : (a0_1 == 0) = false := beq_eq_false_iff_ne.mpr c5
  have c5b1 : (a0_1 != 0) = true := bne_iff_ne.mpr c5
  replace H := Option.bind_eq_some_iff.mp H
  obtain ⟨t118, A170, H⟩ := H
  replace H : (if t118 = true then ((raft_counts.f a0_1).bind fun t119 => (if t119 = true then (if (l0_2.length : Int) > 1000 then (raft_Check.j0 k true a0_0 a0_1 l0_2 a0_3 a0_4 a0_5 a0_6) else ((raft_rows.f k l0_2).bind fun t120 => (if t120 = true then ((hard_Check.f a0_3 a0_4 a0_5).bind fun t121 => (raft_Check.j0 k (t121 != 0) a0_0 a0_1 l0_2 a0_3 a0_4 a0_5 a0_6)) else (raft_Check.j0 k true a0_0 a0_1 l0_2 a0_3 a0_4 a0_5 a0_6)))) else (raft_Check.j0 k true a0_0 a0_1 l0_2 a0_3 a0_4 a0_5 a0_6))) else (raft_Check.j0 k true a0_0 a0_1 l0_2 a0_3 a0_4 a0_5 a0_6)) = some r := H
  have A17 := Am A170
  clear A170
  by_cases c18 : t118 = true
  rotate_left
  ·replace c18 := Bool.eq_false_iff.mpr c18
   subst c18
   have H1 : (raft_Check.j0 k true a0_0 a0_1 l0_2 a0_3 a0_4 a0_5 a0_6) = some r := by rw [if_neg (show ¬ (false = true) by decide)] at H; exact H
   clear H
   have H := H1
   clear H1
   have H' := Am H
   clear H
   obtain ⟨D7, D8, D9, Ea, Eb, Ec, Ed⟩ := bc7 Aa.out
   obtain ⟨Ee, Ef, Eg, Eh, Ei, Ej, Ek⟩ := bf7 Aa.out
   go_wp2_with (first | (go_at_call 24; (with_reducible refine (raft_counts.calls a0_0 false _ A17.out).mono ?_); rintro e w' ⟨rfl, ⟨nd, rfl⟩⟩; (try first | exact ⟨rfl, _, World.drewN_drewN _ _ _⟩ | exact ⟨rfl, _, Eq.trans (World.drewN_drewN _ _ _) (congrArg (World.drewN _) (Nat.add_assoc _ _ _))⟩)))
   repeat (go_quiet (first | (go_at_call 24; (with_reducible refine (raft_counts.calls a0_0 false _ A17.out).mono ?_); rintro e w' ⟨rfl, ⟨nd, rfl⟩⟩; (try first | exact ⟨rfl, _, World.drewN_drewN _ _ _⟩ | exact ⟨rfl, _, Eq.trans (World.drewN_drewN _ _ _) (congrArg (World.drewN _) (Nat.add_assoc _ _ _))⟩))); try go_wp2_with (first | (go_at_call 24; (with_reducible refine (raft_counts.calls a0_0 false _ A17.out).mono ?_); rintro e w' ⟨rfl, ⟨nd, rfl⟩⟩; (try first | exact ⟨rfl, _, World.drewN_drewN _ _ _⟩ | exact ⟨rfl, _, Eq.trans (World.drewN_drewN _ _ _) (congrArg (World.drewN _) (Nat.add_assoc _ _ _))⟩))))
   go_meet
   case rel => exact ⟨_, (true), (by first | rfl | (simp; done) | (simp [*]; done)), H', ⟨by first | omega | exact Nat.le_refl _⟩, ⟨pK Aa.out⟩, ⟨pE HB.out Ab.out⟩⟩
  subst c18
  have H1 : ((raft_counts.f a0_1).bind fun t119 => (if t119 = true then (if (l0_2.length : Int) > 1000 then (raft_Check.j0 k true a0_0 a0_1 l0_2 a0_3 a0_4 a0_5 a0_6) else ((raft_rows.f k l0_2).bind fun t120 => (if t120 = true then ((hard_Check.f a0_3 a0_4 a0_5).bind fun t121 => (raft_Check.j0 k (t121 != 0) a0_0 a0_1 l0_2 a0_3 a0_4 a0_5 a0_6)) else (raft_Check.j0 k true a0_0 a0_1 l0_2 a0_3 a0_4 a0_5 a0_6)))) else (raft_Check.j0 k true a0_0 a0_1 l0_2 a0_3 a0_4 a0_5 a0_6))) = some r := by rw [if_pos rfl] at H; exact H
  clear H
  have H := H1
  clear H1
  replace H := Option.bind_eq_some_iff.mp H
  obtain ⟨t119, A190, H⟩ := H
  replace H : (if t119 = true then (if (l0_2.length : Int) > 1000 then (raft_Check.j0 k true a0_0 a0_1 l0_2 a0_3 a0_4 a0_5 a0_6) else ((raft_rows.f k l0_2).bind fun t120 => (if t120 = true then ((hard_Check.f a0_3 a0_4 a0_5).bind fun t121 => (raft_Check.j0 k (t121 != 0) a0_0 a0_1 l0_2 a0_3 a0_4 a0_5 a0_6)) else (raft_Check.j0 k true a0_0 a0_1 l0_2 a0_3 a0_4 a0_5 a0_6)))) else (raft_Check.j0 k true a0_0 a0_1 l0_2 a0_3 a0_4 a0_5 a0_6)) = some r := H
  have A19 := Am A190
  clear A190
  by_cases c20 : t119 = true
  rotate_left
  ·replace c20 := Bool.eq_false_iff.mpr c20
   subst c20
   have H1 : (raft_Check.j0 k true a0_0 a0_1 l0_2 a0_3 a0_4 a0_5 a0_6) = some r := by rw [if_neg (show ¬ (false = true) by decide)] at H; exact H
   clear H
   have H := H1
   clear H1
   have H' := Am H
   clear H
   obtain ⟨Dt, Du, Dv, Dw, Dx, Dy, Dz⟩ := bc7 Aa.out
   obtain ⟨D0, D1, D2, D3, D4, D5, D6⟩ := bf7 Aa.out
   go_wp2_with (first | (go_at_call 24; (with_reducible refine (raft_counts.calls a0_0 true _ A17.out).mono ?_); rintro e w' ⟨rfl, ⟨nd, rfl⟩⟩; (try first | exact ⟨rfl, _, World.drewN_drewN _ _ _⟩ | exact ⟨rfl, _, Eq.trans (World.drewN_drewN _ _ _) (congrArg (World.drewN _) (Nat.add_assoc _ _ _))⟩)) | (go_at_call 24; (with_reducible refine (raft_counts.calls a0_1 false _ A19.out).mono ?_); rintro e w' ⟨rfl, ⟨nd, rfl⟩⟩; (try first | exact ⟨rfl, _, World.drewN_drewN _ _ _⟩ | exact ⟨rfl, _, Eq.trans (World.drewN_drewN _ _ _) (congrArg (World.drewN _) (Nat.add_assoc _ _ _))⟩)))
   repeat (go_quiet (first | (go_at_call 24; (with_reducible refine (raft_counts.calls a0_0 true _ A17.out).mono ?_); rintro e w' ⟨rfl, ⟨nd, rfl⟩⟩; (try first | exact ⟨rfl, _, World.drewN_drewN _ _ _⟩ | exact ⟨rfl, _, Eq.trans (World.drewN_drewN _ _ _) (congrArg (World.drewN _) (Nat.add_assoc _ _ _))⟩)) | (go_at_call 24; (with_reducible refine (raft_counts.calls a0_1 false _ A19.out).mono ?_); rintro e w' ⟨rfl, ⟨nd, rfl⟩⟩; (try first | exact ⟨rfl, _, World.drewN_drewN _ _ _⟩ | exact ⟨rfl, _, Eq.trans (World.drewN_drewN _ _ _) (congrArg (World.drewN _) (Nat.add_assoc _ _ _))⟩))); try go_wp2_with (first | (go_at_call 24; (with_reducible refine (raft_counts.calls a0_0 true _ A17.out).mono ?_); rintro e w' ⟨rfl, ⟨nd, rfl⟩⟩; (try first | exact ⟨rfl, _, World.drewN_drewN _ _ _⟩ | exact ⟨rfl, _, Eq.trans (World.drewN_drewN _ _ _) (congrArg (World.drewN _) (Nat.add_assoc _ _ _))⟩)) | (go_at_call 24; (with_reducible refine (raft_counts.calls a0_1 false _ A19.out).mono ?_); rintro e w' ⟨rfl, ⟨nd, rfl⟩⟩; (try first | exact ⟨rfl, _, World.drewN_drewN _ _ _⟩ | exact ⟨rfl, _, Eq.trans (World.drewN_drewN _ _ _) (congrArg (World.drewN _) (Nat.add_assoc _ _ _))⟩))))
   go_meet
   case rel => exact ⟨_, (true), (by first | rfl | (simp; done) | (simp [*]; done)), H', ⟨by first | omega | exact Nat.le_refl _⟩, ⟨pK Aa.out⟩, ⟨pE HB.out Ab.out⟩⟩
  subst c20
  have H1 : (if (l0_2.length : Int) > 1000 then (raft_Check.j0 k true a0_0 a0_1 l0_2 a0_3 a0_4 a0_5 a0_6) else ((raft_rows.f k l0_2).bind fun t120 => (if t120 = true then ((hard_Check.f a0_3 a0_4 a0_5).bind fun t121 => (raft_Check.j0 k (t121 != 0) a0_0 a0_1 l0_2 a0_3 a0_4 a0_5 a0_6)) else (raft_Check.j0 k true a0_0 a0_1 l0_2 a0_3 a0_4 a0_5 a0_6)))) = some r := by rw [if_pos rfl] at H; exact H
  clear H
  have H := H1
  clear H1
  by_cases c21 : (l0_2.length : Int) > 1000
  ·rw [if_pos c21] at H
   have c21b0 : decide (1000 < (l0_2.length : Int)) = true := decide_eq_true c21
   have c21b1 : decide (1000 < l0_2.length) = true := decide_eq_true (by omega)
   clear c21
   have H' := Am H
   clear H
   obtain ⟨Cn, Co, Cp, Cq, Cr, Cs, Ct⟩ := bc7 Aa.out
   obtain ⟨Cu, Cv, Cw, Cx, Cy, Cz, C0⟩ := bf7 Aa.out
   go_wp2_with (first | (go_at_call 24; (with_reducible refine (raft_counts.calls a0_0 true _ A17.out).mono ?_); rintro e w' ⟨rfl, ⟨nd, rfl⟩⟩; (try first | exact ⟨rfl, _, World.drewN_drewN _ _ _⟩ | exact ⟨rfl, _, Eq.trans (World.drewN_drewN _ _ _) (congrArg (World.drewN _) (Nat.add_assoc _ _ _))⟩)) | (go_at_call 24; (with_reducible refine (raft_counts.calls a0_1 true _ A19.out).mono ?_); rintro e w' ⟨rfl, ⟨nd, rfl⟩⟩; (try first | exact ⟨rfl, _, World.drewN_drewN _ _ _⟩ | exact ⟨rfl, _, Eq.trans (World.drewN_drewN _ _ _) (congrArg (World.drewN _) (Nat.add_assoc _ _ _))⟩)))
   repeat (go_quiet (first | (go_at_call 24; (with_reducible refine (raft_counts.calls a0_0 true _ A17.out).mono ?_); rintro e w' ⟨rfl, ⟨nd, rfl⟩⟩; (try first | exact ⟨rfl, _, World.drewN_drewN _ _ _⟩ | exact ⟨rfl, _, Eq.trans (World.drewN_drewN _ _ _) (congrArg (World.drewN _) (Nat.add_assoc _ _ _))⟩)) | (go_at_call 24; (with_reducible refine (raft_counts.calls a0_1 true _ A19.out).mono ?_); rintro e w' ⟨rfl, ⟨nd, rfl⟩⟩; (try first | exact ⟨rfl, _, World.drewN_drewN _ _ _⟩ | exact ⟨rfl, _, Eq.trans (World.drewN_drewN _ _ _) (congrArg (World.drewN _) (Nat.add_assoc _ _ _))⟩))); try go_wp2_with (first | (go_at_call 24; (with_reducible refine (raft_counts.calls a0_0 true _ A17.out).mono ?_); rintro e w' ⟨rfl, ⟨nd, rfl⟩⟩; (try first | exact ⟨rfl, _, World.drewN_drewN _ _ _⟩ | exact ⟨rfl, _, Eq.trans (World.drewN_drewN _ _ _) (congrArg (World.drewN _) (Nat.add_assoc _ _ _))⟩)) | (go_at_call 24; (with_reducible refine (raft_counts.calls a0_1 true _ A19.out).mono ?_); rintro e w' ⟨rfl, ⟨nd, rfl⟩⟩; (try first | exact ⟨rfl, _, World.drewN_drewN _ _ _⟩ | exact ⟨rfl, _, Eq.trans (World.drewN_drewN _ _ _) (congrArg (World.drewN _) (Nat.add_assoc _ _ _))⟩))))
   go_meet
   case rel => exact ⟨_, (true), (by first | rfl | (simp; done) | (simp [*]; done)), H', ⟨by first | omega | exact Nat.le_refl _⟩, ⟨pK Aa.out⟩, ⟨pE HB.out Ab.out⟩⟩
  rw [if_neg c21] at H
  have c21b0 : decide (1000 < (l0_2.length : Int)) = false := decide_eq_false c21
  have c21b1 : decide (1000 < l0_2.length) = false := decide_eq_false (by omega)
  clear c21
  replace H := Option.bind_eq_some_iff.mp H
  obtain ⟨t120, A230, H⟩ := H
  replace H : (if t120 = true then ((hard_Check.f a0_3 a0_4 a0_5).bind fun t121 => (raft_Check.j0 k (t121 != 0) a0_0 a0_1 l0_2 a0_3 a0_4 a0_5 a0_6)) else (raft_Check.j0 k true a0_0 a0_1 l0_2 a0_3 a0_4 a0_5 a0_6)) = some r := H
  have A23 := Am A230
  clear A230
  by_cases c24 : t120 = true
  rotate_left
  ·replace c24 := Bool.eq_false_iff.mpr c24
   subst c24
   have H1 : (raft_Check.j0 k true a0_0 a0_1 l0_2 a0_3 a0_4 a0_5 a0_6) = some r := by rw [if_neg (show ¬ (false = true) by decide)] at H; exact H
   clear H
   have H := H1
   clear H1
   have H' := Am H
   clear H
   obtain ⟨Df, Dg, Dh, Di, Dj, Dk, Dl⟩ := bc7 Aa.out
   obtain ⟨Dm, Dn, Do, Dp, Dq, Dr, Ds⟩ := bf7 Aa.out
   go_wp2_with (first | (go_at_call 24; (with_reducible refine (raft_counts.calls a0_0 true _ A17.out).mono ?_); rintro e w' ⟨rfl, ⟨nd, rfl⟩⟩; (try first | exact ⟨rfl, _, World.drewN_drewN _ _ _⟩ | exact ⟨rfl, _, Eq.trans (World.drewN_drewN _ _ _) (congrArg (World.drewN _) (Nat.add_assoc _ _ _))⟩)) | (go_at_call 24; (with_reducible refine (raft_counts.calls a0_1 true _ A19.out).mono ?_); rintro e w' ⟨rfl, ⟨nd, rfl⟩⟩; (try first | exact ⟨rfl, _, World.drewN_drewN _ _ _⟩ | exact ⟨rfl, _, Eq.trans (World.drewN_drewN _ _ _) (congrArg (World.drewN _) (Nat.add_assoc _ _ _))⟩)) | (go_at_call 34; (with_reducible refine (raft_rows.calls k _ _ l0_2 false _ ?Ac ?Ad A23.out).mono ?_); (case Ac => repeat (first | exact (Kd.C_below Ae.out (pE HB.out Ab.out)) | (with_reducible refine Kd.C_alloc ?_ _) | (with_reducible refine Kd.C_drewN ?_ _) | (with_reducible refine Kd.C_drew ?_))); (case Ad => exact Af.out); rintro e w31 ⟨rfl, hb⟩; replace Aa := kBa Aa hb; replace HB := Am (below_step (pE HB.out Ab.out) hb); (try clear hb); (try clear hb2); (try clear hk); (try clear hi)))
   repeat (go_quiet (first | (go_at_call 24; (with_reducible refine (raft_counts.calls a0_0 true _ A17.out).mono ?_); rintro e w' ⟨rfl, ⟨nd, rfl⟩⟩; (try first | exact ⟨rfl, _, World.drewN_drewN _ _ _⟩ | exact ⟨rfl, _, Eq.trans (World.drewN_drewN _ _ _) (congrArg (World.drewN _) (Nat.add_assoc _ _ _))⟩)) | (go_at_call 24; (with_reducible refine (raft_counts.calls a0_1 true _ A19.out).mono ?_); rintro e w' ⟨rfl, ⟨nd, rfl⟩⟩; (try first | exact ⟨rfl, _, World.drewN_drewN _ _ _⟩ | exact ⟨rfl, _, Eq.trans (World.drewN_drewN _ _ _) (congrArg (World.drewN _) (Nat.add_assoc _ _ _))⟩)) | (go_at_call 34; (with_reducible refine (raft_rows.calls k _ _ l0_2 false _ ?Ac ?Ad A23.out).mono ?_); (case Ac => repeat (first | exact (Kd.C_below Ae.out (pE HB.out Ab.out)) | (with_reducible refine Kd.C_alloc ?_ _) | (with_reducible refine Kd.C_drewN ?_ _) | (with_reducible refine Kd.C_drew ?_))); (case Ad => exact Af.out); rintro e w31 ⟨rfl, hb⟩; replace Aa := kBa Aa hb; replace HB := Am (below_step (pE HB.out Ab.out) hb); (try clear hb); (try clear hb2); (try clear hk); (try clear hi))); try go_wp2_with (first | (go_at_call 24; (with_reducible refine (raft_counts.calls a0_0 true _ A17.out).mono ?_); rintro e w' ⟨rfl, ⟨nd, rfl⟩⟩; (try first | exact ⟨rfl, _, World.drewN_drewN _ _ _⟩ | exact ⟨rfl, _, Eq.trans (World.drewN_drewN _ _ _) (congrArg (World.drewN _) (Nat.add_assoc _ _ _))⟩)) | (go_at_call 24; (with_reducible refine (raft_counts.calls a0_1 true _ A19.out).mono ?_); rintro e w' ⟨rfl, ⟨nd, rfl⟩⟩; (try first | exact ⟨rfl, _, World.drewN_drewN _ _ _⟩ | exact ⟨rfl, _, Eq.trans (World.drewN_drewN _ _ _) (congrArg (World.drewN _) (Nat.add_assoc _ _ _))⟩)) | (go_at_call 34; (with_reducible refine (raft_rows.calls k _ _ l0_2 false _ ?Ac ?Ad A23.out).mono ?_); (case Ac => repeat (first | exact (Kd.C_below Ae.out (pE HB.out Ab.out)) | (with_reducible refine Kd.C_alloc ?_ _) | (with_reducible refine Kd.C_drewN ?_ _) | (with_reducible refine Kd.C_drew ?_))); (case Ad => exact Af.out); rintro e w31 ⟨rfl, hb⟩; replace Aa := kBa Aa hb; replace HB := Am (below_step (pE HB.out Ab.out) hb); (try clear hb); (try clear hb2); (try clear hk); (try clear hi))))
   go_meet
   case rel => exact ⟨_, (true), (by first | rfl | (simp; done) | (simp [*]; done)), H', ⟨by first | omega | exact Nat.le_refl _⟩, ⟨pK Aa.out⟩, ⟨pE HB.out Ab.out⟩⟩
  subst c24
  have H1 : ((hard_Check.f a0_3 a0_4 a0_5).bind fun t121 => (raft_Check.j0 k (t121 != 0) a0_0 a0_1 l0_2 a0_3 a0_4 a0_5 a0_6)) = some r := by rw [if_pos rfl] at H; exact H
  clear H
  have H := H1
  clear H1
  replace H := Option.bind_eq_some_iff.mp H
  obtain ⟨t121, A250, H⟩ := H
  replace H : (raft_Check.j0 k (t121 != 0) a0_0 a0_1 l0_2 a0_3 a0_4 a0_5 a0_6) = some r := H
  have A25 := Am A250
  clear A250
  have H' := Am H
  clear H
  obtain ⟨C1, C2, C3, C4, C5, C6, C7⟩ := bc7 Aa.out
  obtain ⟨C8, C9, Da, Db, Dc, Dd, De⟩ := bf7 Aa.out
  go_wp2_with (first | (go_at_call 24; (with_reducible refine (raft_counts.calls a0_0 true _ A17.out).mono ?_); rintro e w' ⟨rfl, ⟨nd, rfl⟩⟩; (try first | exact ⟨rfl, _, World.drewN_drewN _ _ _⟩ | exact ⟨rfl, _, Eq.trans (World.drewN_drewN _ _ _) (congrArg (World.drewN _) (Nat.add_assoc _ _ _))⟩)) | (go_at_call 24; (with_reducible refine (raft_counts.calls a0_1 true _ A19.out).mono ?_); rintro e w' ⟨rfl, ⟨nd, rfl⟩⟩; (try first | exact ⟨rfl, _, World.drewN_drewN _ _ _⟩ | exact ⟨rfl, _, Eq.trans (World.drewN_drewN _ _ _) (congrArg (World.drewN _) (Nat.add_assoc _ _ _))⟩)) | (go_at_call 34; (with_reducible refine (raft_rows.calls k _ _ l0_2 true _ ?Ac ?Ad A23.out).mono ?_); (case Ac => repeat (first | exact (Kd.C_below Ae.out (pE HB.out Ab.out)) | (with_reducible refine Kd.C_alloc ?_ _) | (with_reducible refine Kd.C_drewN ?_ _) | (with_reducible refine Kd.C_drew ?_))); (case Ad => exact Af.out); rintro e w27 ⟨rfl, hb⟩; replace Aa := kBa Aa hb; replace HB := Am (below_step (pE HB.out Ab.out) hb); (try clear hb); (try clear hb2); (try clear hk); (try clear hi); obtain ⟨Ax, Ay, Az, A0, A1, A2, A3⟩ := bc7 Aa.out; obtain ⟨A4, A5, A6, A7, A9, Ba, Bb⟩ := bf7 Aa.out) | (go_at_call 35; (with_reducible refine (hard_Check.calls a0_3 a0_4 a0_5 t121 _ A25.out).mono ?_); rintro e w29 ⟨rfl, hb⟩; replace Aa := kBa Aa hb; replace HB := Am (below_step (pE HB.out Ab.out) hb); (try clear hb); (try clear hb2); (try clear hk); (try clear hi)))
  repeat (go_quiet (first | (go_at_call 24; (with_reducible refine (raft_counts.calls a0_0 true _ A17.out).mono ?_); rintro e w' ⟨rfl, ⟨nd, rfl⟩⟩; (try first | exact ⟨rfl, _, World.drewN_drewN _ _ _⟩ | exact ⟨rfl, _, Eq.trans (World.drewN_drewN _ _ _) (congrArg (World.drewN _) (Nat.add_assoc _ _ _))⟩)) | (go_at_call 24; (with_reducible refine (raft_counts.calls a0_1 true _ A19.out).mono ?_); rintro e w' ⟨rfl, ⟨nd, rfl⟩⟩; (try first | exact ⟨rfl, _, World.drewN_drewN _ _ _⟩ | exact ⟨rfl, _, Eq.trans (World.drewN_drewN _ _ _) (congrArg (World.drewN _) (Nat.add_assoc _ _ _))⟩)) | (go_at_call 34; (with_reducible refine (raft_rows.calls k _ _ l0_2 true _ ?Ac ?Ad A23.out).mono ?_); (case Ac => repeat (first | exact (Kd.C_below Ae.out (pE HB.out Ab.out)) | (with_reducible refine Kd.C_alloc ?_ _) | (with_reducible refine Kd.C_drewN ?_ _) | (with_reducible refine Kd.C_drew ?_))); (case Ad => exact Af.out); rintro e w27 ⟨rfl, hb⟩; replace Aa := kBa Aa hb; replace HB := Am (below_step (pE HB.out Ab.out) hb); (try clear hb); (try clear hb2); (try clear hk); (try clear hi); obtain ⟨Ax, Ay, Az, A0, A1, A2, A3⟩ := bc7 Aa.out; obtain ⟨A4, A5, A6, A7, A9, Ba, Bb⟩ := bf7 Aa.out) | (go_at_call 35; (with_reducible refine (hard_Check.calls a0_3 a0_4 a0_5 t121 _ A25.out).mono ?_); rintro e w29 ⟨rfl, hb⟩; replace Aa := kBa Aa hb; replace HB := Am (below_step (pE HB.out Ab.out) hb); (try clear hb); (try clear hb2); (try clear hk); (try clear hi))); try go_wp2_with (first | (go_at_call 24; (with_reducible refine (raft_counts.calls a0_0 true _ A17.out).mono ?_); rintro e w' ⟨rfl, ⟨nd, rfl⟩⟩; (try first | exact ⟨rfl, _, World.drewN_drewN _ _ _⟩ | exact ⟨rfl, _, Eq.trans (World.drewN_drewN _ _ _) (congrArg (World.drewN _) (Nat.add_assoc _ _ _))⟩)) | (go_at_call 24; (with_reducible refine (raft_counts.calls a0_1 true _ A19.out).mono ?_); rintro e w' ⟨rfl, ⟨nd, rfl⟩⟩; (try first | exact ⟨rfl, _, World.drewN_drewN _ _ _⟩ | exact ⟨rfl, _, Eq.trans (World.drewN_drewN _ _ _) (congrArg (World.drewN _) (Nat.add_assoc _ _ _))⟩)) | (go_at_call 34; (with_reducible refine (raft_rows.calls k _ _ l0_2 true _ ?Ac ?Ad A23.out).mono ?_); (case Ac => repeat (first | exact (Kd.C_below Ae.out (pE HB.out Ab.out)) | (with_reducible refine Kd.C_alloc ?_ _) | (with_reducible refine Kd.C_drewN ?_ _) | (with_reducible refine Kd.C_drew ?_))); (case Ad => exact Af.out); rintro e w27 ⟨rfl, hb⟩; replace Aa := kBa Aa hb; replace HB := Am (below_step (pE HB.out Ab.out) hb); (try clear hb); (try clear hb2); (try clear hk); (try clear hi); obtain ⟨Ax, Ay, Az, A0, A1, A2, A3⟩ := bc7 Aa.out; obtain ⟨A4, A5, A6, A7, A9, Ba, Bb⟩ := bf7 Aa.out) | (go_at_call 35; (with_reducible refine (hard_Check.calls a0_3 a0_4 a0_5 t121 _ A25.out).mono ?_); rintro e w29 ⟨rfl, hb⟩; replace Aa := kBa Aa hb; replace HB := Am (below_step (pE HB.out Ab.out) hb); (try clear hb); (try clear hb2); (try clear hk); (try clear hi))))
  go_meet
  case rel => exact ⟨_, ((t121 != 0)), (by first | rfl | (simp; done) | (simp [*]; done)), H', ⟨by first | omega | exact Nat.le_refl _⟩, ⟨pK Aa.out⟩, ⟨pE HB.out Ab.out⟩⟩
 case rest =>
  clear HC2
  try clear c1
  try clear c2
  try clear p2
  try clear c3
  try clear c4
  try clear c4b0
  try clear c4b1
  try clear c5
  try clear c5b0
  try clear c5b1
  try clear c6
  try clear c6b0
  try clear c6b1
  try clear c9
  try clear c18
  try clear c20
  try clear c21
  try clear c21b0
  try clear c21b1
  try clear c24
  try clear c35
  try clear c37
  try clear c38
  try clear c38b0
  try clear c38b1
  try clear c41
  try clear Bv Bw Bx By Bz B0 B1
  try clear Ai Aj Ak Al An Ao Ap
  try clear B9 Ca Cb Cc Cd Ce Cf
  try clear Cn Co Cp Cq Cr Cs Ct
  try clear C1 C2 C3 C4 C5 C6 C7
  try clear Ax Ay Az A0 A1 A2 A3
  try clear Df Dg Dh Di Dj Dk Dl
  try clear Dt Du Dv Dw Dx Dy Dz
  try clear D7 D8 D9 Ea Eb Ec Ed
  try clear El Em En Eo Ep Er Es
  try clear E1 E2 E3 E4 E5 E6 E7
  try clear Bc Bd Be Bf Bg Bh Bi
  try clear Ff Fg Fh Fi Fj Fk Fl
  try clear Ft Fu Fv Fw Fx Fy Fz
  try clear F7 F8 F9 Ga Gb Gc Gd
  try clear Gx Gy Gz G0 G1 G2 G3
  try clear B2 B3 B4 B5 B6 B7 B8
  try clear Aq Ar As At Au Av Aw
  try clear Cg Ch Ci Cj Ck Cl Cm
  try clear Cu Cv Cw Cx Cy Cz C0
  try clear C8 C9 Da Db Dc Dd De
  try clear A4 A5 A6 A7 A9 Ba Bb
  try clear Dm Dn Do Dp Dq Dr Ds
  try clear D0 D1 D2 D3 D4 D5 D6
  try clear Ee Ef Eg Eh Ei Ej Ek
  try clear Et Eu Ew Ex Ey Ez E0
  try clear E8 E9 Fa Fb Fc Fd Fe
  try clear Bj Bk Bl Bm Bn Bo Bp
  try clear Fm Fn Fo Fp Fq Fr Fs
  try clear F0 F1 F2 F3 F4 F5 F6
  try clear Ge Gf Gg Gh Gi Gj Gk
  try clear G4 G5 G6 G7 G8 G9 Ha
  obtain ⟨kq, Bu, rfl, HA, HJ1, Aa, HB⟩ := hcut
  cases kq with
  | zero => exact absurd HA.out (by simp [raft_Check.j0])
  | succ kj1 =>
   have H := HA.out
   clear HA
   simp only [raft_Check.j0] at H
   by_cases c51 : Bu = true
   ·subst c51
    have H1 : (some 1) = some r := by rw [if_pos rfl] at H; exact H
    clear H
    have H := H1
    clear H1
    obtain rfl := Option.some.inj H
    go_wp2
    repeat (go_quiet (fail); try go_wp2)
    go_ret
    exact ⟨pX, pE HB.out Ab.out⟩
   replace c51 := Bool.eq_false_iff.mpr c51
   subst c51
   have H1 : (if (l0_2.length : Int) > 0 then (if 0 < (l0_2.length : Int) then (if ((rd_T55 l0_2 0).f0) = (wrap64 (a0_0 + 1)) then (raft_Check.j1 kj1 (decide (((rd_T55 l0_2 0).f1) < a0_1)) a0_0 a0_1 l0_2 a0_3 a0_4 a0_5 a0_6) else (raft_Check.j1 kj1 true a0_0 a0_1 l0_2 a0_3 a0_4 a0_5 a0_6)) else (none)) else (raft_Check.j1 kj1 false a0_0 a0_1 l0_2 a0_3 a0_4 a0_5 a0_6)) = some r := by rw [if_neg (show ¬ (false = true) by decide)] at H; exact H
   clear H
   have H := H1
   clear H1
   have HC52 := Am H
   clear H
   go_upto_region 3 with (fail)
   repeat (go_quiet (fail); go_upto_region 3 with (fail))
   go_cut [64] (fun v64 wc => ∃ (kq : Nat) (Br : Bool), v64 = .bool Br ∧ Aside0 (raft_Check.j1 kq Br a0_0 a0_1 l0_2 a0_3 a0_4 a0_5 a0_6 = some r) ∧ Aside0 (kq ≤ kj1) ∧ Aside0 (wc.heap[Bq]? = some (.cells #[.int .i64 a0_0, .int .i64 a0_1, (.slice A0_2 l0_2.length c0_2), .int .i64 a0_3, .int .i64 a0_4, .int .i64 a0_5, .int .i64 a0_6] 26 (0, 0))) ∧ Aside0 (Below w.heap.size w wc))
   case first =>
    have H := HC52.out
    clear HC52
    by_cases c53 : (l0_2.length : Int) > 0
    rotate_left
    ·rw [if_neg c53] at H
     have c53b0 : decide (0 < (l0_2.length : Int)) = false := decide_eq_false c53
     have c53b1 : decide (0 < l0_2.length) = false := decide_eq_false (by omega)
     clear c53
     (first | rw [c53b0] | (simp only [i64_w, i32_w]; rw [c53b0]) | skip)
     have H' := Am H
     clear H
     obtain ⟨Ig, Ih, Ii, Ij, Ik, Il, Im⟩ := bc7 Aa.out
     obtain ⟨In, Io, Ip, Iq, Ir, Is, It⟩ := bf7 Aa.out
     go_wp2
     repeat (go_quiet (fail); try go_wp2)
     go_meet
     case rel => exact ⟨_, (false), (by first | rfl | (simp; done) | (simp [*]; done)), H', ⟨by have := HJ1.out; first | omega | exact Nat.le_refl _⟩, ⟨pK Aa.out⟩, ⟨pE HB.out Ab.out⟩⟩
    rw [if_pos c53] at H
    have c53b0 : decide (0 < (l0_2.length : Int)) = true := decide_eq_true c53
    have c53b1 : decide (0 < l0_2.length) = true := decide_eq_true (by omega)
    clear c53
    (first | rw [c53b0] | (simp only [i64_w, i32_w]; rw [c53b0]) | skip)
    by_cases c54 : 0 < (l0_2.length : Int)
    rotate_left
    ·rw [if_neg c54] at H
     exact absurd H (by simp)
    rw [if_pos c54] at H
    have c54b0 : decide (0 < (l0_2.length : Int)) = true := decide_eq_true c54
    have c54b1 : decide (0 < l0_2.length) = true := decide_eq_true (by omega)
    clear c54
    by_cases c55 : ((rd_T55 l0_2 0).f0) = (wrap64 (a0_0 + 1))
    rotate_left
    ·rw [if_neg c55] at H
     have c55b0 : (((rd_T55 l0_2 0).f0) == (wrap64 (a0_0 + 1))) = false := beq_eq_false_iff_ne.mpr c55
     have c55b1 : (((rd_T55 l0_2 0).f0) != (wrap64 (a0_0 + 1))) = true := bne_iff_ne.mpr c55
     have H' := Am H
     clear H
     obtain ⟨H0, H2, H3, H4, H5, H6, H7⟩ := bc7 Aa.out
     obtain ⟨H8, H9, Ia, Ib, Ic, Ie, If⟩ := bf7 Aa.out
     have p126 : 0 ≤ (0 : Int) := (by omega)
     have q126 : 0 < (l0_2.length : Int) := of_decide_eq_true pS
     obtain ⟨Iu, Iv, c126_5, e126, Gl, Gm, Gn, Go, Gp, Bs, Gq, Gr, Gs, Gt, Ag, Ah⟩ := at_T55uz Ae.out p126 q126 HB.out
     cases e126
     have qi126 : (0 < l0_2.length) = True := eq_true (by omega)
     have Hp := Am Ah
     have Hq := Am Ag
     clear Ah Ag
     replace p126 := eq_true p126
     replace q126 := eq_true q126
     go_wp2
     repeat (go_quiet (fail); try go_wp2)
     go_meet
     case rel => exact ⟨_, (true), (by first | rfl | (simp; done) | (simp [*]; done)), H', ⟨by have := HJ1.out; first | omega | exact Nat.le_refl _⟩, ⟨pK Aa.out⟩, ⟨pE HB.out Ab.out⟩⟩
    rw [if_pos c55] at H
    have c55b0 : (((rd_T55 l0_2 0).f0) == (wrap64 (a0_0 + 1))) = true := beq_iff_eq.mpr c55
    have c55b1 : (((rd_T55 l0_2 0).f0) != (wrap64 (a0_0 + 1))) = false := bne_eq_false_iff_eq.mpr c55
    clear c55
    have H' := Am H
    clear H
    obtain ⟨Hb, Hc, Hd, He, Hf, Hg, Hh⟩ := bc7 Aa.out
    obtain ⟨Hi, Hj, Hk, Hl, Hm, Hn, Ho⟩ := bf7 Aa.out
    have p126 : 0 ≤ (0 : Int) := (by omega)
    have q126 : 0 < (l0_2.length : Int) := of_decide_eq_true pS
    obtain ⟨Iu, Iv, c126_5, e126, Gl, Gm, Gn, Go, Gp, Bs, Gq, Gr, Gs, Gt, Ag, Ah⟩ := at_T55uz Ae.out p126 q126 HB.out
    cases e126
    have qi126 : (0 < l0_2.length) = True := eq_true (by omega)
    have Hp := Am Ah
    have Hq := Am Ag
    clear Ah Ag
    replace p126 := eq_true p126
    replace q126 := eq_true q126
    have p127 : 0 ≤ (0 : Int) := (by omega)
    have q127 : 0 < (l0_2.length : Int) := of_decide_eq_true pS
    obtain ⟨Iw, A127_5, c127_5, e127, Hr, Hs, Ht, Hu, Hv, Gu, Hw, Hx, Hy, Hz, Gv, Gw⟩ := at_T55uz Ae.out p127 q127 HB.out
    obtain rfl : Iu = Iw := (by injection e127)
    have qi127 : (0 < l0_2.length) = True := eq_true (by omega)
    have HR127_5 := Am Gw
    have HC127_5 := Am Gv
    clear Gw Gv
    replace p127 := eq_true p127
    replace q127 := eq_true q127
    have ea_ := Option.some.inj (Bs.symm.trans Gu)
    injection ea_ with ea_ en_ ec_
    subst ea_
    subst ec_
    clear en_
    go_wp2
    repeat (go_quiet (fail); try go_wp2)
    go_meet
    case rel => exact ⟨_, (decide (((rd_T55 l0_2 0).f1) < a0_1)), (by first | rfl | (simp; done) | (simp [*]; done)), H', ⟨by have := HJ1.out; first | omega | exact Nat.le_refl _⟩, ⟨pK Aa.out⟩, ⟨pE HB.out Ab.out⟩⟩
   case rest =>
    clear HC52
    try clear c1
    try clear p1
    try clear q1
    try clear hx1
    try clear qi1
    try clear c2
    try clear p2
    try clear c3
    try clear c4
    try clear c4b0
    try clear c4b1
    try clear c5
    try clear c5b0
    try clear c5b1
    try clear c6
    try clear c6b0
    try clear c6b1
    try clear p6
    try clear c9
    try clear c12
    try clear p12
    try clear q12
    try clear hx12
    try clear qi12
    try clear c18
    try clear c20
    try clear c21
    try clear c21b0
    try clear c21b1
    try clear c24
    try clear c35
    try clear c37
    try clear c38
    try clear c38b0
    try clear c38b1
    try clear c41
    try clear c51
    try clear c53
    try clear c53b0
    try clear c53b1
    try clear c54
    try clear c54b0
    try clear c54b1
    try clear c55
    try clear c55b0
    try clear c55b1
    try clear Bv Bw Bx By Bz B0 B1
    try clear Ai Aj Ak Al An Ao Ap
    try clear B9 Ca Cb Cc Cd Ce Cf
    try clear Cn Co Cp Cq Cr Cs Ct
    try clear C1 C2 C3 C4 C5 C6 C7
    try clear Ax Ay Az A0 A1 A2 A3
    try clear Df Dg Dh Di Dj Dk Dl
    try clear Dt Du Dv Dw Dx Dy Dz
    try clear D7 D8 D9 Ea Eb Ec Ed
    try clear El Em En Eo Ep Er Es
    try clear E1 E2 E3 E4 E5 E6 E7
    try clear Bc Bd Be Bf Bg Bh Bi
    try clear Ff Fg Fh Fi Fj Fk Fl
    try clear Ft Fu Fv Fw Fx Fy Fz
    try clear F7 F8 F9 Ga Gb Gc Gd
    try clear Hb Hc Hd He Hf Hg Hh
    try clear H0 H2 H3 H4 H5 H6 H7
    try clear Ig Ih Ii Ij Ik Il Im
    try clear Gx Gy Gz G0 G1 G2 G3
    try clear B2 B3 B4 B5 B6 B7 B8
    try clear Aq Ar As At Au Av Aw
    try clear Cg Ch Ci Cj Ck Cl Cm
    try clear Cu Cv Cw Cx Cy Cz C0
    try clear C8 C9 Da Db Dc Dd De
    try clear A4 A5 A6 A7 A9 Ba Bb
    try clear Dm Dn Do Dp Dq Dr Ds
    try clear D0 D1 D2 D3 D4 D5 D6
    try clear Ee Ef Eg Eh Ei Ej Ek
    try clear Et Eu Ew Ex Ey Ez E0
    try clear E8 E9 Fa Fb Fc Fd Fe
    try clear Bj Bk Bl Bm Bn Bo Bp
    try clear Fm Fn Fo Fp Fq Fr Fs
    try clear F0 F1 F2 F3 F4 F5 F6
    try clear Ge Gf Gg Gh Gi Gj Gk
    try clear Hi Hj Hk Hl Hm Hn Ho
    try clear H8 H9 Ia Ib Ic Ie If
    try clear In Io Ip Iq Ir Is It
    try clear G4 G5 G6 G7 G8 G9 Ha
    try clear Gl
    try clear Gm
    try clear Gn
    try clear Go
    try clear Gp
    try clear Bs
    try clear Gq
    try clear Gr
    try clear Gs
    try clear Gt
    try clear Hr
    try clear Hs
    try clear Ht
    try clear Hu
    try clear Hv
    try clear Gu
    try clear Hw
    try clear Hx
    try clear Hy
    try clear Hz
    try clear p126
    try clear p127
    try clear p2
    try clear q126
    try clear q127
    obtain ⟨kq, Br, rfl, HA, HJ51, Aa, HB⟩ := hcut
    cases kq with
    | zero => exact absurd HA.out (by simp [raft_Check.j1])
    | succ kj51 =>
     have H := HA.out
     clear HA
     simp only [raft_Check.j1] at H
     by_cases c59 : Br = true
     ·subst c59
      have H1 : (some 1) = some r := by rw [if_pos rfl] at H; exact H
      clear H
      have H := H1
      clear H1
      obtain rfl := Option.some.inj H
      go_wp2
      repeat (go_quiet (fail); try go_wp2)
      go_ret
      exact ⟨pX, pE HB.out Ab.out⟩
     replace c59 := Bool.eq_false_iff.mpr c59
     subst c59
     have H1 : (if a0_6 < a0_0 then (some 1) else (if a0_6 > a0_5 then (some 1) else (if a0_5 > (wrap64 (a0_0 + (l0_2.length : Int))) then (some 1) else (some 0)))) = some r := by rw [if_neg (show ¬ (false = true) by decide)] at H; exact H
     clear H
     have H := H1
     clear H1
     by_cases c60 : a0_6 < a0_0
     ·rw [if_pos c60] at H
      have c60b0 : decide (a0_6 < a0_0) = true := decide_eq_true c60
      clear c60
      obtain rfl := Option.some.inj H
      obtain ⟨_, _, _, _, _, _, _⟩ := bc7 Aa.out
      obtain ⟨_, _, _, _, _, _, _⟩ := bf7 Aa.out
      go_wp2
      repeat (go_quiet (fail); try go_wp2)
      go_ret
      exact ⟨pX, pE HB.out Ab.out⟩
     rw [if_neg c60] at H
     have c60b0 : decide (a0_6 < a0_0) = false := decide_eq_false c60
     clear c60
     by_cases c62 : a0_6 > a0_5
     ·rw [if_pos c62] at H
      have c62b0 : decide (a0_5 < a0_6) = true := decide_eq_true c62
      clear c62
      obtain rfl := Option.some.inj H
      obtain ⟨_, _, _, _, _, _, _⟩ := bc7 Aa.out
      obtain ⟨_, _, _, _, _, _, _⟩ := bf7 Aa.out
      go_wp2
      repeat (go_quiet (fail); try go_wp2)
      go_ret
      exact ⟨pX, pE HB.out Ab.out⟩
     rw [if_neg c62] at H
     have c62b0 : decide (a0_5 < a0_6) = false := decide_eq_false c62
     clear c62
     by_cases c64 : a0_5 > (wrap64 (a0_0 + (l0_2.length : Int)))
     ·rw [if_pos c64] at H
      have c64b0 : decide ((wrap64 (a0_0 + (l0_2.length : Int))) < a0_5) = true := decide_eq_true c64
      clear c64
      obtain rfl := Option.some.inj H
      obtain ⟨_, _, _, _, _, _, _⟩ := bc7 Aa.out
      obtain ⟨_, _, _, _, _, _, _⟩ := bf7 Aa.out
      go_wp2
      repeat (go_quiet (fail); try go_wp2)
      go_ret
      exact ⟨pX, pE HB.out Ab.out⟩
     rw [if_neg c64] at H
     have c64b0 : decide ((wrap64 (a0_0 + (l0_2.length : Int))) < a0_5) = false := decide_eq_false c64
     clear c64
     obtain rfl := Option.some.inj H
     obtain ⟨_, _, _, _, _, _, _⟩ := bc7 Aa.out
     obtain ⟨_, _, _, _, _, _, _⟩ := bf7 Aa.out
     go_wp2
     repeat (go_quiet (fail); try go_wp2)
     go_ret
     exact ⟨pX, pE HB.out Ab.out⟩
def raft_Last.f (k : Nat) (a0_0 : Int) (a0_1 : Int) (l0_2 : List (S55)) (a0_3 : Int) (a0_4 : Int) (a0_5 : Int) (a0_6 : Int) : Option (Int × Int) := (raft_Check.f k a0_0 a0_1 l0_2 a0_3 a0_4 a0_5 a0_6).bind fun t129 => (if t129 = 0 then (if (l0_2.length : Int) > 0 then (if 0 ≤ (wrap64 ((l0_2.length : Int) - 1)) then (if (wrap64 ((l0_2.length : Int) - 1)) < (l0_2.length : Int) then (some ((rd_T55 l0_2 (wrap64 ((l0_2.length : Int) - 1))).f0, (rd_T55 l0_2 (wrap64 ((l0_2.length : Int) - 1))).f1)) else (none)) else (none)) else (some (a0_0, a0_1))) else (some (0, 0)))
theorem raft_Last.mono : ∀ a0 a1 a2 a3 a4 a5 a6 k, LeO (raft_Last.f k a0 a1 a2 a3 a4 a5 a6) (raft_Last.f (k + 1) a0 a1 a2 a3 a4 a5 a6) := by
 intro a0 a1 a2 a3 a4 a5 a6 k
 unfold raft_Last.f
 repeat' first
   | (with_reducible exact raft_Check.mono _ _ _ _ _ _ _ _)
   | (with_reducible exact LeO.refl _)
   | (with_reducible exact LeO.none _)
   | (with_reducible refine LeO.ite ?_ ?_)
   | (with_reducible refine LeO.bind ?_ (fun _ => ?_))
   | exact raft_Check.mono _ _ _ _ _ _ _ _
   | exact LeO.none _
   | refine LeO.ite ?_ ?_
   | refine LeO.bind ?_ (fun _ => ?_)
set_option maxHeartbeats 8000000 in
set_option maxRecDepth 100000 in
theorem raft_Last.calls (k : Nat) (a0_0 : Int) (a0_1 : Int) (A0_2 : Option Addr) (c0_2 : Nat) (l0_2 : List (S55)) (a0_3 : Int) (a0_4 : Int) (a0_5 : Int) (a0_6 : Int) (r1 : Int) (r2 : Int) (w : World) (hr0_2 : Kd.C k55 w A0_2 l0_2.length l0_2) (hc0_2 : l0_2.length ≤ c0_2) (h : raft_Last.f k a0_0 a0_1 l0_2 a0_3 a0_4 a0_5 a0_6 = some (r1, r2)) :
  Calls Try.prog 20 #[.agg #[.int .i64 a0_0, .int .i64 a0_1, .slice A0_2 l0_2.length c0_2, .int .i64 a0_3, .int .i64 a0_4, .int .i64 a0_5, .int .i64 a0_6]] w fun e w' => e = .returned (.tuple #[.int .i64 r1, .int .i64 r2]) ∧ Below w.heap.size w w' := by
 have hu26 := Try.underlying26
 have Ai := Am hr0_2
 have A7 := Am hc0_2
 clear hr0_2 hc0_2
 have HB := Am (Below.refl w.heap.size w)
 have H : ((raft_Check.f k a0_0 a0_1 l0_2 a0_3 a0_4 a0_5 a0_6).bind fun t129 => (if t129 = 0 then (if (l0_2.length : Int) > 0 then (if 0 ≤ (wrap64 ((l0_2.length : Int) - 1)) then (if (wrap64 ((l0_2.length : Int) - 1)) < (l0_2.length : Int) then (some ((rd_T55 l0_2 (wrap64 ((l0_2.length : Int) - 1))).f0, (rd_T55 l0_2 (wrap64 ((l0_2.length : Int) - 1))).f1)) else (none)) else (none)) else (some (a0_0, a0_1))) else (some (0, 0)))) = some (r1, r2) := h
 clear h
 replace H := Option.bind_eq_some_iff.mp H
 obtain ⟨t129, A20, H⟩ := H
 replace H : (if t129 = 0 then (if (l0_2.length : Int) > 0 then (if 0 ≤ (wrap64 ((l0_2.length : Int) - 1)) then (if (wrap64 ((l0_2.length : Int) - 1)) < (l0_2.length : Int) then (some ((rd_T55 l0_2 (wrap64 ((l0_2.length : Int) - 1))).f0, (rd_T55 l0_2 (wrap64 ((l0_2.length : Int) - 1))).f1)) else (none)) else (none)) else (some (a0_0, a0_1))) else (some (0, 0))) = some (r1, r2) := H
 have A2 := Am A20
 clear A20
 by_cases c3 : t129 = 0
 rotate_left
 ·rw [if_neg c3] at H
  have c3b0 : (t129 == 0) = false := beq_eq_false_iff_ne.mpr c3
  have c3b1 : (t129 != 0) = true := bne_iff_ne.mpr c3
  simp only [Option.some.injEq, Prod.mk.injEq] at H
  obtain ⟨rfl, rfl⟩ := H
  go_enter Try.func20, Try.ntmps20
  go_wp2_with (first | ((with_reducible refine gate_dst (N := 1) rfl ?_); refine box_event ?hg (N := 1) ?hd (cs := #[.int .i64 a0_0, .int .i64 a0_1, .slice A0_2 l0_2.length c0_2, .int .i64 a0_3, .int .i64 a0_4, .int .i64 a0_5, .int .i64 a0_6]) (t := 26) ?hr ?_; (case hd => rfl); (case hg => rfl); (case hr => first | (go_simp; done) | (go_simp; rfl)); intro Ae hg w16 hbox hb; have Aa := Am (hbox); have Af := Am ((by rw [hg]; exact (below_size (pB HB.out)) : w.heap.size ≤ Ae)); replace HB := Am (below_step (pB HB.out) hb); have Ab := Af; clear hb hbox hg; obtain ⟨Ck, Cl, Cm, Cn, Co, Cp, Cq⟩ := bc7 Aa.out; obtain ⟨Cr, Cs, Ct, Cu, Cv, Cw, Cx⟩ := bf7 Aa.out) | (go_at_call 21; (with_reducible refine (raft_Check.calls k a0_0 a0_1 _ _ l0_2 a0_3 a0_4 a0_5 a0_6 t129 _ ?Ag ?Ah A2.out).mono ?_); (case Ag => exact pC (Kd.C_below Ai.out HB.out)); (case Ah => exact A7.out); rintro e w18 ⟨rfl, hb⟩; replace Aa := kBa Aa hb; replace HB := Am (below_step (pE HB.out Ab.out) hb); (try clear hb); (try clear hb2); (try clear hk); (try clear hi)))
  repeat (go_quiet (first | ((with_reducible refine gate_dst (N := 1) rfl ?_); refine box_event ?hg (N := 1) ?hd (cs := #[.int .i64 a0_0, .int .i64 a0_1, .slice A0_2 l0_2.length c0_2, .int .i64 a0_3, .int .i64 a0_4, .int .i64 a0_5, .int .i64 a0_6]) (t := 26) ?hr ?_; (case hd => rfl); (case hg => rfl); (case hr => first | (go_simp; done) | (go_simp; rfl)); intro Ae hg w16 hbox hb; have Aa := Am (hbox); have Af := Am ((by rw [hg]; exact (below_size (pB HB.out)) : w.heap.size ≤ Ae)); replace HB := Am (below_step (pB HB.out) hb); have Ab := Af; clear hb hbox hg; obtain ⟨Ck, Cl, Cm, Cn, Co, Cp, Cq⟩ := bc7 Aa.out; obtain ⟨Cr, Cs, Ct, Cu, Cv, Cw, Cx⟩ := bf7 Aa.out) | (go_at_call 21; (with_reducible refine (raft_Check.calls k a0_0 a0_1 _ _ l0_2 a0_3 a0_4 a0_5 a0_6 t129 _ ?Ag ?Ah A2.out).mono ?_); (case Ag => exact pC (Kd.C_below Ai.out HB.out)); (case Ah => exact A7.out); rintro e w18 ⟨rfl, hb⟩; replace Aa := kBa Aa hb; replace HB := Am (below_step (pE HB.out Ab.out) hb); (try clear hb); (try clear hb2); (try clear hk); (try clear hi))); try go_wp2_with (first | ((with_reducible refine gate_dst (N := 1) rfl ?_); refine box_event ?hg (N := 1) ?hd (cs := #[.int .i64 a0_0, .int .i64 a0_1, .slice A0_2 l0_2.length c0_2, .int .i64 a0_3, .int .i64 a0_4, .int .i64 a0_5, .int .i64 a0_6]) (t := 26) ?hr ?_; (case hd => rfl); (case hg => rfl); (case hr => first | (go_simp; done) | (go_simp; rfl)); intro Ae hg w16 hbox hb; have Aa := Am (hbox); have Af := Am ((by rw [hg]; exact (below_size (pB HB.out)) : w.heap.size ≤ Ae)); replace HB := Am (below_step (pB HB.out) hb); have Ab := Af; clear hb hbox hg; obtain ⟨Ck, Cl, Cm, Cn, Co, Cp, Cq⟩ := bc7 Aa.out; obtain ⟨Cr, Cs, Ct, Cu, Cv, Cw, Cx⟩ := bf7 Aa.out) | (go_at_call 21; (with_reducible refine (raft_Check.calls k a0_0 a0_1 _ _ l0_2 a0_3 a0_4 a0_5 a0_6 t129 _ ?Ag ?Ah A2.out).mono ?_); (case Ag => exact pC (Kd.C_below Ai.out HB.out)); (case Ah => exact A7.out); rintro e w18 ⟨rfl, hb⟩; replace Aa := kBa Aa hb; replace HB := Am (below_step (pE HB.out Ab.out) hb); (try clear hb); (try clear hb2); (try clear hk); (try clear hi))))
  go_ret2
  exact ⟨pX, pE HB.out Ab.out⟩
 rw [if_pos c3] at H
 have c3b0 : (t129 == 0) = true := beq_iff_eq.mpr c3
 have c3b1 : (t129 != 0) = false := bne_eq_false_iff_eq.mpr c3
 clear c3
 by_cases c4 : (l0_2.length : Int) > 0
 rotate_left
 ·rw [if_neg c4] at H
  have c4b0 : decide (0 < (l0_2.length : Int)) = false := decide_eq_false c4
  have c4b1 : decide (0 < l0_2.length) = false := decide_eq_false (by omega)
  clear c4
  simp only [Option.some.injEq, Prod.mk.injEq] at H
  obtain ⟨rfl, rfl⟩ := H
  go_enter Try.func20, Try.ntmps20
  go_wp2_with (first | ((with_reducible refine gate_dst (N := 1) rfl ?_); refine box_event ?hg (N := 1) ?hd (cs := #[.int .i64 a0_0, .int .i64 a0_1, .slice A0_2 l0_2.length c0_2, .int .i64 a0_3, .int .i64 a0_4, .int .i64 a0_5, .int .i64 a0_6]) (t := 26) ?hr ?_; (case hd => rfl); (case hg => rfl); (case hr => first | (go_simp; done) | (go_simp; rfl)); intro Ae hg w12 hbox hb; have Aa := Am (hbox); have Af := Am ((by rw [hg]; exact (below_size (pB HB.out)) : w.heap.size ≤ Ae)); replace HB := Am (below_step (pB HB.out) hb); have Ab := Af; clear hb hbox hg; obtain ⟨Bs, Bt, Bu, Bv, Bw, Bx, By⟩ := bc7 Aa.out; obtain ⟨Bz, B0, B1, B2, B3, B4, B5⟩ := bf7 Aa.out) | (go_at_call 21; (with_reducible refine (raft_Check.calls k a0_0 a0_1 _ _ l0_2 a0_3 a0_4 a0_5 a0_6 t129 _ ?Ag ?Ah A2.out).mono ?_); (case Ag => exact pC (Kd.C_below Ai.out HB.out)); (case Ah => exact A7.out); rintro e w14 ⟨rfl, hb⟩; replace Aa := kBa Aa hb; replace HB := Am (below_step (pE HB.out Ab.out) hb); (try clear hb); (try clear hb2); (try clear hk); (try clear hi); obtain ⟨B6, B7, B8, B9, Ca, Cb, Cc⟩ := bc7 Aa.out; obtain ⟨Cd, Ce, Cf, Cg, Ch, Ci, Cj⟩ := bf7 Aa.out))
  repeat (go_quiet (first | ((with_reducible refine gate_dst (N := 1) rfl ?_); refine box_event ?hg (N := 1) ?hd (cs := #[.int .i64 a0_0, .int .i64 a0_1, .slice A0_2 l0_2.length c0_2, .int .i64 a0_3, .int .i64 a0_4, .int .i64 a0_5, .int .i64 a0_6]) (t := 26) ?hr ?_; (case hd => rfl); (case hg => rfl); (case hr => first | (go_simp; done) | (go_simp; rfl)); intro Ae hg w12 hbox hb; have Aa := Am (hbox); have Af := Am ((by rw [hg]; exact (below_size (pB HB.out)) : w.heap.size ≤ Ae)); replace HB := Am (below_step (pB HB.out) hb); have Ab := Af; clear hb hbox hg; obtain ⟨Bs, Bt, Bu, Bv, Bw, Bx, By⟩ := bc7 Aa.out; obtain ⟨Bz, B0, B1, B2, B3, B4, B5⟩ := bf7 Aa.out) | (go_at_call 21; (with_reducible refine (raft_Check.calls k a0_0 a0_1 _ _ l0_2 a0_3 a0_4 a0_5 a0_6 t129 _ ?Ag ?Ah A2.out).mono ?_); (case Ag => exact pC (Kd.C_below Ai.out HB.out)); (case Ah => exact A7.out); rintro e w14 ⟨rfl, hb⟩; replace Aa := kBa Aa hb; replace HB := Am (below_step (pE HB.out Ab.out) hb); (try clear hb); (try clear hb2); (try clear hk); (try clear hi); obtain ⟨B6, B7, B8, B9, Ca, Cb, Cc⟩ := bc7 Aa.out; obtain ⟨Cd, Ce, Cf, Cg, Ch, Ci, Cj⟩ := bf7 Aa.out)); try go_wp2_with (first | ((with_reducible refine gate_dst (N := 1) rfl ?_); refine box_event ?hg (N := 1) ?hd (cs := #[.int .i64 a0_0, .int .i64 a0_1, .slice A0_2 l0_2.length c0_2, .int .i64 a0_3, .int .i64 a0_4, .int .i64 a0_5, .int .i64 a0_6]) (t := 26) ?hr ?_; (case hd => rfl); (case hg => rfl); (case hr => first | (go_simp; done) | (go_simp; rfl)); intro Ae hg w12 hbox hb; have Aa := Am (hbox); have Af := Am ((by rw [hg]; exact (below_size (pB HB.out)) : w.heap.size ≤ Ae)); replace HB := Am (below_step (pB HB.out) hb); have Ab := Af; clear hb hbox hg; obtain ⟨Bs, Bt, Bu, Bv, Bw, Bx, By⟩ := bc7 Aa.out; obtain ⟨Bz, B0, B1, B2, B3, B4, B5⟩ := bf7 Aa.out) | (go_at_call 21; (with_reducible refine (raft_Check.calls k a0_0 a0_1 _ _ l0_2 a0_3 a0_4 a0_5 a0_6 t129 _ ?Ag ?Ah A2.out).mono ?_); (case Ag => exact pC (Kd.C_below Ai.out HB.out)); (case Ah => exact A7.out); rintro e w14 ⟨rfl, hb⟩; replace Aa := kBa Aa hb; replace HB := Am (below_step (pE HB.out Ab.out) hb); (try clear hb); (try clear hb2); (try clear hk); (try clear hi); obtain ⟨B6, B7, B8, B9, Ca, Cb, Cc⟩ := bc7 Aa.out; obtain ⟨Cd, Ce, Cf, Cg, Ch, Ci, Cj⟩ := bf7 Aa.out)))
  go_ret2
  exact ⟨pX, pE HB.out Ab.out⟩
 rw [if_pos c4] at H
 have c4b0 : decide (0 < (l0_2.length : Int)) = true := decide_eq_true c4
 have c4b1 : decide (0 < l0_2.length) = true := decide_eq_true (by omega)
 clear c4
 obtain ⟨ji5, hji5⟩ : ∃ j_ : Int, (wrap64 ((l0_2.length : Int) - 1)) = j_ := ⟨_, rfl⟩
 replace H : (if 0 ≤ (ji5) then (if (ji5) < (l0_2.length : Int) then (some ((rd_T55 l0_2 (ji5)).f0, (rd_T55 l0_2 (ji5)).f1)) else (none)) else (none)) = some (r1, r2) := by first | (rw [hji5] at H; exact H) | (simp only [hji5] at H ⊢; exact H)
 (try rw [hji5] at A2)
 have hji5w : (IntKind.i64.wrap ((l0_2.length : Int) - 1)) = ji5 := (i64_w _).trans hji5
 by_cases c6 : 0 ≤ (ji5)
 rotate_left
 ·rw [if_neg c6] at H
  exact absurd H (by simp)
 rw [if_pos c6] at H
 have c6b0 : decide (0 ≤ (ji5)) = true := decide_eq_true c6
 clear c6
 by_cases c7 : (ji5) < (l0_2.length : Int)
 rotate_left
 ·rw [if_neg c7] at H
  exact absurd H (by simp)
 rw [if_pos c7] at H
 have c7b0 : decide ((ji5) < (l0_2.length : Int)) = true := decide_eq_true c7
 clear c7
 simp only [Option.some.injEq, Prod.mk.injEq] at H
 obtain ⟨rfl, rfl⟩ := H
 go_enter Try.func20, Try.ntmps20
 go_wp2_with (first | ((with_reducible refine gate_dst (N := 1) rfl ?_); refine box_event ?hg (N := 1) ?hd (cs := #[.int .i64 a0_0, .int .i64 a0_1, .slice A0_2 l0_2.length c0_2, .int .i64 a0_3, .int .i64 a0_4, .int .i64 a0_5, .int .i64 a0_6]) (t := 26) ?hr ?_; (case hd => rfl); (case hg => rfl); (case hr => first | (go_simp; done) | (go_simp; rfl)); intro Ae hg w8 hbox hb; have Aa := Am (hbox); have Af := Am ((by rw [hg]; exact (below_size (pB HB.out)) : w.heap.size ≤ Ae)); replace HB := Am (below_step (pB HB.out) hb); have Ab := Af; clear hb hbox hg; obtain ⟨Cy, Cz, C0, C1, C2, C3, C4⟩ := bc7 Aa.out; obtain ⟨C5, C6, C7, C8, C9, Da, Db⟩ := bf7 Aa.out) | (go_at_call 21; (with_reducible refine (raft_Check.calls k a0_0 a0_1 _ _ l0_2 a0_3 a0_4 a0_5 a0_6 t129 _ ?Ag ?Ah A2.out).mono ?_); (case Ag => exact pC (Kd.C_below Ai.out HB.out)); (case Ah => exact A7.out); rintro e w10 ⟨rfl, hb⟩; replace Aa := kBa Aa hb; replace HB := Am (below_step (pE HB.out Ab.out) hb); (try clear hb); (try clear hb2); (try clear hk); (try clear hi); obtain ⟨Ba, Bb, Bc, Bd, Be, Bf, Bg⟩ := bc7 Aa.out; obtain ⟨Bh, Bi, Bj, Bk, Bl, Bm, Bn⟩ := bf7 Aa.out; have p130 : 0 ≤ ((ji5) : Int) := of_decide_eq_true pS; have q130 : (ji5) < (l0_2.length : Int) := of_decide_eq_true pS; obtain ⟨A8, Dc, c130_5, e130, Aj, Ak, Al, An, Ao, Ac, Ap, Aq, Ar, As, At, Au⟩ := at_T55 Ai.out (ji5) p130 q130; cases e130; replace Aj := cU HB.out Aj; replace Ak := cU HB.out Ak; replace Al := cU HB.out Al; replace An := cU HB.out An; replace Ao := cU HB.out Ao; replace Ac := cU HB.out Ac; replace Ap := cU HB.out Ap; replace Aq := cU HB.out Aq; replace Ar := cU HB.out Ar; replace As := cU HB.out As; have Bo := Am Au; have Bp := Am At; clear Au At; replace p130 := eq_true p130; replace q130 := eq_true q130; have p131 : 0 ≤ ((ji5) : Int) := of_decide_eq_true pS; have q131 : (ji5) < (l0_2.length : Int) := of_decide_eq_true pS; obtain ⟨A9, Dd, c131_5, e131, Av, Aw, Ax, Ay, Az, Ad, A0, A1, A3, A4, A5, A6⟩ := at_T55 Ai.out (ji5) p131 q131; obtain rfl : A8 = A9 := (by injection e131); replace Av := cU HB.out Av; replace Aw := cU HB.out Aw; replace Ax := cU HB.out Ax; replace Ay := cU HB.out Ay; replace Az := cU HB.out Az; replace Ad := cU HB.out Ad; replace A0 := cU HB.out A0; replace A1 := cU HB.out A1; replace A3 := cU HB.out A3; replace A4 := cU HB.out A4; have Bq := Am A6; have Br := Am A5; clear A6 A5; replace p131 := eq_true p131; replace q131 := eq_true q131; have ea_ := Option.some.inj (Ac.symm.trans Ad); injection ea_ with ea_ en_ ec_; subst ea_; subst ec_; clear en_))
 repeat (go_quiet (first | ((with_reducible refine gate_dst (N := 1) rfl ?_); refine box_event ?hg (N := 1) ?hd (cs := #[.int .i64 a0_0, .int .i64 a0_1, .slice A0_2 l0_2.length c0_2, .int .i64 a0_3, .int .i64 a0_4, .int .i64 a0_5, .int .i64 a0_6]) (t := 26) ?hr ?_; (case hd => rfl); (case hg => rfl); (case hr => first | (go_simp; done) | (go_simp; rfl)); intro Ae hg w8 hbox hb; have Aa := Am (hbox); have Af := Am ((by rw [hg]; exact (below_size (pB HB.out)) : w.heap.size ≤ Ae)); replace HB := Am (below_step (pB HB.out) hb); have Ab := Af; clear hb hbox hg; obtain ⟨Cy, Cz, C0, C1, C2, C3, C4⟩ := bc7 Aa.out; obtain ⟨C5, C6, C7, C8, C9, Da, Db⟩ := bf7 Aa.out) | (go_at_call 21; (with_reducible refine (raft_Check.calls k a0_0 a0_1 _ _ l0_2 a0_3 a0_4 a0_5 a0_6 t129 _ ?Ag ?Ah A2.out).mono ?_); (case Ag => exact pC (Kd.C_below Ai.out HB.out)); (case Ah => exact A7.out); rintro e w10 ⟨rfl, hb⟩; replace Aa := kBa Aa hb; replace HB := Am (below_step (pE HB.out Ab.out) hb); (try clear hb); (try clear hb2); (try clear hk); (try clear hi); obtain ⟨Ba, Bb, Bc, Bd, Be, Bf, Bg⟩ := bc7 Aa.out; obtain ⟨Bh, Bi, Bj, Bk, Bl, Bm, Bn⟩ := bf7 Aa.out; have p130 : 0 ≤ ((ji5) : Int) := of_decide_eq_true pS; have q130 : (ji5) < (l0_2.length : Int) := of_decide_eq_true pS; obtain ⟨A8, Dc, c130_5, e130, Aj, Ak, Al, An, Ao, Ac, Ap, Aq, Ar, As, At, Au⟩ := at_T55 Ai.out (ji5) p130 q130; cases e130; replace Aj := cU HB.out Aj; replace Ak := cU HB.out Ak; replace Al := cU HB.out Al; replace An := cU HB.out An; replace Ao := cU HB.out Ao; replace Ac := cU HB.out Ac; replace Ap := cU HB.out Ap; replace Aq := cU HB.out Aq; replace Ar := cU HB.out Ar; replace As := cU HB.out As; have Bo := Am Au; have Bp := Am At; clear Au At; replace p130 := eq_true p130; replace q130 := eq_true q130; have p131 : 0 ≤ ((ji5) : Int) := of_decide_eq_true pS; have q131 : (ji5) < (l0_2.length : Int) := of_decide_eq_true pS; obtain ⟨A9, Dd, c131_5, e131, Av, Aw, Ax, Ay, Az, Ad, A0, A1, A3, A4, A5, A6⟩ := at_T55 Ai.out (ji5) p131 q131; obtain rfl : A8 = A9 := (by injection e131); replace Av := cU HB.out Av; replace Aw := cU HB.out Aw; replace Ax := cU HB.out Ax; replace Ay := cU HB.out Ay; replace Az := cU HB.out Az; replace Ad := cU HB.out Ad; replace A0 := cU HB.out A0; replace A1 := cU HB.out A1; replace A3 := cU HB.out A3; replace A4 := cU HB.out A4; have Bq := Am A6; have Br := Am A5; clear A6 A5; replace p131 := eq_true p131; replace q131 := eq_true q131; have ea_ := Option.some.inj (Ac.symm.trans Ad); injection ea_ with ea_ en_ ec_; subst ea_; subst ec_; clear en_)); try go_wp2_with (first | ((with_reducible refine gate_dst (N := 1) rfl ?_); refine box_event ?hg (N := 1) ?hd (cs := #[.int .i64 a0_0, .int .i64 a0_1, .slice A0_2 l0_2.length c0_2, .int .i64 a0_3, .int .i64 a0_4, .int .i64 a0_5, .int .i64 a0_6]) (t := 26) ?hr ?_; (case hd => rfl); (case hg => rfl); (case hr => first | (go_simp; done) | (go_simp; rfl)); intro Ae hg w8 hbox hb; have Aa := Am (hbox); have Af := Am ((by rw [hg]; exact (below_size (pB HB.out)) : w.heap.size ≤ Ae)); replace HB := Am (below_step (pB HB.out) hb); have Ab := Af; clear hb hbox hg; obtain ⟨Cy, Cz, C0, C1, C2, C3, C4⟩ := bc7 Aa.out; obtain ⟨C5, C6, C7, C8, C9, Da, Db⟩ := bf7 Aa.out) | (go_at_call 21; (with_reducible refine (raft_Check.calls k a0_0 a0_1 _ _ l0_2 a0_3 a0_4 a0_5 a0_6 t129 _ ?Ag ?Ah A2.out).mono ?_); (case Ag => exact pC (Kd.C_below Ai.out HB.out)); (case Ah => exact A7.out); rintro e w10 ⟨rfl, hb⟩; replace Aa := kBa Aa hb; replace HB := Am (below_step (pE HB.out Ab.out) hb); (try clear hb); (try clear hb2); (try clear hk); (try clear hi); obtain ⟨Ba, Bb, Bc, Bd, Be, Bf, Bg⟩ := bc7 Aa.out; obtain ⟨Bh, Bi, Bj, Bk, Bl, Bm, Bn⟩ := bf7 Aa.out; have p130 : 0 ≤ ((ji5) : Int) := of_decide_eq_true pS; have q130 : (ji5) < (l0_2.length : Int) := of_decide_eq_true pS; obtain ⟨A8, Dc, c130_5, e130, Aj, Ak, Al, An, Ao, Ac, Ap, Aq, Ar, As, At, Au⟩ := at_T55 Ai.out (ji5) p130 q130; cases e130; replace Aj := cU HB.out Aj; replace Ak := cU HB.out Ak; replace Al := cU HB.out Al; replace An := cU HB.out An; replace Ao := cU HB.out Ao; replace Ac := cU HB.out Ac; replace Ap := cU HB.out Ap; replace Aq := cU HB.out Aq; replace Ar := cU HB.out Ar; replace As := cU HB.out As; have Bo := Am Au; have Bp := Am At; clear Au At; replace p130 := eq_true p130; replace q130 := eq_true q130; have p131 : 0 ≤ ((ji5) : Int) := of_decide_eq_true pS; have q131 : (ji5) < (l0_2.length : Int) := of_decide_eq_true pS; obtain ⟨A9, Dd, c131_5, e131, Av, Aw, Ax, Ay, Az, Ad, A0, A1, A3, A4, A5, A6⟩ := at_T55 Ai.out (ji5) p131 q131; obtain rfl : A8 = A9 := (by injection e131); replace Av := cU HB.out Av; replace Aw := cU HB.out Aw; replace Ax := cU HB.out Ax; replace Ay := cU HB.out Ay; replace Az := cU HB.out Az; replace Ad := cU HB.out Ad; replace A0 := cU HB.out A0; replace A1 := cU HB.out A1; replace A3 := cU HB.out A3; replace A4 := cU HB.out A4; have Bq := Am A6; have Br := Am A5; clear A6 A5; replace p131 := eq_true p131; replace q131 := eq_true q131; have ea_ := Option.some.inj (Ac.symm.trans Ad); injection ea_ with ea_ en_ ec_; subst ea_; subst ec_; clear en_)))
 go_ret2
 exact ⟨by first | rfl | (simp [errW_none, errW_some] <;> rfl) | (simp only [← hji5]; first | rfl | (simp [errW_none, errW_some] <;> rfl)) | (simp [*, errW_none, errW_some] <;> rfl), pE HB.out Ab.out⟩
def slices_Clone_byte_byte.f (l0 : List Int) : Option (List Int) := if l0.length < 140737488355328 then some l0 else none
set_option maxHeartbeats 4000000 in
set_option maxRecDepth 100000 in
theorem slices_Clone_byte_byte.calls (A0 : Option Addr) (c0 : Nat) (l0 : List Int) (r : List Int) (w : World) (hr0 : Kd.C (Kd.int .u8) w A0 l0.length l0) (hc0 : l0.length ≤ c0) (h : slices_Clone_byte_byte.f l0 = some r) :
  Calls Try.prog 40 #[.slice A0 l0.length c0] w fun e w' => ∃ v0_ : Value, e = .returned (v0_) ∧ Kd.R (Kd.int .u8) 5 w' w.heap.size (fun _ => True) v0_ r ∧ Below w.heap.size w w' := by
 unfold slices_Clone_byte_byte.f at h
 by_cases hl : l0.length < 140737488355328
 ·rw [if_pos hl] at h
  obtain rfl := Option.some.inj h
  have HR0 := Aside0.mk hr0
  have HC0 := Aside0.mk hc0
  have LM := Aside0.mk hl
  clear hr0 hc0 hl h
  have HB := Aside0.mk (Below.refl w.heap.size w)
  have heq := fun (W : World) (a : Option Addr) (n c : Nat) => Lib.run_eql_slice_nil (P := Try.prog) W 48 5 a n c 0 0 Try.underlying48
  cases A0 with
  | none =>
   have e0 : l0 = [] := by
    cases l0 with
    | nil => rfl
    | cons x y =>
     obtain ⟨ad, had, _⟩ := HR0.out.2.2 (by simp)
     cases had
   subst e0
   go_enter Try.func40, Try.ntmps40
   go_wp2
   go_ret
   exact ⟨_, rfl, Kd.R_nil _ _ _ _ _, HB.out⟩
  | some ad =>
   go_enter Try.func40, Try.ntmps40
   go_wp2_with (first | ((with_reducible refine gate_dst (N := 5) rfl ?_); refine Kd.R_lit (Kd.int .u8) _ 5 ?hg (N := 5) ?hd (xs := ([] : List Int)) (inner := []) (ok := fun _ => True) (okp := fun _ => True) ?hr ?hp (fun _ hk => hk) trivial (Below.refl _ _) (Nat.le_refl _) (by simp) ?_; (case hd => rfl); (case hg => rfl); (case hr => first | (go_simp; done) | (go_simp; rfl)); (case hp => exact (Reps.none _ _)); intro v182 w12 ho13 hb hg_ hnew_; clear hg_ hnew_; have n0_ := Aside0.mk (Kd.R_lower ho13 (below_size (by repeat (first | (with_reducible first | exact HB.out | apply below_alloc | apply pw_below_drewN | apply below_drew1) | exact HB.out)))); have n1_ := Aside0.mk (below_step (by repeat (first | (with_reducible first | exact HB.out | apply below_alloc | apply pw_below_drewN | apply below_drew1) | exact HB.out)) hb); clear HB; have HO183 := n0_; have HB := n1_; clear n0_ n1_; clear hb ho13) | ((with_reducible refine gate_builtin (b := .append) (xs := #[.tmp 5, .tmp 6]) rfl ?_); at_builtin; refine Kd.R_append_rows (Kd.int .u8) (w0 := w) w.heap.size rfl (.tmp 5) (.tmp 6) 48 5 (.int .u8 0) 1 rfl Try.underlying48 info5 rfl (by decide) (by omega) v182 [] l0 _ _ _ (fun _ => True) (fun _ => False) rfl rfl ?aO ?aR (fun _ _ h => h) (fun _ h => h.elim) ?aF ?aB ?aS ?aL ?_; (case aR => repeat (first | exact (Kd.C_below HR0.out HB.out) | (with_reducible refine Kd.C_alloc ?_ _) | (with_reducible refine Kd.C_drewN ?_ _) | (with_reducible refine Kd.C_drew ?_))); (case aB => exact (by repeat (first | (with_reducible first | exact HB.out | apply below_alloc | apply pw_below_drewN | apply below_drew1) | exact HB.out))); (case aF => exact (fun _ _ => trivial)); (case aO => exact (by (with_reducible repeat (first | apply Kd.R_alloc | apply Kd.R_drewN | apply Kd.R_drew)); exact HO183.out)); (case aS => exact (below_size (by repeat (first | (with_reducible first | exact HB.out | apply below_alloc | apply pw_below_drewN | apply below_drew1) | exact HB.out)))); (case aL => have := LM.out; simp only [List.length_nil]; omega); intro v185 w14 ho hb hg hat; have n0_ := Aside0.mk (hb); have n1_ := Aside0.mk (ho); clear HB; clear HO183; have HB := n0_; have HO186 := n1_; clear n0_ n1_; clear ho hb hg hat))
   go_ret
   exact ⟨_, rfl, HO186.out, HB.out⟩
 ·rw [if_neg hl] at h
  cases h
def raft_own.f (a0_0 : Int) (a0_1 : Int) (a0_2 : Int) (a0_3 : ByteArray) (a0_4 : Bool) (l0_5 : List Int) (a0_6 : Int) (a0_7 : Int) (a0_8 : Int) (a0_9 : Int) : Option (Int × Int × Int × ByteArray × Bool × List Int × Int × Int × Int × Int) := (slices_Clone_byte_byte.f l0_5).bind fun t134 => (some (a0_0, a0_1, a0_2, a0_3, a0_4, t134, a0_6, a0_7, a0_8, a0_9))
set_option maxHeartbeats 8000000 in
set_option maxRecDepth 100000 in
theorem raft_own.calls (a0_0 : Int) (a0_1 : Int) (a0_2 : Int) (a0_3 : ByteArray) (a0_4 : Bool) (A0_5 : Option Addr) (c0_5 : Nat) (l0_5 : List Int) (a0_6 : Int) (a0_7 : Int) (a0_8 : Int) (a0_9 : Int) (r1 : Int) (r2 : Int) (r3 : Int) (r4 : ByteArray) (r5 : Bool) (r6 : List Int) (r7 : Int) (r8 : Int) (r9 : Int) (r10 : Int) (w : World) (hr0_5 : Kd.C (Kd.int .u8) w A0_5 l0_5.length l0_5) (hc0_5 : l0_5.length ≤ c0_5) (h : raft_own.f a0_0 a0_1 a0_2 a0_3 a0_4 l0_5 a0_6 a0_7 a0_8 a0_9 = some (r1, r2, r3, r4, r5, r6, r7, r8, r9, r10)) :
  Calls Try.prog 36 #[.agg #[.int .i64 a0_0, .int .i64 a0_1, .int .i64 a0_2, .string a0_3, .bool a0_4, .slice A0_5 l0_5.length c0_5, .int .i64 a0_6, .int .i64 a0_7, .int .i64 a0_8, .int .u32 a0_9]] w fun e w' => ∃ v5_ : Value, e = .returned (.agg #[.int .i64 r1, .int .i64 r2, .int .i64 r3, .string r4, .bool r5, v5_, .int .i64 r7, .int .i64 r8, .int .i64 r9, .int .u32 r10]) ∧ Kd.R (Kd.int .u8) 5 w' w.heap.size (fun _ => True) v5_ r6 ∧ Below w.heap.size w w' := by
 have hu55 := Try.underlying55
 have Aj := Am hr0_5
 have Ak := Am hc0_5
 clear hr0_5 hc0_5
 have HB := Am (Below.refl w.heap.size w)
 have H : ((slices_Clone_byte_byte.f l0_5).bind fun t134 => (some (a0_0, a0_1, a0_2, a0_3, a0_4, t134, a0_6, a0_7, a0_8, a0_9))) = some (r1, r2, r3, r4, r5, r6, r7, r8, r9, r10) := h
 clear h
 replace H := Option.bind_eq_some_iff.mp H
 obtain ⟨t134, A20, H⟩ := H
 replace H : (some (a0_0, a0_1, a0_2, a0_3, a0_4, t134, a0_6, a0_7, a0_8, a0_9)) = some (r1, r2, r3, r4, r5, r6, r7, r8, r9, r10) := H
 have A2 := Am A20
 clear A20
 simp only [Option.some.injEq, Prod.mk.injEq] at H
 obtain ⟨rfl, rfl, rfl, rfl, rfl, rfl, rfl, rfl, rfl, rfl⟩ := H
 go_enter Try.func36, Try.ntmps36
 go_wp2_with (first | ((with_reducible refine gate_dst (N := 1) rfl ?_); refine box_event ?hg (N := 1) ?hd (cs := #[.int .i64 a0_0, .int .i64 a0_1, .int .i64 a0_2, .string a0_3, .bool a0_4, .slice A0_5 l0_5.length c0_5, .int .i64 a0_6, .int .i64 a0_7, .int .i64 a0_8, .int .u32 a0_9]) (t := 55) ?hr ?_; (case hd => rfl); (case hg => rfl); (case hr => first | (go_simp; done) | (go_simp; rfl)); intro Af hg w3 hbox hb; have Aa := Am (hbox); have Al := Am ((by rw [hg]; exact (below_size (pB HB.out)) : w.heap.size ≤ Af)); replace HB := Am (below_step (pB HB.out) hb); have Ad := Al; clear hb hbox hg) | ((with_reducible refine gate_dst (N := 2) rfl ?_); refine box_event ?hg (N := 2) ?hd (cs := #[.int .i64 0, .int .i64 0, .int .i64 0, .string (⟨#[]⟩ : ByteArray), .bool false, .slice none 0 0, .int .i64 0, .int .i64 0, .int .i64 0, .int .u32 0]) (t := 55) ?hr ?_; (case hd => rfl); (case hg => rfl); (case hr => first | (go_simp; done) | (go_simp; rfl)); intro Ae hg w4 hbox hb; have Ab := Am (hbox); have An := Am ((by rw [hg]; exact (below_size (pE HB.out Ad.out)) : w.heap.size ≤ Ae)); replace HB := Am (below_step (pE HB.out Ad.out) hb); have Ah := An; have Ag := Am ((by rw [hg]; exact Nat.ne_of_lt (kL Aa.out) : Af ≠ Ae)); have Ac := Am ((by rw [hg]; exact Nat.ne_of_gt (kL Aa.out) : Ae ≠ Af)); replace Aa := kBa Aa hb; clear hb hbox hg; have hnb5 := Ag.out; have hnc5 := Ac.out; obtain ⟨_, _, _, _, _, _, _, _, _, _⟩ := bc10 Aa.out; obtain ⟨_, _, _, _, _, _, _, _, _, _⟩ := bf10 Aa.out) | ((with_reducible refine gate_callee (f := 40) rfl ?_); refine goesL_ (some 6) rfl rfl Try.func40 (by kernel_rfl) rfl #[.slice A0_5 l0_5.length c0_5] rfl pL ?_; (with_reducible refine (slices_Clone_byte_byte.calls _ _ l0_5 t134 _ ?Ao ?Ap A2.out).mono ?_); (case Ao => exact pC (Kd.C_below Aj.out HB.out)); (case Ap => exact Ak.out); rintro e w7 ⟨v135, rfl, ho0, hb⟩; refine ⟨_, rfl, ?_⟩; have Ai := Am (Kd.R_lower ho0 (below_size (pE2 HB.out Ad.out Ah.out))); replace Aa := kBa Aa hb; replace Ab := kBa Ab hb; replace HB := Am (below_step (pE2 HB.out Ad.out Ah.out) hb); (try clear hb); (try clear hb2); (try clear hk); (try clear hi); (try clear ho0); obtain ⟨Aq, Ar, As⟩ := Kd.R_slice Ai.out; subst As; obtain ⟨_, _, _, _, _, _, _, _, _, _⟩ := bc10 Aa.out; obtain ⟨_, _, _, _, _, _, _, _, _, _⟩ := bf10 Aa.out; obtain ⟨_, _, _, _, _, _, _, _, _, _⟩ := bc10 Ab.out; obtain ⟨_, _, _, _, _, _, _, _, _, _⟩ := bf10 Ab.out))
 refine bodyPost_ret (results_cell_row rfl _ _ Ae 55 #[.int .i64 a0_0, .int .i64 a0_1, .int .i64 a0_2, .string a0_3, .bool a0_4, .slice Aq t134.length Ar, .int .i64 a0_6, .int .i64 a0_7, .int .i64 a0_8, .int .u32 a0_9] (0, 0) _ rfl (kX1 Ab.out Ac.out) Try.underlying55 rfl (by kernel_rfl)) rfl ?_
 exact ⟨_, pX, by (with_reducible repeat (first | apply Kd.R_alloc | apply Kd.R_drewN | apply Kd.R_drew)); exact Kd.R_mono (Rf10 (g := Ae) (Kd.R_far (p := ⟨Af, 5, none⟩) (Kd.R_types (Kd.R_types Ai.out Aa.out (by decide)) Ab.out (by decide)) (fun _ hk => hk.1.2) (.slice Aq t134.length Ar)) (fun _ hk => hk.2)) (fun _ hk => trivial), pE2 HB.out Ad.out Ah.out⟩
end Go.Proofs.Ytangfpcifdpfeaa.PRaftTurns
