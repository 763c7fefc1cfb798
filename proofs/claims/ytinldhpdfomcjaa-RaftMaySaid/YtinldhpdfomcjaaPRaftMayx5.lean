/- What the law reaches, as plain Lean functions, and that the machine's calls answer just that. -/
import Derived.Test.YtinldhpdfomcjaaPRaftMayx0
import Derived.Test.YtinldhpdfomcjaaPRaftMayx2
import Derived.Test.YtinldhpdfomcjaaPRaftMayx3
import Derived.Test.YtinldhpdfomcjaaPRaftMayx4
namespace Go.Proofs.Ytinldhpdfomcjaa.PRaftMay
open Go.RowKit Go.Proofs.YtinldhpdfomcjaaW.PrintWords Go.Proofs.YtinldhpdfomcjaaW.PrintLast Go.Proofs.YtinldhpdfomcjaaW.PrintMore
attribute [local go_sem] max2_int min2_int max_two min_two max_three min_three max_four min_four
set_option linter.unusedVariables false
set_option linter.unusedSimpArgs false
attribute [local go_sem] wrap64_l1 wrap64_l2 wrap64_l3 wrap64_l4 wrap64_l5
mutual
def raft_Check.j0 : Nat → Bool → Int → Int → List (S46) → Int → Int → Int → Int → Option (Int)
 | 0, _, _, _, _, _, _, _, _ => none
 | k + 1, x39, x114000, x114001, x114002, x114003, x114004, x114005, x114006 => if x39 = true then (some 1) else (if (x114002.length : Int) > 0 then (if 0 < (x114002.length : Int) then (if ((rd_T46 x114002 0).f0) = (wrap64 (x114000 + 1)) then (raft_Check.j1 k (decide (((rd_T46 x114002 0).f1) < x114001)) x114000 x114001 x114002 x114003 x114004 x114005 x114006) else (raft_Check.j1 k true x114000 x114001 x114002 x114003 x114004 x114005 x114006)) else (none)) else (raft_Check.j1 k false x114000 x114001 x114002 x114003 x114004 x114005 x114006))
def raft_Check.j1 : Nat → Bool → Int → Int → List (S46) → Int → Int → Int → Int → Option (Int)
 | 0, _, _, _, _, _, _, _, _ => none
 | k + 1, x64, x114000, x114001, x114002, x114003, x114004, x114005, x114006 => if x64 = true then (some 1) else (if x114006 < x114000 then (some 1) else (if x114006 > x114005 then (some 1) else (if x114005 > (wrap64 (x114000 + (x114002.length : Int))) then (some 1) else (some 0))))
end
def raft_Check.f (k : Nat) (a0_0 : Int) (a0_1 : Int) (l0_2 : List (S46)) (a0_3 : Int) (a0_4 : Int) (a0_5 : Int) (a0_6 : Int) : Option (Int) := if a0_0 = 0 then (if a0_1 = 0 then (if (l0_2.length : Int) > 1000 then (raft_Check.j0 k true a0_0 a0_1 l0_2 a0_3 a0_4 a0_5 a0_6) else ((raft_rows.f k l0_2).bind fun t114 => (if t114 = true then ((hard_Check.f a0_3 a0_4 a0_5).bind fun t115 => (raft_Check.j0 k (t115 != 0) a0_0 a0_1 l0_2 a0_3 a0_4 a0_5 a0_6)) else (raft_Check.j0 k true a0_0 a0_1 l0_2 a0_3 a0_4 a0_5 a0_6)))) else ((raft_counts.f a0_0).bind fun t116 => (if t116 = true then ((raft_counts.f a0_1).bind fun t117 => (if t117 = true then (if (l0_2.length : Int) > 1000 then (raft_Check.j0 k true a0_0 a0_1 l0_2 a0_3 a0_4 a0_5 a0_6) else ((raft_rows.f k l0_2).bind fun t118 => (if t118 = true then ((hard_Check.f a0_3 a0_4 a0_5).bind fun t119 => (raft_Check.j0 k (t119 != 0) a0_0 a0_1 l0_2 a0_3 a0_4 a0_5 a0_6)) else (raft_Check.j0 k true a0_0 a0_1 l0_2 a0_3 a0_4 a0_5 a0_6)))) else (raft_Check.j0 k true a0_0 a0_1 l0_2 a0_3 a0_4 a0_5 a0_6))) else (raft_Check.j0 k true a0_0 a0_1 l0_2 a0_3 a0_4 a0_5 a0_6)))) else ((raft_counts.f a0_0).bind fun t120 => (if t120 = true then ((raft_counts.f a0_1).bind fun t121 => (if t121 = true then (if (l0_2.length : Int) > 1000 then (raft_Check.j0 k true a0_0 a0_1 l0_2 a0_3 a0_4 a0_5 a0_6) else ((raft_rows.f k l0_2).bind fun t122 => (if t122 = true then ((hard_Check.f a0_3 a0_4 a0_5).bind fun t123 => (raft_Check.j0 k (t123 != 0) a0_0 a0_1 l0_2 a0_3 a0_4 a0_5 a0_6)) else (raft_Check.j0 k true a0_0 a0_1 l0_2 a0_3 a0_4 a0_5 a0_6)))) else (raft_Check.j0 k true a0_0 a0_1 l0_2 a0_3 a0_4 a0_5 a0_6))) else (raft_Check.j0 k true a0_0 a0_1 l0_2 a0_3 a0_4 a0_5 a0_6)))
theorem raft_Check.mono_l : ∀ k, (∀ y0 y1 y2 y3 y4 y5 y6 y7, LeO (raft_Check.j0 k y0 y1 y2 y3 y4 y5 y6 y7) (raft_Check.j0 (k + 1) y0 y1 y2 y3 y4 y5 y6 y7)) ∧ (∀ y0 y1 y2 y3 y4 y5 y6 y7, LeO (raft_Check.j1 k y0 y1 y2 y3 y4 y5 y6 y7) (raft_Check.j1 (k + 1) y0 y1 y2 y3 y4 y5 y6 y7))
 | 0 => ⟨fun _ _ _ _ _ _ _ _ r h => by simp [raft_Check.j0] at h, fun _ _ _ _ _ _ _ _ r h => by simp [raft_Check.j1] at h⟩
 | k + 1 => by
  obtain ⟨ih0, ih1⟩ := raft_Check.mono_l k
  refine ⟨?_, ?_⟩
  ·intro y0 y1 y2 y3 y4 y5 y6 y7
   unfold raft_Check.j0
   repeat' first
   | (with_reducible exact ih0 _ _ _ _ _ _ _ _)
   | (with_reducible exact ih1 _ _ _ _ _ _ _ _)
   | (with_reducible exact raft_rows.mono _ _)
   | (with_reducible exact LeO.refl _)
   | (with_reducible exact LeO.none _)
   | (with_reducible refine LeO.ite ?_ ?_)
   | (with_reducible refine LeO.bind ?_ (fun _ => ?_))
   | exact ih0 _ _ _ _ _ _ _ _
   | exact ih1 _ _ _ _ _ _ _ _
   | exact raft_rows.mono _ _
   | exact LeO.none _
   | refine LeO.ite ?_ ?_
   | refine LeO.bind ?_ (fun _ => ?_)
  ·intro y0 y1 y2 y3 y4 y5 y6 y7
   unfold raft_Check.j1
   repeat' first
   | (with_reducible exact ih0 _ _ _ _ _ _ _ _)
   | (with_reducible exact ih1 _ _ _ _ _ _ _ _)
   | (with_reducible exact raft_rows.mono _ _)
   | (with_reducible exact LeO.refl _)
   | (with_reducible exact LeO.none _)
   | (with_reducible refine LeO.ite ?_ ?_)
   | (with_reducible refine LeO.bind ?_ (fun _ => ?_))
   | exact ih0 _ _ _ _ _ _ _ _
   | exact ih1 _ _ _ _ _ _ _ _
   | exact raft_rows.mono _ _
   | exact LeO.none _
   | refine LeO.ite ?_ ?_
   | refine LeO.bind ?_ (fun _ => ?_)
theorem raft_Check.mono : ∀ a0 a1 a2 a3 a4 a5 a6 k, LeO (raft_Check.f k a0 a1 a2 a3 a4 a5 a6) (raft_Check.f (k + 1) a0 a1 a2 a3 a4 a5 a6) := by
 intro a0 a1 a2 a3 a4 a5 a6 k
 obtain ⟨ih0, ih1⟩ := raft_Check.mono_l k
 unfold raft_Check.f
 repeat' first
   | (with_reducible exact ih0 _ _ _ _ _ _ _ _)
   | (with_reducible exact ih1 _ _ _ _ _ _ _ _)
   | (with_reducible exact raft_rows.mono _ _)
   | (with_reducible exact LeO.refl _)
   | (with_reducible exact LeO.none _)
   | (with_reducible refine LeO.ite ?_ ?_)
   | (with_reducible refine LeO.bind ?_ (fun _ => ?_))
   | exact ih0 _ _ _ _ _ _ _ _
   | exact ih1 _ _ _ _ _ _ _ _
   | exact raft_rows.mono _ _
   | exact LeO.none _
   | refine LeO.ite ?_ ?_
   | refine LeO.bind ?_ (fun _ => ?_)
set_option maxHeartbeats 8000000 in
set_option maxRecDepth 100000 in
theorem raft_Check.calls (k : Nat) (a0_0 : Int) (a0_1 : Int) (A0_2 : Option Addr) (c0_2 : Nat) (l0_2 : List (S46)) (a0_3 : Int) (a0_4 : Int) (a0_5 : Int) (a0_6 : Int) (r : Int) (w : World) (hr0_2 : Kd.C k46 w A0_2 l0_2.length l0_2) (hc0_2 : l0_2.length ≤ c0_2) (h : raft_Check.f k a0_0 a0_1 l0_2 a0_3 a0_4 a0_5 a0_6 = some r) :
  Calls Try.prog 25 #[.agg #[.int .i64 a0_0, .int .i64 a0_1, .slice A0_2 l0_2.length c0_2, .int .i64 a0_3, .int .i64 a0_4, .int .i64 a0_5, .int .i64 a0_6]] w fun e w' => e = .returned (.int .i64 r) ∧ Below w.heap.size w w' := by
 have hu26 := Try.underlying26
 have hu24 := Try.underlying24
 have Af := Am hr0_2
 have Aq := Am hc0_2
 clear hr0_2 hc0_2
 have HB := Am (Below.refl w.heap.size w)
 have H : (if a0_0 = 0 then (if a0_1 = 0 then (if (l0_2.length : Int) > 1000 then (raft_Check.j0 k true a0_0 a0_1 l0_2 a0_3 a0_4 a0_5 a0_6) else ((raft_rows.f k l0_2).bind fun t114 => (if t114 = true then ((hard_Check.f a0_3 a0_4 a0_5).bind fun t115 => (raft_Check.j0 k (t115 != 0) a0_0 a0_1 l0_2 a0_3 a0_4 a0_5 a0_6)) else (raft_Check.j0 k true a0_0 a0_1 l0_2 a0_3 a0_4 a0_5 a0_6)))) else ((raft_counts.f a0_0).bind fun t116 => (if t116 = true then ((raft_counts.f a0_1).bind fun t117 => (if t117 = true then (if (l0_2.length : Int) > 1000 then (raft_Check.j0 k true a0_0 a0_1 l0_2 a0_3 a0_4 a0_5 a0_6) else ((raft_rows.f k l0_2).bind fun t118 => (if t118 = true then ((hard_Check.f a0_3 a0_4 a0_5).bind fun t119 => (raft_Check.j0 k (t119 != 0) a0_0 a0_1 l0_2 a0_3 a0_4 a0_5 a0_6)) else (raft_Check.j0 k true a0_0 a0_1 l0_2 a0_3 a0_4 a0_5 a0_6)))) else (raft_Check.j0 k true a0_0 a0_1 l0_2 a0_3 a0_4 a0_5 a0_6))) else (raft_Check.j0 k true a0_0 a0_1 l0_2 a0_3 a0_4 a0_5 a0_6)))) else ((raft_counts.f a0_0).bind fun t120 => (if t120 = true then ((raft_counts.f a0_1).bind fun t121 => (if t121 = true then (if (l0_2.length : Int) > 1000 then (raft_Check.j0 k true a0_0 a0_1 l0_2 a0_3 a0_4 a0_5 a0_6) else ((raft_rows.f k l0_2).bind fun t122 => (if t122 = true then ((hard_Check.f a0_3 a0_4 a0_5).bind fun t123 => (raft_Check.j0 k (t123 != 0) a0_0 a0_1 l0_2 a0_3 a0_4 a0_5 a0_6)) else (raft_Check.j0 k true a0_0 a0_1 l0_2 a0_3 a0_4 a0_5 a0_6)))) else (raft_Check.j0 k true a0_0 a0_1 l0_2 a0_3 a0_4 a0_5 a0_6))) else (raft_Check.j0 k true a0_0 a0_1 l0_2 a0_3 a0_4 a0_5 a0_6)))) = some r := h
 clear h
 have HC2 := Am H
 clear H
 go_enter Try.func25, Try.ntmps25
 go_upto_region 1 with (first | ((with_reducible refine gate_dst (N := 1) rfl ?_); (try (refine gate_guard (by rfl) ?_; dsimp only)); refine box_event ?hg (N := 1) ?hd (cs := #[.int .i64 a0_0, .int .i64 a0_1, .slice A0_2 l0_2.length c0_2, .int .i64 a0_3, .int .i64 a0_4, .int .i64 a0_5, .int .i64 a0_6]) (t := 26) ?hr ?_; (case hd => rfl); (case hg => rfl); (case hr => first | (go_simp; done) | (go_simp; rfl)); intro Ca hg w3 hbox hb; have Aa := Am (hbox); have Cc := Am ((by rw [hg]; exact (below_size (pB HB.out)) : w.heap.size ≤ Ca)); replace HB := Am (below_step (pB HB.out) hb); have Ab := Cc; clear hb hbox hg))
 repeat (go_quiet (first | ((with_reducible refine gate_dst (N := 1) rfl ?_); (try (refine gate_guard (by rfl) ?_; dsimp only)); refine box_event ?hg (N := 1) ?hd (cs := #[.int .i64 a0_0, .int .i64 a0_1, .slice A0_2 l0_2.length c0_2, .int .i64 a0_3, .int .i64 a0_4, .int .i64 a0_5, .int .i64 a0_6]) (t := 26) ?hr ?_; (case hd => rfl); (case hg => rfl); (case hr => first | (go_simp; done) | (go_simp; rfl)); intro Ca hg w3 hbox hb; have Aa := Am (hbox); have Cc := Am ((by rw [hg]; exact (below_size (pB HB.out)) : w.heap.size ≤ Ca)); replace HB := Am (below_step (pB HB.out) hb); have Ab := Cc; clear hb hbox hg)); go_upto_region 1 with (first | ((with_reducible refine gate_dst (N := 1) rfl ?_); (try (refine gate_guard (by rfl) ?_; dsimp only)); refine box_event ?hg (N := 1) ?hd (cs := #[.int .i64 a0_0, .int .i64 a0_1, .slice A0_2 l0_2.length c0_2, .int .i64 a0_3, .int .i64 a0_4, .int .i64 a0_5, .int .i64 a0_6]) (t := 26) ?hr ?_; (case hd => rfl); (case hg => rfl); (case hr => first | (go_simp; done) | (go_simp; rfl)); intro Ca hg w3 hbox hb; have Aa := Am (hbox); have Cc := Am ((by rw [hg]; exact (below_size (pB HB.out)) : w.heap.size ≤ Ca)); replace HB := Am (below_step (pB HB.out) hb); have Ab := Cc; clear hb hbox hg)))
 (try simp only [Act.put, List.setIfInBounds_toArray, List.set_cons_zero, List.set_cons_succ])
 go_cut [39] (fun v39 wc => ∃ (kq : Nat) (Cd : Bool), v39 = .bool Cd ∧ Aside0 (raft_Check.j0 kq Cd a0_0 a0_1 l0_2 a0_3 a0_4 a0_5 a0_6 = some r) ∧ Aside0 (kq ≤ k) ∧ Aside0 (wc.heap[Ca]? = some (.cells #[.int .i64 a0_0, .int .i64 a0_1, (.slice A0_2 l0_2.length c0_2), .int .i64 a0_3, .int .i64 a0_4, .int .i64 a0_5, .int .i64 a0_6] 26 (0, 0))) ∧ Aside0 (Below w.heap.size w wc))
 case first =>
  have H := HC2.out
  clear HC2
  by_cases c4 : a0_0 = 0
  rotate_left
  ·rw [if_neg c4] at H
   have c4b0 : (a0_0 == 0) = false := beq_eq_false_iff_ne.mpr c4
   have c4b1 : (a0_0 != 0) = true := bne_iff_ne.mpr c4
   (first | rw [c4b0] | (simp only [i64_w, i32_w]; rw [c4b0]) | skip)
   replace H := Option.bind_eq_some_iff.mp H
   obtain ⟨t120, A340, H⟩ := H
   replace H : (if t120 = true then ((raft_counts.f a0_1).bind fun t121 => (if t121 = true then (if (l0_2.length : Int) > 1000 then (raft_Check.j0 k true a0_0 a0_1 l0_2 a0_3 a0_4 a0_5 a0_6) else ((raft_rows.f k l0_2).bind fun t122 => (if t122 = true then ((hard_Check.f a0_3 a0_4 a0_5).bind fun t123 => (raft_Check.j0 k (t123 != 0) a0_0 a0_1 l0_2 a0_3 a0_4 a0_5 a0_6)) else (raft_Check.j0 k true a0_0 a0_1 l0_2 a0_3 a0_4 a0_5 a0_6)))) else (raft_Check.j0 k true a0_0 a0_1 l0_2 a0_3 a0_4 a0_5 a0_6))) else (raft_Check.j0 k true a0_0 a0_1 l0_2 a0_3 a0_4 a0_5 a0_6)) = some r := H
   have A34 := Am A340
   clear A340
   by_cases c35 : t120 = true
   rotate_left
   ·replace c35 := Bool.eq_false_iff.mpr c35
    subst c35
    have H1 : (raft_Check.j0 k true a0_0 a0_1 l0_2 a0_3 a0_4 a0_5 a0_6) = some r := by rw [if_neg (show ¬ (false = true) by decide)] at H; exact H
    clear H
    have H := H1
    clear H1
    have H' := Am H
    clear H
    obtain ⟨Gq, Gr, Gs, Gt, Gu, Gv, Gw⟩ := bc7 Aa.out
    obtain ⟨Gx, Gy, Gz, G0, G1, G2, G3⟩ := bf7 Aa.out
    go_wp2_with (first | (go_at_call 34; (with_reducible refine (raft_counts.calls a0_0 false _ A34.out).mono ?_); rintro e w' ⟨rfl, ⟨nd, rfl⟩⟩; (try first | exact ⟨rfl, _, World.drewN_drewN _ _ _⟩ | exact ⟨rfl, _, Eq.trans (World.drewN_drewN _ _ _) (congrArg (World.drewN _) (Nat.add_assoc _ _ _))⟩)))
    repeat (go_quiet (first | (go_at_call 34; (with_reducible refine (raft_counts.calls a0_0 false _ A34.out).mono ?_); rintro e w' ⟨rfl, ⟨nd, rfl⟩⟩; (try first | exact ⟨rfl, _, World.drewN_drewN _ _ _⟩ | exact ⟨rfl, _, Eq.trans (World.drewN_drewN _ _ _) (congrArg (World.drewN _) (Nat.add_assoc _ _ _))⟩))); try go_wp2_with (first | (go_at_call 34; (with_reducible refine (raft_counts.calls a0_0 false _ A34.out).mono ?_); rintro e w' ⟨rfl, ⟨nd, rfl⟩⟩; (try first | exact ⟨rfl, _, World.drewN_drewN _ _ _⟩ | exact ⟨rfl, _, Eq.trans (World.drewN_drewN _ _ _) (congrArg (World.drewN _) (Nat.add_assoc _ _ _))⟩))))
    go_meet
    case rel => exact ⟨_, (true), (by first | rfl | (simp; done) | (simp [*]; done)), H', ⟨by first | omega | exact Nat.le_refl _⟩, ⟨pK Aa.out⟩, ⟨pE HB.out Ab.out⟩⟩
   subst c35
   have H1 : ((raft_counts.f a0_1).bind fun t121 => (if t121 = true then (if (l0_2.length : Int) > 1000 then (raft_Check.j0 k true a0_0 a0_1 l0_2 a0_3 a0_4 a0_5 a0_6) else ((raft_rows.f k l0_2).bind fun t122 => (if t122 = true then ((hard_Check.f a0_3 a0_4 a0_5).bind fun t123 => (raft_Check.j0 k (t123 != 0) a0_0 a0_1 l0_2 a0_3 a0_4 a0_5 a0_6)) else (raft_Check.j0 k true a0_0 a0_1 l0_2 a0_3 a0_4 a0_5 a0_6)))) else (raft_Check.j0 k true a0_0 a0_1 l0_2 a0_3 a0_4 a0_5 a0_6))) = some r := by rw [if_pos rfl] at H; exact H
   clear H
   have H := H1
   clear H1
   replace H := Option.bind_eq_some_iff.mp H
   obtain ⟨t121, A360, H⟩ := H
   replace H : (if t121 = true then (if (l0_2.length : Int) > 1000 then (raft_Check.j0 k true a0_0 a0_1 l0_2 a0_3 a0_4 a0_5 a0_6) else ((raft_rows.f k l0_2).bind fun t122 => (if t122 = true then ((hard_Check.f a0_3 a0_4 a0_5).bind fun t123 => (raft_Check.j0 k (t123 != 0) a0_0 a0_1 l0_2 a0_3 a0_4 a0_5 a0_6)) else (raft_Check.j0 k true a0_0 a0_1 l0_2 a0_3 a0_4 a0_5 a0_6)))) else (raft_Check.j0 k true a0_0 a0_1 l0_2 a0_3 a0_4 a0_5 a0_6)) = some r := H
   have A36 := Am A360
   clear A360
   by_cases c37 : t121 = true
   rotate_left
   ·replace c37 := Bool.eq_false_iff.mpr c37
    subst c37
    have H1 : (raft_Check.j0 k true a0_0 a0_1 l0_2 a0_3 a0_4 a0_5 a0_6) = some r := by rw [if_neg (show ¬ (false = true) by decide)] at H; exact H
    clear H
    have H := H1
    clear H1
    have H' := Am H
    clear H
    obtain ⟨Gc, Gd, Ge, Gf, Gg, Gh, Gi⟩ := bc7 Aa.out
    obtain ⟨Gj, Gk, Gl, Gm, Gn, Go, Gp⟩ := bf7 Aa.out
    go_wp2_with (first | (go_at_call 34; (with_reducible refine (raft_counts.calls a0_0 true _ A34.out).mono ?_); rintro e w' ⟨rfl, ⟨nd, rfl⟩⟩; (try first | exact ⟨rfl, _, World.drewN_drewN _ _ _⟩ | exact ⟨rfl, _, Eq.trans (World.drewN_drewN _ _ _) (congrArg (World.drewN _) (Nat.add_assoc _ _ _))⟩)) | (go_at_call 34; (with_reducible refine (raft_counts.calls a0_1 false _ A36.out).mono ?_); rintro e w' ⟨rfl, ⟨nd, rfl⟩⟩; (try first | exact ⟨rfl, _, World.drewN_drewN _ _ _⟩ | exact ⟨rfl, _, Eq.trans (World.drewN_drewN _ _ _) (congrArg (World.drewN _) (Nat.add_assoc _ _ _))⟩)))
    repeat (go_quiet (first | (go_at_call 34; (with_reducible refine (raft_counts.calls a0_0 true _ A34.out).mono ?_); rintro e w' ⟨rfl, ⟨nd, rfl⟩⟩; (try first | exact ⟨rfl, _, World.drewN_drewN _ _ _⟩ | exact ⟨rfl, _, Eq.trans (World.drewN_drewN _ _ _) (congrArg (World.drewN _) (Nat.add_assoc _ _ _))⟩)) | (go_at_call 34; (with_reducible refine (raft_counts.calls a0_1 false _ A36.out).mono ?_); rintro e w' ⟨rfl, ⟨nd, rfl⟩⟩; (try first | exact ⟨rfl, _, World.drewN_drewN _ _ _⟩ | exact ⟨rfl, _, Eq.trans (World.drewN_drewN _ _ _) (congrArg (World.drewN _) (Nat.add_assoc _ _ _))⟩))); try go_wp2_with (first | (go_at_call 34; (with_reducible refine (raft_counts.calls a0_0 true _ A34.out).mono ?_); rintro e w' ⟨rfl, ⟨nd, rfl⟩⟩; (try first | exact ⟨rfl, _, World.drewN_drewN _ _ _⟩ | exact ⟨rfl, _, Eq.trans (World.drewN_drewN _ _ _) (congrArg (World.drewN _) (Nat.add_assoc _ _ _))⟩)) | (go_at_call 34; (with_reducible refine (raft_counts.calls a0_1 false _ A36.out).mono ?_); rintro e w' ⟨rfl, ⟨nd, rfl⟩⟩; (try first | exact ⟨rfl, _, World.drewN_drewN _ _ _⟩ | exact ⟨rfl, _, Eq.trans (World.drewN_drewN _ _ _) (congrArg (World.drewN _) (Nat.add_assoc _ _ _))⟩))))
    go_meet
    case rel => exact ⟨_, (true), (by first | rfl | (simp; done) | (simp [*]; done)), H', ⟨by first | omega | exact Nat.le_refl _⟩, ⟨pK Aa.out⟩, ⟨pE HB.out Ab.out⟩⟩
   subst c37
   have H1 : (if (l0_2.length : Int) > 1000 then (raft_Check.j0 k true a0_0 a0_1 l0_2 a0_3 a0_4 a0_5 a0_6) else ((raft_rows.f k l0_2).bind fun t122 => (if t122 = true then ((hard_Check.f a0_3 a0_4 a0_5).bind fun t123 => (raft_Check.j0 k (t123 != 0) a0_0 a0_1 l0_2 a0_3 a0_4 a0_5 a0_6)) else (raft_Check.j0 k true a0_0 a0_1 l0_2 a0_3 a0_4 a0_5 a0_6)))) = some r := by rw [if_pos rfl] at H; exact H
   clear H
   have H := H1
   clear H1
   by_cases c38 : (l0_2.length : Int) > 1000
   ·rw [if_pos c38] at H
    have c38b0 : decide (1000 < (l0_2.length : Int)) = true := decide_eq_true c38
    have c38b1 : decide (1000 < l0_2.length) = true := decide_eq_true (by omega)
    clear c38
    have H' := Am H
    clear H
    obtain ⟨E6, E7, E8, E9, Fa, Fb, Fc⟩ := bc7 Aa.out
    obtain ⟨Fd, Fe, Ff, Fg, Fh, Fi, Fj⟩ := bf7 Aa.out
    go_wp2_with (first | (go_at_call 34; (with_reducible refine (raft_counts.calls a0_0 true _ A34.out).mono ?_); rintro e w' ⟨rfl, ⟨nd, rfl⟩⟩; (try first | exact ⟨rfl, _, World.drewN_drewN _ _ _⟩ | exact ⟨rfl, _, Eq.trans (World.drewN_drewN _ _ _) (congrArg (World.drewN _) (Nat.add_assoc _ _ _))⟩)) | (go_at_call 34; (with_reducible refine (raft_counts.calls a0_1 true _ A36.out).mono ?_); rintro e w' ⟨rfl, ⟨nd, rfl⟩⟩; (try first | exact ⟨rfl, _, World.drewN_drewN _ _ _⟩ | exact ⟨rfl, _, Eq.trans (World.drewN_drewN _ _ _) (congrArg (World.drewN _) (Nat.add_assoc _ _ _))⟩)))
    repeat (go_quiet (first | (go_at_call 34; (with_reducible refine (raft_counts.calls a0_0 true _ A34.out).mono ?_); rintro e w' ⟨rfl, ⟨nd, rfl⟩⟩; (try first | exact ⟨rfl, _, World.drewN_drewN _ _ _⟩ | exact ⟨rfl, _, Eq.trans (World.drewN_drewN _ _ _) (congrArg (World.drewN _) (Nat.add_assoc _ _ _))⟩)) | (go_at_call 34; (with_reducible refine (raft_counts.calls a0_1 true _ A36.out).mono ?_); rintro e w' ⟨rfl, ⟨nd, rfl⟩⟩; (try first | exact ⟨rfl, _, World.drewN_drewN _ _ _⟩ | exact ⟨rfl, _, Eq.trans (World.drewN_drewN _ _ _) (congrArg (World.drewN _) (Nat.add_assoc _ _ _))⟩))); try go_wp2_with (first | (go_at_call 34; (with_reducible refine (raft_counts.calls a0_0 true _ A34.out).mono ?_); rintro e w' ⟨rfl, ⟨nd, rfl⟩⟩; (try first | exact ⟨rfl, _, World.drewN_drewN _ _ _⟩ | exact ⟨rfl, _, Eq.trans (World.drewN_drewN _ _ _) (congrArg (World.drewN _) (Nat.add_assoc _ _ _))⟩)) | (go_at_call 34; (with_reducible refine (raft_counts.calls a0_1 true _ A36.out).mono ?_); rintro e w' ⟨rfl, ⟨nd, rfl⟩⟩; (try first | exact ⟨rfl, _, World.drewN_drewN _ _ _⟩ | exact ⟨rfl, _, Eq.trans (World.drewN_drewN _ _ _) (congrArg (World.drewN _) (Nat.add_assoc _ _ _))⟩))))
    go_meet
    case rel => exact ⟨_, (true), (by first | rfl | (simp; done) | (simp [*]; done)), H', ⟨by first | omega | exact Nat.le_refl _⟩, ⟨pK Aa.out⟩, ⟨pE HB.out Ab.out⟩⟩
   rw [if_neg c38] at H
   have c38b0 : decide (1000 < (l0_2.length : Int)) = false := decide_eq_false c38
   have c38b1 : decide (1000 < l0_2.length) = false := decide_eq_false (by omega)
   clear c38
   replace H := Option.bind_eq_some_iff.mp H
   obtain ⟨t122, A400, H⟩ := H
   replace H : (if t122 = true then ((hard_Check.f a0_3 a0_4 a0_5).bind fun t123 => (raft_Check.j0 k (t123 != 0) a0_0 a0_1 l0_2 a0_3 a0_4 a0_5 a0_6)) else (raft_Check.j0 k true a0_0 a0_1 l0_2 a0_3 a0_4 a0_5 a0_6)) = some r := H
   have A40 := Am A400
   clear A400
   by_cases c41 : t122 = true
   rotate_left
   ·replace c41 := Bool.eq_false_iff.mpr c41
    subst c41
    have H1 : (raft_Check.j0 k true a0_0 a0_1 l0_2 a0_3 a0_4 a0_5 a0_6) = some r := by rw [if_neg (show ¬ (false = true) by decide)] at H; exact H
    clear H
    have H := H1
    clear H1
    have H' := Am H
    clear H
    obtain ⟨Fy, Fz, F0, F1, F2, F3, F4⟩ := bc7 Aa.out
    obtain ⟨F5, F6, F7, F8, F9, Ga, Gb⟩ := bf7 Aa.out
    go_wp2_with (first | (go_at_call 34; (with_reducible refine (raft_counts.calls a0_0 true _ A34.out).mono ?_); rintro e w' ⟨rfl, ⟨nd, rfl⟩⟩; (try first | exact ⟨rfl, _, World.drewN_drewN _ _ _⟩ | exact ⟨rfl, _, Eq.trans (World.drewN_drewN _ _ _) (congrArg (World.drewN _) (Nat.add_assoc _ _ _))⟩)) | (go_at_call 34; (with_reducible refine (raft_counts.calls a0_1 true _ A36.out).mono ?_); rintro e w' ⟨rfl, ⟨nd, rfl⟩⟩; (try first | exact ⟨rfl, _, World.drewN_drewN _ _ _⟩ | exact ⟨rfl, _, Eq.trans (World.drewN_drewN _ _ _) (congrArg (World.drewN _) (Nat.add_assoc _ _ _))⟩)) | (go_at_call 26; (with_reducible refine (raft_rows.calls k _ _ l0_2 false _ ?Ac ?Ad A40.out).mono ?_); (case Ac => repeat (first | exact (Kd.C_below Af.out (pE HB.out Ab.out)) | (with_reducible refine Kd.C_alloc ?_ _) | (with_reducible refine Kd.C_drewN ?_ _) | (with_reducible refine Kd.C_drew ?_))); (case Ad => exact Aq.out); rintro e w48 ⟨rfl, hb⟩; replace Aa := kBa Aa hb; replace HB := Am (below_step (pE HB.out Ab.out) hb); (try clear hb); (try clear hb2); (try clear hk); (try clear hi)))
    repeat (go_quiet (first | (go_at_call 34; (with_reducible refine (raft_counts.calls a0_0 true _ A34.out).mono ?_); rintro e w' ⟨rfl, ⟨nd, rfl⟩⟩; (try first | exact ⟨rfl, _, World.drewN_drewN _ _ _⟩ | exact ⟨rfl, _, Eq.trans (World.drewN_drewN _ _ _) (congrArg (World.drewN _) (Nat.add_assoc _ _ _))⟩)) | (go_at_call 34; (with_reducible refine (raft_counts.calls a0_1 true _ A36.out).mono ?_); rintro e w' ⟨rfl, ⟨nd, rfl⟩⟩; (try first | exact ⟨rfl, _, World.drewN_drewN _ _ _⟩ | exact ⟨rfl, _, Eq.trans (World.drewN_drewN _ _ _) (congrArg (World.drewN _) (Nat.add_assoc _ _ _))⟩)) | (go_at_call 26; (with_reducible refine (raft_rows.calls k _ _ l0_2 false _ ?Ac ?Ad A40.out).mono ?_); (case Ac => repeat (first | exact (Kd.C_below Af.out (pE HB.out Ab.out)) | (with_reducible refine Kd.C_alloc ?_ _) | (with_reducible refine Kd.C_drewN ?_ _) | (with_reducible refine Kd.C_drew ?_))); (case Ad => exact Aq.out); rintro e w48 ⟨rfl, hb⟩; replace Aa := kBa Aa hb; replace HB := Am (below_step (pE HB.out Ab.out) hb); (try clear hb); (try clear hb2); (try clear hk); (try clear hi))); try go_wp2_with (first | (go_at_call 34; (with_reducible refine (raft_counts.calls a0_0 true _ A34.out).mono ?_); rintro e w' ⟨rfl, ⟨nd, rfl⟩⟩; (try first | exact ⟨rfl, _, World.drewN_drewN _ _ _⟩ | exact ⟨rfl, _, Eq.trans (World.drewN_drewN _ _ _) (congrArg (World.drewN _) (Nat.add_assoc _ _ _))⟩)) | (go_at_call 34; (with_reducible refine (raft_counts.calls a0_1 true _ A36.out).mono ?_); rintro e w' ⟨rfl, ⟨nd, rfl⟩⟩; (try first | exact ⟨rfl, _, World.drewN_drewN _ _ _⟩ | exact ⟨rfl, _, Eq.trans (World.drewN_drewN _ _ _) (congrArg (World.drewN _) (Nat.add_assoc _ _ _))⟩)) | (go_at_call 26; (with_reducible refine (raft_rows.calls k _ _ l0_2 false _ ?Ac ?Ad A40.out).mono ?_); (case Ac => repeat (first | exact (Kd.C_below Af.out (pE HB.out Ab.out)) | (with_reducible refine Kd.C_alloc ?_ _) | (with_reducible refine Kd.C_drewN ?_ _) | (with_reducible refine Kd.C_drew ?_))); (case Ad => exact Aq.out); rintro e w48 ⟨rfl, hb⟩; replace Aa := kBa Aa hb; replace HB := Am (below_step (pE HB.out Ab.out) hb); (try clear hb); (try clear hb2); (try clear hk); (try clear hi))))
    go_meet
    case rel => exact ⟨_, (true), (by first | rfl | (simp; done) | (simp [*]; done)), H', ⟨by first | omega | exact Nat.le_refl _⟩, ⟨pK Aa.out⟩, ⟨pE HB.out Ab.out⟩⟩
   subst c41
   have H1 : ((hard_Check.f a0_3 a0_4 a0_5).bind fun t123 => (raft_Check.j0 k (t123 != 0) a0_0 a0_1 l0_2 a0_3 a0_4 a0_5 a0_6)) = some r := by rw [if_pos rfl] at H; exact H
   clear H
   have H := H1
   clear H1
   replace H := Option.bind_eq_some_iff.mp H
   obtain ⟨t123, A420, H⟩ := H
   replace H : (raft_Check.j0 k (t123 != 0) a0_0 a0_1 l0_2 a0_3 a0_4 a0_5 a0_6) = some r := H
   have A42 := Am A420
   clear A420
   have H' := Am H
   clear H
   obtain ⟨Fk, Fl, Fm, Fn, Fo, Fp, Fq⟩ := bc7 Aa.out
   obtain ⟨Fr, Fs, Ft, Fu, Fv, Fw, Fx⟩ := bf7 Aa.out
   go_wp2_with (first | (go_at_call 34; (with_reducible refine (raft_counts.calls a0_0 true _ A34.out).mono ?_); rintro e w' ⟨rfl, ⟨nd, rfl⟩⟩; (try first | exact ⟨rfl, _, World.drewN_drewN _ _ _⟩ | exact ⟨rfl, _, Eq.trans (World.drewN_drewN _ _ _) (congrArg (World.drewN _) (Nat.add_assoc _ _ _))⟩)) | (go_at_call 34; (with_reducible refine (raft_counts.calls a0_1 true _ A36.out).mono ?_); rintro e w' ⟨rfl, ⟨nd, rfl⟩⟩; (try first | exact ⟨rfl, _, World.drewN_drewN _ _ _⟩ | exact ⟨rfl, _, Eq.trans (World.drewN_drewN _ _ _) (congrArg (World.drewN _) (Nat.add_assoc _ _ _))⟩)) | (go_at_call 26; (with_reducible refine (raft_rows.calls k _ _ l0_2 true _ ?Ac ?Ad A40.out).mono ?_); (case Ac => repeat (first | exact (Kd.C_below Af.out (pE HB.out Ab.out)) | (with_reducible refine Kd.C_alloc ?_ _) | (with_reducible refine Kd.C_drewN ?_ _) | (with_reducible refine Kd.C_drew ?_))); (case Ad => exact Aq.out); rintro e w44 ⟨rfl, hb⟩; replace Aa := kBa Aa hb; replace HB := Am (below_step (pE HB.out Ab.out) hb); (try clear hb); (try clear hb2); (try clear hk); (try clear hi); obtain ⟨Bw, Bx, By, Bz, B0, B1, B2⟩ := bc7 Aa.out; obtain ⟨B3, B4, B5, B6, B7, B8, B9⟩ := bf7 Aa.out) | (go_at_call 40; (with_reducible refine (hard_Check.calls a0_3 a0_4 a0_5 t123 _ A42.out).mono ?_); rintro e w46 ⟨rfl, hb⟩; replace Aa := kBa Aa hb; replace HB := Am (below_step (pE HB.out Ab.out) hb); (try clear hb); (try clear hb2); (try clear hk); (try clear hi)))
   repeat (go_quiet (first | (go_at_call 34; (with_reducible refine (raft_counts.calls a0_0 true _ A34.out).mono ?_); rintro e w' ⟨rfl, ⟨nd, rfl⟩⟩; (try first | exact ⟨rfl, _, World.drewN_drewN _ _ _⟩ | exact ⟨rfl, _, Eq.trans (World.drewN_drewN _ _ _) (congrArg (World.drewN _) (Nat.add_assoc _ _ _))⟩)) | (go_at_call 34; (with_reducible refine (raft_counts.calls a0_1 true _ A36.out).mono ?_); rintro e w' ⟨rfl, ⟨nd, rfl⟩⟩; (try first | exact ⟨rfl, _, World.drewN_drewN _ _ _⟩ | exact ⟨rfl, _, Eq.trans (World.drewN_drewN _ _ _) (congrArg (World.drewN _) (Nat.add_assoc _ _ _))⟩)) | (go_at_call 26; (with_reducible refine (raft_rows.calls k _ _ l0_2 true _ ?Ac ?Ad A40.out).mono ?_); (case Ac => repeat (first | exact (Kd.C_below Af.out (pE HB.out Ab.out)) | (with_reducible refine Kd.C_alloc ?_ _) | (with_reducible refine Kd.C_drewN ?_ _) | (with_reducible refine Kd.C_drew ?_))); (case Ad => exact Aq.out); rintro e w44 ⟨rfl, hb⟩; replace Aa := kBa Aa hb; replace HB := Am (below_step (pE HB.out Ab.out) hb); (try clear hb); (try clear hb2); (try clear hk); (try clear hi); obtain ⟨Bw, Bx, By, Bz, B0, B1, B2⟩ := bc7 Aa.out; obtain ⟨B3, B4, B5, B6, B7, B8, B9⟩ := bf7 Aa.out) | (go_at_call 40; (with_reducible refine (hard_Check.calls a0_3 a0_4 a0_5 t123 _ A42.out).mono ?_); rintro e w46 ⟨rfl, hb⟩; replace Aa := kBa Aa hb; replace HB := Am (below_step (pE HB.out Ab.out) hb); (try clear hb); (try clear hb2); (try clear hk); (try clear hi))); try go_wp2_with (first | (go_at_call 34; (with_reducible refine (raft_counts.calls a0_0 true _ A34.out).mono ?_); rintro e w' ⟨rfl, ⟨nd, rfl⟩⟩; (try first | exact ⟨rfl, _, World.drewN_drewN _ _ _⟩ | exact ⟨rfl, _, Eq.trans (World.drewN_drewN _ _ _) (congrArg (World.drewN _) (Nat.add_assoc _ _ _))⟩)) | (go_at_call 34; (with_reducible refine (raft_counts.calls a0_1 true _ A36.out).mono ?_); rintro e w' ⟨rfl, ⟨nd, rfl⟩⟩; (try first | exact ⟨rfl, _, World.drewN_drewN _ _ _⟩ | exact ⟨rfl, _, Eq.trans (World.drewN_drewN _ _ _) (congrArg (World.drewN _) (Nat.add_assoc _ _ _))⟩)) | (go_at_call 26; (with_reducible refine (raft_rows.calls k _ _ l0_2 true _ ?Ac ?Ad A40.out).mono ?_); (case Ac => repeat (first | exact (Kd.C_below Af.out (pE HB.out Ab.out)) | (with_reducible refine Kd.C_alloc ?_ _) | (with_reducible refine Kd.C_drewN ?_ _) | (with_reducible refine Kd.C_drew ?_))); (case Ad => exact Aq.out); rintro e w44 ⟨rfl, hb⟩; replace Aa := kBa Aa hb; replace HB := Am (below_step (pE HB.out Ab.out) hb); (try clear hb); (try clear hb2); (try clear hk); (try clear hi); obtain ⟨Bw, Bx, By, Bz, B0, B1, B2⟩ := bc7 Aa.out; obtain ⟨B3, B4, B5, B6, B7, B8, B9⟩ := bf7 Aa.out) | (go_at_call 40; (with_reducible refine (hard_Check.calls a0_3 a0_4 a0_5 t123 _ A42.out).mono ?_); rintro e w46 ⟨rfl, hb⟩; replace Aa := kBa Aa hb; replace HB := Am (below_step (pE HB.out Ab.out) hb); (try clear hb); (try clear hb2); (try clear hk); (try clear hi))))
   go_meet
   case rel => exact ⟨_, ((t123 != 0)), (by first | rfl | (simp; done) | (simp [*]; done)), H', ⟨by first | omega | exact Nat.le_refl _⟩, ⟨pK Aa.out⟩, ⟨pE HB.out Ab.out⟩⟩
  rw [if_pos c4] at H
  have c4b0 : (a0_0 == 0) = true := beq_iff_eq.mpr c4
  have c4b1 : (a0_0 != 0) = false := bne_eq_false_iff_eq.mpr c4
  clear c4
  (first | rw [c4b0] | (simp only [i64_w, i32_w]; rw [c4b0]) | skip)
  by_cases c5 : a0_1 = 0
  ·rw [if_pos c5] at H
   have c5b0 : (a0_1 == 0) = true := beq_iff_eq.mpr c5
   have c5b1 : (a0_1 != 0) = false := bne_eq_false_iff_eq.mpr c5
   clear c5
   by_cases c6 : (l0_2.length : Int) > 1000
   ·rw [if_pos c6] at H
    have c6b0 : decide (1000 < (l0_2.length : Int)) = true := decide_eq_true c6
    have c6b1 : decide (1000 < l0_2.length) = true := decide_eq_true (by omega)
    clear c6
    have H' := Am H
    clear H
    obtain ⟨G6, G7, G8, G9, Ha, Hb, Hc⟩ := bc7 Aa.out
    obtain ⟨Hd, He, Hf, Hg, Hh, Hi, Hj⟩ := bf7 Aa.out
    go_wp2
    repeat (go_quiet (fail); try go_wp2)
    go_meet
    case rel => exact ⟨_, (true), (by first | rfl | (simp; done) | (simp [*]; done)), H', ⟨by first | omega | exact Nat.le_refl _⟩, ⟨pK Aa.out⟩, ⟨pE HB.out Ab.out⟩⟩
   rw [if_neg c6] at H
   have c6b0 : decide (1000 < (l0_2.length : Int)) = false := decide_eq_false c6
   have c6b1 : decide (1000 < l0_2.length) = false := decide_eq_false (by omega)
   clear c6
   replace H := Option.bind_eq_some_iff.mp H
   obtain ⟨t114, A80, H⟩ := H
   replace H : (if t114 = true then ((hard_Check.f a0_3 a0_4 a0_5).bind fun t115 => (raft_Check.j0 k (t115 != 0) a0_0 a0_1 l0_2 a0_3 a0_4 a0_5 a0_6)) else (raft_Check.j0 k true a0_0 a0_1 l0_2 a0_3 a0_4 a0_5 a0_6)) = some r := H
   have A8 := Am A80
   clear A80
   by_cases c9 : t114 = true
   rotate_left
   ·replace c9 := Bool.eq_false_iff.mpr c9
    subst c9
    have H1 : (raft_Check.j0 k true a0_0 a0_1 l0_2 a0_3 a0_4 a0_5 a0_6) = some r := by rw [if_neg (show ¬ (false = true) by decide)] at H; exact H
    clear H
    have H := H1
    clear H1
    have H' := Am H
    clear H
    obtain ⟨Cs, Ct, Cu, Cv, Cw, Cx, Cy⟩ := bc7 Aa.out
    obtain ⟨Cz, C0, C1, C2, C3, C4, C5⟩ := bf7 Aa.out
    go_wp2_with (first | (go_at_call 26; (with_reducible refine (raft_rows.calls k _ _ l0_2 false _ ?Ac ?Ad A8.out).mono ?_); (case Ac => exact pC (Kd.C_below Af.out HB.out)); (case Ad => exact Aq.out); rintro e w16 ⟨rfl, hb⟩; replace Aa := kBa Aa hb; replace HB := Am (below_step (pE HB.out Ab.out) hb); (try clear hb); (try clear hb2); (try clear hk); (try clear hi)))
    repeat (go_quiet (first | (go_at_call 26; (with_reducible refine (raft_rows.calls k _ _ l0_2 false _ ?Ac ?Ad A8.out).mono ?_); (case Ac => exact pC (Kd.C_below Af.out HB.out)); (case Ad => exact Aq.out); rintro e w16 ⟨rfl, hb⟩; replace Aa := kBa Aa hb; replace HB := Am (below_step (pE HB.out Ab.out) hb); (try clear hb); (try clear hb2); (try clear hk); (try clear hi))); try go_wp2_with (first | (go_at_call 26; (with_reducible refine (raft_rows.calls k _ _ l0_2 false _ ?Ac ?Ad A8.out).mono ?_); (case Ac => exact pC (Kd.C_below Af.out HB.out)); (case Ad => exact Aq.out); rintro e w16 ⟨rfl, hb⟩; replace Aa := kBa Aa hb; replace HB := Am (below_step (pE HB.out Ab.out) hb); (try clear hb); (try clear hb2); (try clear hk); (try clear hi))))
    go_meet
    case rel => exact ⟨_, (true), (by first | rfl | (simp; done) | (simp [*]; done)), H', ⟨by first | omega | exact Nat.le_refl _⟩, ⟨pK Aa.out⟩, ⟨pE HB.out Ab.out⟩⟩
   subst c9
   have H1 : ((hard_Check.f a0_3 a0_4 a0_5).bind fun t115 => (raft_Check.j0 k (t115 != 0) a0_0 a0_1 l0_2 a0_3 a0_4 a0_5 a0_6)) = some r := by rw [if_pos rfl] at H; exact H
   clear H
   have H := H1
   clear H1
   replace H := Option.bind_eq_some_iff.mp H
   obtain ⟨t115, A100, H⟩ := H
   replace H : (raft_Check.j0 k (t115 != 0) a0_0 a0_1 l0_2 a0_3 a0_4 a0_5 a0_6) = some r := H
   have A10 := Am A100
   clear A100
   have H' := Am H
   clear H
   obtain ⟨Ce, Cf, Cg, Ch, Ci, Cj, Ck⟩ := bc7 Aa.out
   obtain ⟨Cl, Cm, Cn, Co, Cp, Cq, Cr⟩ := bf7 Aa.out
   go_wp2_with (first | (go_at_call 26; (with_reducible refine (raft_rows.calls k _ _ l0_2 true _ ?Ac ?Ad A8.out).mono ?_); (case Ac => exact pC (Kd.C_below Af.out HB.out)); (case Ad => exact Aq.out); rintro e w12 ⟨rfl, hb⟩; replace Aa := kBa Aa hb; replace HB := Am (below_step (pE HB.out Ab.out) hb); (try clear hb); (try clear hb2); (try clear hk); (try clear hi); obtain ⟨A3, A4, A5, A6, A7, A9, Ba⟩ := bc7 Aa.out; obtain ⟨Bb, Bc, Bd, Be, Bf, Bg, Bh⟩ := bf7 Aa.out) | (go_at_call 40; (with_reducible refine (hard_Check.calls a0_3 a0_4 a0_5 t115 _ A10.out).mono ?_); rintro e w14 ⟨rfl, hb⟩; replace Aa := kBa Aa hb; replace HB := Am (below_step (pE HB.out Ab.out) hb); (try clear hb); (try clear hb2); (try clear hk); (try clear hi)))
   repeat (go_quiet (first | (go_at_call 26; (with_reducible refine (raft_rows.calls k _ _ l0_2 true _ ?Ac ?Ad A8.out).mono ?_); (case Ac => exact pC (Kd.C_below Af.out HB.out)); (case Ad => exact Aq.out); rintro e w12 ⟨rfl, hb⟩; replace Aa := kBa Aa hb; replace HB := Am (below_step (pE HB.out Ab.out) hb); (try clear hb); (try clear hb2); (try clear hk); (try clear hi); obtain ⟨A3, A4, A5, A6, A7, A9, Ba⟩ := bc7 Aa.out; obtain ⟨Bb, Bc, Bd, Be, Bf, Bg, Bh⟩ := bf7 Aa.out) | (go_at_call 40; (with_reducible refine (hard_Check.calls a0_3 a0_4 a0_5 t115 _ A10.out).mono ?_); rintro e w14 ⟨rfl, hb⟩; replace Aa := kBa Aa hb; replace HB := Am (below_step (pE HB.out Ab.out) hb); (try clear hb); (try clear hb2); (try clear hk); (try clear hi))); try go_wp2_with (first | (go_at_call 26; (with_reducible refine (raft_rows.calls k _ _ l0_2 true _ ?Ac ?Ad A8.out).mono ?_); (case Ac => exact pC (Kd.C_below Af.out HB.out)); (case Ad => exact Aq.out); rintro e w12 ⟨rfl, hb⟩; replace Aa := kBa Aa hb; replace HB := Am (below_step (pE HB.out Ab.out) hb); (try clear hb); (try clear hb2); (try clear hk); (try clear hi); obtain ⟨A3, A4, A5, A6, A7, A9, Ba⟩ := bc7 Aa.out; obtain ⟨Bb, Bc, Bd, Be, Bf, Bg, Bh⟩ := bf7 Aa.out) | (go_at_call 40; (with_reducible refine (hard_Check.calls a0_3 a0_4 a0_5 t115 _ A10.out).mono ?_); rintro e w14 ⟨rfl, hb⟩; replace Aa := kBa Aa hb; replace HB := Am (below_step (pE HB.out Ab.out) hb); (try clear hb); (try clear hb2); (try clear hk); (try clear hi))))
   go_meet
   case rel => exact ⟨_, ((t115 != 0)), (by first | rfl | (simp; done) | (simp [*]; done)), H', ⟨by first | omega | exact Nat.le_refl _⟩, ⟨pK Aa.out⟩, ⟨pE HB.out Ab.out⟩⟩
  rw [if_neg c5] at H
  have c5b0 : (a0_1 == 0) = false := beq_eq_false_iff_ne.mpr c5
  have c5b1 : (a0_1 != 0) = true := bne_iff_ne.mpr c5
  replace H := Option.bind_eq_some_iff.mp H
  obtain ⟨t116, A170, H⟩ := H
  replace H : (if t116 = true then ((raft_counts.f a0_1).bind fun t117 => (if t117 = true then (if (l0_2.length : Int) > 1000 then (raft_Check.j0 k true a0_0 a0_1 l0_2 a0_3 a0_4 a0_5 a0_6) else ((raft_rows.f k l0_2).bind fun t118 => (if t118 = true then ((hard_Check.f a0_3 a0_4 a0_5).bind fun t119 => (raft_Check.j0 k (t119 != 0) a0_0 a0_1 l0_2 a0_3 a0_4 a0_5 a0_6)) else (raft_Check.j0 k true a0_0 a0_1 l0_2 a0_3 a0_4 a0_5 a0_6)))) else (raft_Check.j0 k true a0_0 a0_1 l0_2 a0_3 a0_4 a0_5 a0_6))) else (raft_Check.j0 k true a0_0 a0_1 l0_2 a0_3 a0_4 a0_5 a0_6)) = some r := H
  have A17 := Am A170
  clear A170
  by_cases c18 : t116 = true
  rotate_left
  ·replace c18 := Bool.eq_false_iff.mpr c18
   subst c18
   have H1 : (raft_Check.j0 k true a0_0 a0_1 l0_2 a0_3 a0_4 a0_5 a0_6) = some r := by rw [if_neg (show ¬ (false = true) by decide)] at H; exact H
   clear H
   have H := H1
   clear H1
   have H' := Am H
   clear H
   obtain ⟨Er, Es, Et, Eu, Ew, Ex, Ey⟩ := bc7 Aa.out
   obtain ⟨Ez, E0, E1, E2, E3, E4, E5⟩ := bf7 Aa.out
   go_wp2_with (first | (go_at_call 34; (with_reducible refine (raft_counts.calls a0_0 false _ A17.out).mono ?_); rintro e w' ⟨rfl, ⟨nd, rfl⟩⟩; (try first | exact ⟨rfl, _, World.drewN_drewN _ _ _⟩ | exact ⟨rfl, _, Eq.trans (World.drewN_drewN _ _ _) (congrArg (World.drewN _) (Nat.add_assoc _ _ _))⟩)))
   repeat (go_quiet (first | (go_at_call 34; (with_reducible refine (raft_counts.calls a0_0 false _ A17.out).mono ?_); rintro e w' ⟨rfl, ⟨nd, rfl⟩⟩; (try first | exact ⟨rfl, _, World.drewN_drewN _ _ _⟩ | exact ⟨rfl, _, Eq.trans (World.drewN_drewN _ _ _) (congrArg (World.drewN _) (Nat.add_assoc _ _ _))⟩))); try go_wp2_with (first | (go_at_call 34; (with_reducible refine (raft_counts.calls a0_0 false _ A17.out).mono ?_); rintro e w' ⟨rfl, ⟨nd, rfl⟩⟩; (try first | exact ⟨rfl, _, World.drewN_drewN _ _ _⟩ | exact ⟨rfl, _, Eq.trans (World.drewN_drewN _ _ _) (congrArg (World.drewN _) (Nat.add_assoc _ _ _))⟩))))
   go_meet
   case rel => exact ⟨_, (true), (by first | rfl | (simp; done) | (simp [*]; done)), H', ⟨by first | omega | exact Nat.le_refl _⟩, ⟨pK Aa.out⟩, ⟨pE HB.out Ab.out⟩⟩
  subst c18
  have H1 : ((raft_counts.f a0_1).bind fun t117 => (if t117 = true then (if (l0_2.length : Int) > 1000 then (raft_Check.j0 k true a0_0 a0_1 l0_2 a0_3 a0_4 a0_5 a0_6) else ((raft_rows.f k l0_2).bind fun t118 => (if t118 = true then ((hard_Check.f a0_3 a0_4 a0_5).bind fun t119 => (raft_Check.j0 k (t119 != 0) a0_0 a0_1 l0_2 a0_3 a0_4 a0_5 a0_6)) else (raft_Check.j0 k true a0_0 a0_1 l0_2 a0_3 a0_4 a0_5 a0_6)))) else (raft_Check.j0 k true a0_0 a0_1 l0_2 a0_3 a0_4 a0_5 a0_6))) = some r := by rw [if_pos rfl] at H; exact H
  clear H
  have H := H1
  clear H1
  replace H := Option.bind_eq_some_iff.mp H
  obtain ⟨t117, A190, H⟩ := H
  replace H : (if t117 = true then (if (l0_2.length : Int) > 1000 then (raft_Check.j0 k true a0_0 a0_1 l0_2 a0_3 a0_4 a0_5 a0_6) else ((raft_rows.f k l0_2).bind fun t118 => (if t118 = true then ((hard_Check.f a0_3 a0_4 a0_5).bind fun t119 => (raft_Check.j0 k (t119 != 0) a0_0 a0_1 l0_2 a0_3 a0_4 a0_5 a0_6)) else (raft_Check.j0 k true a0_0 a0_1 l0_2 a0_3 a0_4 a0_5 a0_6)))) else (raft_Check.j0 k true a0_0 a0_1 l0_2 a0_3 a0_4 a0_5 a0_6)) = some r := H
  have A19 := Am A190
  clear A190
  by_cases c20 : t117 = true
  rotate_left
  ·replace c20 := Bool.eq_false_iff.mpr c20
   subst c20
   have H1 : (raft_Check.j0 k true a0_0 a0_1 l0_2 a0_3 a0_4 a0_5 a0_6) = some r := by rw [if_neg (show ¬ (false = true) by decide)] at H; exact H
   clear H
   have H := H1
   clear H1
   have H' := Am H
   clear H
   obtain ⟨Ec, Ed, Ee, Ef, Eg, Eh, Ei⟩ := bc7 Aa.out
   obtain ⟨Ej, Ek, El, Em, En, Eo, Ep⟩ := bf7 Aa.out
   go_wp2_with (first | (go_at_call 34; (with_reducible refine (raft_counts.calls a0_0 true _ A17.out).mono ?_); rintro e w' ⟨rfl, ⟨nd, rfl⟩⟩; (try first | exact ⟨rfl, _, World.drewN_drewN _ _ _⟩ | exact ⟨rfl, _, Eq.trans (World.drewN_drewN _ _ _) (congrArg (World.drewN _) (Nat.add_assoc _ _ _))⟩)) | (go_at_call 34; (with_reducible refine (raft_counts.calls a0_1 false _ A19.out).mono ?_); rintro e w' ⟨rfl, ⟨nd, rfl⟩⟩; (try first | exact ⟨rfl, _, World.drewN_drewN _ _ _⟩ | exact ⟨rfl, _, Eq.trans (World.drewN_drewN _ _ _) (congrArg (World.drewN _) (Nat.add_assoc _ _ _))⟩)))
   repeat (go_quiet (first | (go_at_call 34; (with_reducible refine (raft_counts.calls a0_0 true _ A17.out).mono ?_); rintro e w' ⟨rfl, ⟨nd, rfl⟩⟩; (try first | exact ⟨rfl, _, World.drewN_drewN _ _ _⟩ | exact ⟨rfl, _, Eq.trans (World.drewN_drewN _ _ _) (congrArg (World.drewN _) (Nat.add_assoc _ _ _))⟩)) | (go_at_call 34; (with_reducible refine (raft_counts.calls a0_1 false _ A19.out).mono ?_); rintro e w' ⟨rfl, ⟨nd, rfl⟩⟩; (try first | exact ⟨rfl, _, World.drewN_drewN _ _ _⟩ | exact ⟨rfl, _, Eq.trans (World.drewN_drewN _ _ _) (congrArg (World.drewN _) (Nat.add_assoc _ _ _))⟩))); try go_wp2_with (first | (go_at_call 34; (with_reducible refine (raft_counts.calls a0_0 true _ A17.out).mono ?_); rintro e w' ⟨rfl, ⟨nd, rfl⟩⟩; (try first | exact ⟨rfl, _, World.drewN_drewN _ _ _⟩ | exact ⟨rfl, _, Eq.trans (World.drewN_drewN _ _ _) (congrArg (World.drewN _) (Nat.add_assoc _ _ _))⟩)) | (go_at_call 34; (with_reducible refine (raft_counts.calls a0_1 false _ A19.out).mono ?_); rintro e w' ⟨rfl, ⟨nd, rfl⟩⟩; (try first | exact ⟨rfl, _, World.drewN_drewN _ _ _⟩ | exact ⟨rfl, _, Eq.trans (World.drewN_drewN _ _ _) (congrArg (World.drewN _) (Nat.add_assoc _ _ _))⟩))))
   go_meet
   case rel => exact ⟨_, (true), (by first | rfl | (simp; done) | (simp [*]; done)), H', ⟨by first | omega | exact Nat.le_refl _⟩, ⟨pK Aa.out⟩, ⟨pE HB.out Ab.out⟩⟩
  subst c20
  have H1 : (if (l0_2.length : Int) > 1000 then (raft_Check.j0 k true a0_0 a0_1 l0_2 a0_3 a0_4 a0_5 a0_6) else ((raft_rows.f k l0_2).bind fun t118 => (if t118 = true then ((hard_Check.f a0_3 a0_4 a0_5).bind fun t119 => (raft_Check.j0 k (t119 != 0) a0_0 a0_1 l0_2 a0_3 a0_4 a0_5 a0_6)) else (raft_Check.j0 k true a0_0 a0_1 l0_2 a0_3 a0_4 a0_5 a0_6)))) = some r := by rw [if_pos rfl] at H; exact H
  clear H
  have H := H1
  clear H1
  by_cases c21 : (l0_2.length : Int) > 1000
  ·rw [if_pos c21] at H
   have c21b0 : decide (1000 < (l0_2.length : Int)) = true := decide_eq_true c21
   have c21b1 : decide (1000 < l0_2.length) = true := decide_eq_true (by omega)
   clear c21
   have H' := Am H
   clear H
   obtain ⟨C6, C7, C8, C9, Da, Db, Dc⟩ := bc7 Aa.out
   obtain ⟨Dd, De, Df, Dg, Dh, Di, Dj⟩ := bf7 Aa.out
   go_wp2_with (first | (go_at_call 34; (with_reducible refine (raft_counts.calls a0_0 true _ A17.out).mono ?_); rintro e w' ⟨rfl, ⟨nd, rfl⟩⟩; (try first | exact ⟨rfl, _, World.drewN_drewN _ _ _⟩ | exact ⟨rfl, _, Eq.trans (World.drewN_drewN _ _ _) (congrArg (World.drewN _) (Nat.add_assoc _ _ _))⟩)) | (go_at_call 34; (with_reducible refine (raft_counts.calls a0_1 true _ A19.out).mono ?_); rintro e w' ⟨rfl, ⟨nd, rfl⟩⟩; (try first | exact ⟨rfl, _, World.drewN_drewN _ _ _⟩ | exact ⟨rfl, _, Eq.trans (World.drewN_drewN _ _ _) (congrArg (World.drewN _) (Nat.add_assoc _ _ _))⟩)))
   repeat (go_quiet (first | (go_at_call 34; (with_reducible refine (raft_counts.calls a0_0 true _ A17.out).mono ?_); rintro e w' ⟨rfl, ⟨nd, rfl⟩⟩; (try first | exact ⟨rfl, _, World.drewN_drewN _ _ _⟩ | exact ⟨rfl, _, Eq.trans (World.drewN_drewN _ _ _) (congrArg (World.drewN _) (Nat.add_assoc _ _ _))⟩)) | (go_at_call 34; (with_reducible refine (raft_counts.calls a0_1 true _ A19.out).mono ?_); rintro e w' ⟨rfl, ⟨nd, rfl⟩⟩; (try first | exact ⟨rfl, _, World.drewN_drewN _ _ _⟩ | exact ⟨rfl, _, Eq.trans (World.drewN_drewN _ _ _) (congrArg (World.drewN _) (Nat.add_assoc _ _ _))⟩))); try go_wp2_with (first | (go_at_call 34; (with_reducible refine (raft_counts.calls a0_0 true _ A17.out).mono ?_); rintro e w' ⟨rfl, ⟨nd, rfl⟩⟩; (try first | exact ⟨rfl, _, World.drewN_drewN _ _ _⟩ | exact ⟨rfl, _, Eq.trans (World.drewN_drewN _ _ _) (congrArg (World.drewN _) (Nat.add_assoc _ _ _))⟩)) | (go_at_call 34; (with_reducible refine (raft_counts.calls a0_1 true _ A19.out).mono ?_); rintro e w' ⟨rfl, ⟨nd, rfl⟩⟩; (try first | exact ⟨rfl, _, World.drewN_drewN _ _ _⟩ | exact ⟨rfl, _, Eq.trans (World.drewN_drewN _ _ _) (congrArg (World.drewN _) (Nat.add_assoc _ _ _))⟩))))
   go_meet
   case rel => exact ⟨_, (true), (by first | rfl | (simp; done) | (simp [*]; done)), H', ⟨by first | omega | exact Nat.le_refl _⟩, ⟨pK Aa.out⟩, ⟨pE HB.out Ab.out⟩⟩
  rw [if_neg c21] at H
  have c21b0 : decide (1000 < (l0_2.length : Int)) = false := decide_eq_false c21
  have c21b1 : decide (1000 < l0_2.length) = false := decide_eq_false (by omega)
  clear c21
  replace H := Option.bind_eq_some_iff.mp H
  obtain ⟨t118, A230, H⟩ := H
  replace H : (if t118 = true then ((hard_Check.f a0_3 a0_4 a0_5).bind fun t119 => (raft_Check.j0 k (t119 != 0) a0_0 a0_1 l0_2 a0_3 a0_4 a0_5 a0_6)) else (raft_Check.j0 k true a0_0 a0_1 l0_2 a0_3 a0_4 a0_5 a0_6)) = some r := H
  have A23 := Am A230
  clear A230
  by_cases c24 : t118 = true
  rotate_left
  ·replace c24 := Bool.eq_false_iff.mpr c24
   subst c24
   have H1 : (raft_Check.j0 k true a0_0 a0_1 l0_2 a0_3 a0_4 a0_5 a0_6) = some r := by rw [if_neg (show ¬ (false = true) by decide)] at H; exact H
   clear H
   have H := H1
   clear H1
   have H' := Am H
   clear H
   obtain ⟨Dy, Dz, D0, D1, D2, D3, D4⟩ := bc7 Aa.out
   obtain ⟨D5, D6, D7, D8, D9, Ea, Eb⟩ := bf7 Aa.out
   go_wp2_with (first | (go_at_call 34; (with_reducible refine (raft_counts.calls a0_0 true _ A17.out).mono ?_); rintro e w' ⟨rfl, ⟨nd, rfl⟩⟩; (try first | exact ⟨rfl, _, World.drewN_drewN _ _ _⟩ | exact ⟨rfl, _, Eq.trans (World.drewN_drewN _ _ _) (congrArg (World.drewN _) (Nat.add_assoc _ _ _))⟩)) | (go_at_call 34; (with_reducible refine (raft_counts.calls a0_1 true _ A19.out).mono ?_); rintro e w' ⟨rfl, ⟨nd, rfl⟩⟩; (try first | exact ⟨rfl, _, World.drewN_drewN _ _ _⟩ | exact ⟨rfl, _, Eq.trans (World.drewN_drewN _ _ _) (congrArg (World.drewN _) (Nat.add_assoc _ _ _))⟩)) | (go_at_call 26; (with_reducible refine (raft_rows.calls k _ _ l0_2 false _ ?Ac ?Ad A23.out).mono ?_); (case Ac => repeat (first | exact (Kd.C_below Af.out (pE HB.out Ab.out)) | (with_reducible refine Kd.C_alloc ?_ _) | (with_reducible refine Kd.C_drewN ?_ _) | (with_reducible refine Kd.C_drew ?_))); (case Ad => exact Aq.out); rintro e w31 ⟨rfl, hb⟩; replace Aa := kBa Aa hb; replace HB := Am (below_step (pE HB.out Ab.out) hb); (try clear hb); (try clear hb2); (try clear hk); (try clear hi)))
   repeat (go_quiet (first | (go_at_call 34; (with_reducible refine (raft_counts.calls a0_0 true _ A17.out).mono ?_); rintro e w' ⟨rfl, ⟨nd, rfl⟩⟩; (try first | exact ⟨rfl, _, World.drewN_drewN _ _ _⟩ | exact ⟨rfl, _, Eq.trans (World.drewN_drewN _ _ _) (congrArg (World.drewN _) (Nat.add_assoc _ _ _))⟩)) | (go_at_call 34; (with_reducible refine (raft_counts.calls a0_1 true _ A19.out).mono ?_); rintro e w' ⟨rfl, ⟨nd, rfl⟩⟩; (try first | exact ⟨rfl, _, World.drewN_drewN _ _ _⟩ | exact ⟨rfl, _, Eq.trans (World.drewN_drewN _ _ _) (congrArg (World.drewN _) (Nat.add_assoc _ _ _))⟩)) | (go_at_call 26; (with_reducible refine (raft_rows.calls k _ _ l0_2 false _ ?Ac ?Ad A23.out).mono ?_); (case Ac => repeat (first | exact (Kd.C_below Af.out (pE HB.out Ab.out)) | (with_reducible refine Kd.C_alloc ?_ _) | (with_reducible refine Kd.C_drewN ?_ _) | (with_reducible refine Kd.C_drew ?_))); (case Ad => exact Aq.out); rintro e w31 ⟨rfl, hb⟩; replace Aa := kBa Aa hb; replace HB := Am (below_step (pE HB.out Ab.out) hb); (try clear hb); (try clear hb2); (try clear hk); (try clear hi))); try go_wp2_with (first | (go_at_call 34; (with_reducible refine (raft_counts.calls a0_0 true _ A17.out).mono ?_); rintro e w' ⟨rfl, ⟨nd, rfl⟩⟩; (try first | exact ⟨rfl, _, World.drewN_drewN _ _ _⟩ | exact ⟨rfl, _, Eq.trans (World.drewN_drewN _ _ _) (congrArg (World.drewN _) (Nat.add_assoc _ _ _))⟩)) | (go_at_call 34; (with_reducible refine (raft_counts.calls a0_1 true _ A19.out).mono ?_); rintro e w' ⟨rfl, ⟨nd, rfl⟩⟩; (try first | exact ⟨rfl, _, World.drewN_drewN _ _ _⟩ | exact ⟨rfl, _, Eq.trans (World.drewN_drewN _ _ _) (congrArg (World.drewN _) (Nat.add_assoc _ _ _))⟩)) | (go_at_call 26; (with_reducible refine (raft_rows.calls k _ _ l0_2 false _ ?Ac ?Ad A23.out).mono ?_); (case Ac => repeat (first | exact (Kd.C_below Af.out (pE HB.out Ab.out)) | (with_reducible refine Kd.C_alloc ?_ _) | (with_reducible refine Kd.C_drewN ?_ _) | (with_reducible refine Kd.C_drew ?_))); (case Ad => exact Aq.out); rintro e w31 ⟨rfl, hb⟩; replace Aa := kBa Aa hb; replace HB := Am (below_step (pE HB.out Ab.out) hb); (try clear hb); (try clear hb2); (try clear hk); (try clear hi))))
   go_meet
   case rel => exact ⟨_, (true), (by first | rfl | (simp; done) | (simp [*]; done)), H', ⟨by first | omega | exact Nat.le_refl _⟩, ⟨pK Aa.out⟩, ⟨pE HB.out Ab.out⟩⟩
  subst c24
  have H1 : ((hard_Check.f a0_3 a0_4 a0_5).bind fun t119 => (raft_Check.j0 k (t119 != 0) a0_0 a0_1 l0_2 a0_3 a0_4 a0_5 a0_6)) = some r := by rw [if_pos rfl] at H; exact H
  clear H
  have H := H1
  clear H1
  replace H := Option.bind_eq_some_iff.mp H
  obtain ⟨t119, A250, H⟩ := H
  replace H : (raft_Check.j0 k (t119 != 0) a0_0 a0_1 l0_2 a0_3 a0_4 a0_5 a0_6) = some r := H
  have A25 := Am A250
  clear A250
  have H' := Am H
  clear H
  obtain ⟨Dk, Dl, Dm, Dn, Do, Dp, Dq⟩ := bc7 Aa.out
  obtain ⟨Dr, Ds, Dt, Du, Dv, Dw, Dx⟩ := bf7 Aa.out
  go_wp2_with (first | (go_at_call 34; (with_reducible refine (raft_counts.calls a0_0 true _ A17.out).mono ?_); rintro e w' ⟨rfl, ⟨nd, rfl⟩⟩; (try first | exact ⟨rfl, _, World.drewN_drewN _ _ _⟩ | exact ⟨rfl, _, Eq.trans (World.drewN_drewN _ _ _) (congrArg (World.drewN _) (Nat.add_assoc _ _ _))⟩)) | (go_at_call 34; (with_reducible refine (raft_counts.calls a0_1 true _ A19.out).mono ?_); rintro e w' ⟨rfl, ⟨nd, rfl⟩⟩; (try first | exact ⟨rfl, _, World.drewN_drewN _ _ _⟩ | exact ⟨rfl, _, Eq.trans (World.drewN_drewN _ _ _) (congrArg (World.drewN _) (Nat.add_assoc _ _ _))⟩)) | (go_at_call 26; (with_reducible refine (raft_rows.calls k _ _ l0_2 true _ ?Ac ?Ad A23.out).mono ?_); (case Ac => repeat (first | exact (Kd.C_below Af.out (pE HB.out Ab.out)) | (with_reducible refine Kd.C_alloc ?_ _) | (with_reducible refine Kd.C_drewN ?_ _) | (with_reducible refine Kd.C_drew ?_))); (case Ad => exact Aq.out); rintro e w27 ⟨rfl, hb⟩; replace Aa := kBa Aa hb; replace HB := Am (below_step (pE HB.out Ab.out) hb); (try clear hb); (try clear hb2); (try clear hk); (try clear hi); obtain ⟨Bi, Bj, Bk, Bl, Bm, Bn, Bo⟩ := bc7 Aa.out; obtain ⟨Bp, Bq, Br, Bs, Bt, Bu, Bv⟩ := bf7 Aa.out) | (go_at_call 40; (with_reducible refine (hard_Check.calls a0_3 a0_4 a0_5 t119 _ A25.out).mono ?_); rintro e w29 ⟨rfl, hb⟩; replace Aa := kBa Aa hb; replace HB := Am (below_step (pE HB.out Ab.out) hb); (try clear hb); (try clear hb2); (try clear hk); (try clear hi)))
  repeat (go_quiet (first | (go_at_call 34; (with_reducible refine (raft_counts.calls a0_0 true _ A17.out).mono ?_); rintro e w' ⟨rfl, ⟨nd, rfl⟩⟩; (try first | exact ⟨rfl, _, World.drewN_drewN _ _ _⟩ | exact ⟨rfl, _, Eq.trans (World.drewN_drewN _ _ _) (congrArg (World.drewN _) (Nat.add_assoc _ _ _))⟩)) | (go_at_call 34; (with_reducible refine (raft_counts.calls a0_1 true _ A19.out).mono ?_); rintro e w' ⟨rfl, ⟨nd, rfl⟩⟩; (try first | exact ⟨rfl, _, World.drewN_drewN _ _ _⟩ | exact ⟨rfl, _, Eq.trans (World.drewN_drewN _ _ _) (congrArg (World.drewN _) (Nat.add_assoc _ _ _))⟩)) | (go_at_call 26; (with_reducible refine (raft_rows.calls k _ _ l0_2 true _ ?Ac ?Ad A23.out).mono ?_); (case Ac => repeat (first | exact (Kd.C_below Af.out (pE HB.out Ab.out)) | (with_reducible refine Kd.C_alloc ?_ _) | (with_reducible refine Kd.C_drewN ?_ _) | (with_reducible refine Kd.C_drew ?_))); (case Ad => exact Aq.out); rintro e w27 ⟨rfl, hb⟩; replace Aa := kBa Aa hb; replace HB := Am (below_step (pE HB.out Ab.out) hb); (try clear hb); (try clear hb2); (try clear hk); (try clear hi); obtain ⟨Bi, Bj, Bk, Bl, Bm, Bn, Bo⟩ := bc7 Aa.out; obtain ⟨Bp, Bq, Br, Bs, Bt, Bu, Bv⟩ := bf7 Aa.out) | (go_at_call 40; (with_reducible refine (hard_Check.calls a0_3 a0_4 a0_5 t119 _ A25.out).mono ?_); rintro e w29 ⟨rfl, hb⟩; replace Aa := kBa Aa hb; replace HB := Am (below_step (pE HB.out Ab.out) hb); (try clear hb); (try clear hb2); (try clear hk); (try clear hi))); try go_wp2_with (first | (go_at_call 34; (with_reducible refine (raft_counts.calls a0_0 true _ A17.out).mono ?_); rintro e w' ⟨rfl, ⟨nd, rfl⟩⟩; (try first | exact ⟨rfl, _, World.drewN_drewN _ _ _⟩ | exact ⟨rfl, _, Eq.trans (World.drewN_drewN _ _ _) (congrArg (World.drewN _) (Nat.add_assoc _ _ _))⟩)) | (go_at_call 34; (with_reducible refine (raft_counts.calls a0_1 true _ A19.out).mono ?_); rintro e w' ⟨rfl, ⟨nd, rfl⟩⟩; (try first | exact ⟨rfl, _, World.drewN_drewN _ _ _⟩ | exact ⟨rfl, _, Eq.trans (World.drewN_drewN _ _ _) (congrArg (World.drewN _) (Nat.add_assoc _ _ _))⟩)) | (go_at_call 26; (with_reducible refine (raft_rows.calls k _ _ l0_2 true _ ?Ac ?Ad A23.out).mono ?_); (case Ac => repeat (first | exact (Kd.C_below Af.out (pE HB.out Ab.out)) | (with_reducible refine Kd.C_alloc ?_ _) | (with_reducible refine Kd.C_drewN ?_ _) | (with_reducible refine Kd.C_drew ?_))); (case Ad => exact Aq.out); rintro e w27 ⟨rfl, hb⟩; replace Aa := kBa Aa hb; replace HB := Am (below_step (pE HB.out Ab.out) hb); (try clear hb); (try clear hb2); (try clear hk); (try clear hi); obtain ⟨Bi, Bj, Bk, Bl, Bm, Bn, Bo⟩ := bc7 Aa.out; obtain ⟨Bp, Bq, Br, Bs, Bt, Bu, Bv⟩ := bf7 Aa.out) | (go_at_call 40; (with_reducible refine (hard_Check.calls a0_3 a0_4 a0_5 t119 _ A25.out).mono ?_); rintro e w29 ⟨rfl, hb⟩; replace Aa := kBa Aa hb; replace HB := Am (below_step (pE HB.out Ab.out) hb); (try clear hb); (try clear hb2); (try clear hk); (try clear hi))))
  go_meet
  case rel => exact ⟨_, ((t119 != 0)), (by first | rfl | (simp; done) | (simp [*]; done)), H', ⟨by first | omega | exact Nat.le_refl _⟩, ⟨pK Aa.out⟩, ⟨pE HB.out Ab.out⟩⟩
 case rest =>
  clear HC2
  try clear c1
  try clear c2
  try clear p2
  try clear c3
  try clear c4
  try clear c4b0
  try clear c4b1
  try clear c5
  try clear c5b0
  try clear c5b1
  try clear c6
  try clear c6b0
  try clear c6b1
  try clear c9
  try clear c18
  try clear c20
  try clear c21
  try clear c21b0
  try clear c21b1
  try clear c24
  try clear c25
  try clear c35
  try clear c37
  try clear c38
  try clear c38b0
  try clear c38b1
  try clear c41
  try clear Ce Cf Cg Ch Ci Cj Ck
  try clear A3 A4 A5 A6 A7 A9 Ba
  try clear Cs Ct Cu Cv Cw Cx Cy
  try clear C6 C7 C8 C9 Da Db Dc
  try clear Dk Dl Dm Dn Do Dp Dq
  try clear Bi Bj Bk Bl Bm Bn Bo
  try clear Dy Dz D0 D1 D2 D3 D4
  try clear Ec Ed Ee Ef Eg Eh Ei
  try clear Er Es Et Eu Ew Ex Ey
  try clear E6 E7 E8 E9 Fa Fb Fc
  try clear Fk Fl Fm Fn Fo Fp Fq
  try clear Bw Bx By Bz B0 B1 B2
  try clear Fy Fz F0 F1 F2 F3 F4
  try clear Gc Gd Ge Gf Gg Gh Gi
  try clear Gq Gr Gs Gt Gu Gv Gw
  try clear G6 G7 G8 G9 Ha Hb Hc
  try clear Cl Cm Cn Co Cp Cq Cr
  try clear Bb Bc Bd Be Bf Bg Bh
  try clear Cz C0 C1 C2 C3 C4 C5
  try clear Dd De Df Dg Dh Di Dj
  try clear Dr Ds Dt Du Dv Dw Dx
  try clear Bp Bq Br Bs Bt Bu Bv
  try clear D5 D6 D7 D8 D9 Ea Eb
  try clear Ej Ek El Em En Eo Ep
  try clear Ez E0 E1 E2 E3 E4 E5
  try clear Fd Fe Ff Fg Fh Fi Fj
  try clear Fr Fs Ft Fu Fv Fw Fx
  try clear B3 B4 B5 B6 B7 B8 B9
  try clear F5 F6 F7 F8 F9 Ga Gb
  try clear Gj Gk Gl Gm Gn Go Gp
  try clear Gx Gy Gz G0 G1 G2 G3
  try clear Hd He Hf Hg Hh Hi Hj
  obtain ⟨kq, Cd, rfl, HA, HJ1, Aa, HB⟩ := hcut
  cases kq with
  | zero => exact absurd HA.out (by simp [raft_Check.j0])
  | succ kj1 =>
   have H := HA.out
   clear HA
   simp only [raft_Check.j0] at H
   by_cases c51 : Cd = true
   ·subst c51
    have H1 : (some 1) = some r := by rw [if_pos rfl] at H; exact H
    clear H
    have H := H1
    clear H1
    obtain rfl := Option.some.inj H
    go_wp2
    repeat (go_quiet (fail); try go_wp2)
    go_ret
    exact ⟨pX, pE HB.out Ab.out⟩
   replace c51 := Bool.eq_false_iff.mpr c51
   subst c51
   have H1 : (if (l0_2.length : Int) > 0 then (if 0 < (l0_2.length : Int) then (if ((rd_T46 l0_2 0).f0) = (wrap64 (a0_0 + 1)) then (raft_Check.j1 kj1 (decide (((rd_T46 l0_2 0).f1) < a0_1)) a0_0 a0_1 l0_2 a0_3 a0_4 a0_5 a0_6) else (raft_Check.j1 kj1 true a0_0 a0_1 l0_2 a0_3 a0_4 a0_5 a0_6)) else (none)) else (raft_Check.j1 kj1 false a0_0 a0_1 l0_2 a0_3 a0_4 a0_5 a0_6)) = some r := by rw [if_neg (show ¬ (false = true) by decide)] at H; exact H
   clear H
   have H := H1
   clear H1
   have HC52 := Am H
   clear H
   go_upto_region 3 with (fail)
   repeat (go_quiet (fail); go_upto_region 3 with (fail))
   go_cut [64] (fun v64 wc => ∃ (kq : Nat) (Cb : Bool), v64 = .bool Cb ∧ Aside0 (raft_Check.j1 kq Cb a0_0 a0_1 l0_2 a0_3 a0_4 a0_5 a0_6 = some r) ∧ Aside0 (kq ≤ kj1) ∧ Aside0 (wc.heap[Ca]? = some (.cells #[.int .i64 a0_0, .int .i64 a0_1, (.slice A0_2 l0_2.length c0_2), .int .i64 a0_3, .int .i64 a0_4, .int .i64 a0_5, .int .i64 a0_6] 26 (0, 0))) ∧ Aside0 (Below w.heap.size w wc))
   case first =>
    have H := HC52.out
    clear HC52
    by_cases c53 : (l0_2.length : Int) > 0
    rotate_left
    ·rw [if_neg c53] at H
     have c53b0 : decide (0 < (l0_2.length : Int)) = false := decide_eq_false c53
     have c53b1 : decide (0 < l0_2.length) = false := decide_eq_false (by omega)
     clear c53
     (first | rw [c53b0] | (simp only [i64_w, i32_w]; rw [c53b0]) | skip)
     have H' := Am H
     clear H
     obtain ⟨Ig, Ih, Ii, Ij, Ik, Il, Im⟩ := bc7 Aa.out
     obtain ⟨In, Io, Ip, Iq, Ir, Is, It⟩ := bf7 Aa.out
     go_wp2
     repeat (go_quiet (fail); try go_wp2)
     go_meet
     case rel => exact ⟨_, (false), (by first | rfl | (simp; done) | (simp [*]; done)), H', ⟨by have := HJ1.out; first | omega | exact Nat.le_refl _⟩, ⟨pK Aa.out⟩, ⟨pE HB.out Ab.out⟩⟩
    rw [if_pos c53] at H
    have c53b0 : decide (0 < (l0_2.length : Int)) = true := decide_eq_true c53
    have c53b1 : decide (0 < l0_2.length) = true := decide_eq_true (by omega)
    clear c53
    (first | rw [c53b0] | (simp only [i64_w, i32_w]; rw [c53b0]) | skip)
    by_cases c54 : 0 < (l0_2.length : Int)
    rotate_left
    ·rw [if_neg c54] at H
     exact absurd H (by simp)
    rw [if_pos c54] at H
    have c54b0 : decide (0 < (l0_2.length : Int)) = true := decide_eq_true c54
    have c54b1 : decide (0 < l0_2.length) = true := decide_eq_true (by omega)
    clear c54
    by_cases c55 : ((rd_T46 l0_2 0).f0) = (wrap64 (a0_0 + 1))
    rotate_left
    ·rw [if_neg c55] at H
     have c55b0 : (((rd_T46 l0_2 0).f0) == (wrap64 (a0_0 + 1))) = false := beq_eq_false_iff_ne.mpr c55
     have c55b1 : (((rd_T46 l0_2 0).f0) != (wrap64 (a0_0 + 1))) = true := bne_iff_ne.mpr c55
     have H' := Am H
     clear H
     obtain ⟨H0, H2, H3, H4, H5, H6, H7⟩ := bc7 Aa.out
     obtain ⟨H8, H9, Ia, Ib, Ic, Ie, If⟩ := bf7 Aa.out
     have p124 : 0 ≤ (0 : Int) := (by omega)
     have q124 : 0 < (l0_2.length : Int) := of_decide_eq_true pS
     obtain ⟨Iu, Iv, c124_5, e124, Ag, Ah, Ai, Aj, Ak, Ae, Al, An, Ao, Ap, A1, A2⟩ := at_T46 Af.out 0 p124 q124
     cases e124
     have qi124 : (0 < l0_2.length) = True := eq_true (by omega)
     (try rw [tz] at Ag)
     (try rw [show 0 * 10 = 0 from rfl] at Ag)
     (try rw [Addr.add_zero'] at Ag)
     (try rw [tz] at Ah)
     (try rw [show 0 * 10 = 0 from rfl] at Ah)
     (try rw [Addr.add_zero'] at Ah)
     (try rw [tz] at Ai)
     (try rw [show 0 * 10 = 0 from rfl] at Ai)
     (try rw [Addr.add_zero'] at Ai)
     (try rw [tz] at Aj)
     (try rw [show 0 * 10 = 0 from rfl] at Aj)
     (try rw [Addr.add_zero'] at Aj)
     (try rw [tz] at Ak)
     (try rw [show 0 * 10 = 0 from rfl] at Ak)
     (try rw [Addr.add_zero'] at Ak)
     (try rw [tz] at Ae)
     (try rw [show 0 * 10 = 0 from rfl] at Ae)
     (try rw [Addr.add_zero'] at Ae)
     (try rw [tz] at Al)
     (try rw [show 0 * 10 = 0 from rfl] at Al)
     (try rw [Addr.add_zero'] at Al)
     (try rw [tz] at An)
     (try rw [show 0 * 10 = 0 from rfl] at An)
     (try rw [Addr.add_zero'] at An)
     (try rw [tz] at Ao)
     (try rw [show 0 * 10 = 0 from rfl] at Ao)
     (try rw [Addr.add_zero'] at Ao)
     (try rw [tz] at Ap)
     (try rw [show 0 * 10 = 0 from rfl] at Ap)
     (try rw [Addr.add_zero'] at Ap)
     replace Ag := cU HB.out Ag
     replace Ah := cU HB.out Ah
     replace Ai := cU HB.out Ai
     replace Aj := cU HB.out Aj
     replace Ak := cU HB.out Ak
     replace Ae := cU HB.out Ae
     replace Al := cU HB.out Al
     replace An := cU HB.out An
     replace Ao := cU HB.out Ao
     replace Ap := cU HB.out Ap
     have Hy := Am A2
     have Hz := Am A1
     clear A2 A1
     replace p124 := eq_true p124
     replace q124 := eq_true q124
     go_wp2
     repeat (go_quiet (fail); try go_wp2)
     go_meet
     case rel => exact ⟨_, (true), (by first | rfl | (simp; done) | (simp [*]; done)), H', ⟨by have := HJ1.out; first | omega | exact Nat.le_refl _⟩, ⟨pK Aa.out⟩, ⟨pE HB.out Ab.out⟩⟩
    rw [if_pos c55] at H
    have c55b0 : (((rd_T46 l0_2 0).f0) == (wrap64 (a0_0 + 1))) = true := beq_iff_eq.mpr c55
    have c55b1 : (((rd_T46 l0_2 0).f0) != (wrap64 (a0_0 + 1))) = false := bne_eq_false_iff_eq.mpr c55
    clear c55
    have H' := Am H
    clear H
    obtain ⟨Hk, Hl, Hm, Hn, Ho, Hp, Hq⟩ := bc7 Aa.out
    obtain ⟨Hr, Hs, Ht, Hu, Hv, Hw, Hx⟩ := bf7 Aa.out
    have p124 : 0 ≤ (0 : Int) := (by omega)
    have q124 : 0 < (l0_2.length : Int) := of_decide_eq_true pS
    obtain ⟨Iu, Iv, c124_5, e124, Ag, Ah, Ai, Aj, Ak, Ae, Al, An, Ao, Ap, A1, A2⟩ := at_T46 Af.out 0 p124 q124
    cases e124
    have qi124 : (0 < l0_2.length) = True := eq_true (by omega)
    (try rw [tz] at Ag)
    (try rw [show 0 * 10 = 0 from rfl] at Ag)
    (try rw [Addr.add_zero'] at Ag)
    (try rw [tz] at Ah)
    (try rw [show 0 * 10 = 0 from rfl] at Ah)
    (try rw [Addr.add_zero'] at Ah)
    (try rw [tz] at Ai)
    (try rw [show 0 * 10 = 0 from rfl] at Ai)
    (try rw [Addr.add_zero'] at Ai)
    (try rw [tz] at Aj)
    (try rw [show 0 * 10 = 0 from rfl] at Aj)
    (try rw [Addr.add_zero'] at Aj)
    (try rw [tz] at Ak)
    (try rw [show 0 * 10 = 0 from rfl] at Ak)
    (try rw [Addr.add_zero'] at Ak)
    (try rw [tz] at Ae)
    (try rw [show 0 * 10 = 0 from rfl] at Ae)
    (try rw [Addr.add_zero'] at Ae)
    (try rw [tz] at Al)
    (try rw [show 0 * 10 = 0 from rfl] at Al)
    (try rw [Addr.add_zero'] at Al)
    (try rw [tz] at An)
    (try rw [show 0 * 10 = 0 from rfl] at An)
    (try rw [Addr.add_zero'] at An)
    (try rw [tz] at Ao)
    (try rw [show 0 * 10 = 0 from rfl] at Ao)
    (try rw [Addr.add_zero'] at Ao)
    (try rw [tz] at Ap)
    (try rw [show 0 * 10 = 0 from rfl] at Ap)
    (try rw [Addr.add_zero'] at Ap)
    replace Ag := cU HB.out Ag
    replace Ah := cU HB.out Ah
    replace Ai := cU HB.out Ai
    replace Aj := cU HB.out Aj
    replace Ak := cU HB.out Ak
    replace Ae := cU HB.out Ae
    replace Al := cU HB.out Al
    replace An := cU HB.out An
    replace Ao := cU HB.out Ao
    replace Ap := cU HB.out Ap
    have Hy := Am A2
    have Hz := Am A1
    clear A2 A1
    replace p124 := eq_true p124
    replace q124 := eq_true q124
    have p125 : 0 ≤ (0 : Int) := (by omega)
    have q125 : 0 < (l0_2.length : Int) := of_decide_eq_true pS
    obtain ⟨Iw, A125_5, c125_5, e125, As, At, Au, Av, Aw, Ar, Ax, Ay, Az, A0, G4, G5⟩ := at_T46 Af.out 0 p125 q125
    obtain rfl : Iu = Iw := (by injection e125)
    have qi125 : (0 < l0_2.length) = True := eq_true (by omega)
    (try rw [tz] at As)
    (try rw [show 0 * 10 = 0 from rfl] at As)
    (try rw [Addr.add_zero'] at As)
    (try rw [tz] at At)
    (try rw [show 0 * 10 = 0 from rfl] at At)
    (try rw [Addr.add_zero'] at At)
    (try rw [tz] at Au)
    (try rw [show 0 * 10 = 0 from rfl] at Au)
    (try rw [Addr.add_zero'] at Au)
    (try rw [tz] at Av)
    (try rw [show 0 * 10 = 0 from rfl] at Av)
    (try rw [Addr.add_zero'] at Av)
    (try rw [tz] at Aw)
    (try rw [show 0 * 10 = 0 from rfl] at Aw)
    (try rw [Addr.add_zero'] at Aw)
    (try rw [tz] at Ar)
    (try rw [show 0 * 10 = 0 from rfl] at Ar)
    (try rw [Addr.add_zero'] at Ar)
    (try rw [tz] at Ax)
    (try rw [show 0 * 10 = 0 from rfl] at Ax)
    (try rw [Addr.add_zero'] at Ax)
    (try rw [tz] at Ay)
    (try rw [show 0 * 10 = 0 from rfl] at Ay)
    (try rw [Addr.add_zero'] at Ay)
    (try rw [tz] at Az)
    (try rw [show 0 * 10 = 0 from rfl] at Az)
    (try rw [Addr.add_zero'] at Az)
    (try rw [tz] at A0)
    (try rw [show 0 * 10 = 0 from rfl] at A0)
    (try rw [Addr.add_zero'] at A0)
    replace As := cU HB.out As
    replace At := cU HB.out At
    replace Au := cU HB.out Au
    replace Av := cU HB.out Av
    replace Aw := cU HB.out Aw
    replace Ar := cU HB.out Ar
    replace Ax := cU HB.out Ax
    replace Ay := cU HB.out Ay
    replace Az := cU HB.out Az
    replace A0 := cU HB.out A0
    have HR125_5 := Am G5
    have HC125_5 := Am G4
    clear G5 G4
    replace p125 := eq_true p125
    replace q125 := eq_true q125
    have ea_ := Option.some.inj (Ae.symm.trans Ar)
    injection ea_ with ea_ en_ ec_
    subst ea_
    subst ec_
    clear en_
    go_wp2
    repeat (go_quiet (fail); try go_wp2)
    go_meet
    case rel => exact ⟨_, (decide (((rd_T46 l0_2 0).f1) < a0_1)), (by first | rfl | (simp; done) | (simp [*]; done)), H', ⟨by have := HJ1.out; first | omega | exact Nat.le_refl _⟩, ⟨pK Aa.out⟩, ⟨pE HB.out Ab.out⟩⟩
   case rest =>
    clear HC52
    try clear c1
    try clear p1
    try clear q1
    try clear hx1
    try clear qi1
    try clear c2
    try clear p2
    try clear c3
    try clear c4
    try clear c4b0
    try clear c4b1
    try clear c5
    try clear c5b0
    try clear c5b1
    try clear c6
    try clear c6b0
    try clear c6b1
    try clear p6
    try clear c9
    try clear c12
    try clear p12
    try clear q12
    try clear hx12
    try clear qi12
    try clear c18
    try clear c20
    try clear c21
    try clear c21b0
    try clear c21b1
    try clear c24
    try clear c25
    try clear c35
    try clear c37
    try clear c38
    try clear c38b0
    try clear c38b1
    try clear c41
    try clear c51
    try clear c53
    try clear c53b0
    try clear c53b1
    try clear c54
    try clear c54b0
    try clear c54b1
    try clear c55
    try clear c55b0
    try clear c55b1
    try clear Ce Cf Cg Ch Ci Cj Ck
    try clear A3 A4 A5 A6 A7 A9 Ba
    try clear Cs Ct Cu Cv Cw Cx Cy
    try clear C6 C7 C8 C9 Da Db Dc
    try clear Dk Dl Dm Dn Do Dp Dq
    try clear Bi Bj Bk Bl Bm Bn Bo
    try clear Dy Dz D0 D1 D2 D3 D4
    try clear Ec Ed Ee Ef Eg Eh Ei
    try clear Er Es Et Eu Ew Ex Ey
    try clear E6 E7 E8 E9 Fa Fb Fc
    try clear Fk Fl Fm Fn Fo Fp Fq
    try clear Bw Bx By Bz B0 B1 B2
    try clear Fy Fz F0 F1 F2 F3 F4
    try clear Gc Gd Ge Gf Gg Gh Gi
    try clear Gq Gr Gs Gt Gu Gv Gw
    try clear Hk Hl Hm Hn Ho Hp Hq
    try clear H0 H2 H3 H4 H5 H6 H7
    try clear Ig Ih Ii Ij Ik Il Im
    try clear G6 G7 G8 G9 Ha Hb Hc
    try clear Cl Cm Cn Co Cp Cq Cr
    try clear Bb Bc Bd Be Bf Bg Bh
    try clear Cz C0 C1 C2 C3 C4 C5
    try clear Dd De Df Dg Dh Di Dj
    try clear Dr Ds Dt Du Dv Dw Dx
    try clear Bp Bq Br Bs Bt Bu Bv
    try clear D5 D6 D7 D8 D9 Ea Eb
    try clear Ej Ek El Em En Eo Ep
    try clear Ez E0 E1 E2 E3 E4 E5
    try clear Fd Fe Ff Fg Fh Fi Fj
    try clear Fr Fs Ft Fu Fv Fw Fx
    try clear B3 B4 B5 B6 B7 B8 B9
    try clear F5 F6 F7 F8 F9 Ga Gb
    try clear Gj Gk Gl Gm Gn Go Gp
    try clear Gx Gy Gz G0 G1 G2 G3
    try clear Hr Hs Ht Hu Hv Hw Hx
    try clear H8 H9 Ia Ib Ic Ie If
    try clear In Io Ip Iq Ir Is It
    try clear Hd He Hf Hg Hh Hi Hj
    try clear Ag
    try clear Ah
    try clear Ai
    try clear Aj
    try clear Ak
    try clear Ae
    try clear Al
    try clear An
    try clear Ao
    try clear Ap
    try clear As
    try clear At
    try clear Au
    try clear Av
    try clear Aw
    try clear Ar
    try clear Ax
    try clear Ay
    try clear Az
    try clear A0
    try clear p124
    try clear p125
    try clear p2
    try clear q124
    try clear q125
    obtain ⟨kq, Cb, rfl, HA, HJ51, Aa, HB⟩ := hcut
    cases kq with
    | zero => exact absurd HA.out (by simp [raft_Check.j1])
    | succ kj51 =>
     have H := HA.out
     clear HA
     simp only [raft_Check.j1] at H
     by_cases c59 : Cb = true
     ·subst c59
      have H1 : (some 1) = some r := by rw [if_pos rfl] at H; exact H
      clear H
      have H := H1
      clear H1
      obtain rfl := Option.some.inj H
      go_wp2
      repeat (go_quiet (fail); try go_wp2)
      go_ret
      exact ⟨pX, pE HB.out Ab.out⟩
     replace c59 := Bool.eq_false_iff.mpr c59
     subst c59
     have H1 : (if a0_6 < a0_0 then (some 1) else (if a0_6 > a0_5 then (some 1) else (if a0_5 > (wrap64 (a0_0 + (l0_2.length : Int))) then (some 1) else (some 0)))) = some r := by rw [if_neg (show ¬ (false = true) by decide)] at H; exact H
     clear H
     have H := H1
     clear H1
     by_cases c60 : a0_6 < a0_0
     ·rw [if_pos c60] at H
      have c60b0 : decide (a0_6 < a0_0) = true := decide_eq_true c60
      clear c60
      obtain rfl := Option.some.inj H
      obtain ⟨hcz61_0, hcz61_1, hcz61_2, hcz61_3, hcz61_4, hcz61_5, hcz61_6⟩ := bc7 Aa.out
      obtain ⟨hfz61_0, hfz61_1, hfz61_2, hfz61_3, hfz61_4, hfz61_5, hfz61_6⟩ := bf7 Aa.out
      go_wp2
      repeat (go_quiet (fail); try go_wp2)
      go_ret
      exact ⟨pX, pE HB.out Ab.out⟩
     rw [if_neg c60] at H
     have c60b0 : decide (a0_6 < a0_0) = false := decide_eq_false c60
     clear c60
     by_cases c62 : a0_6 > a0_5
     ·rw [if_pos c62] at H
      have c62b0 : decide (a0_5 < a0_6) = true := decide_eq_true c62
      clear c62
      obtain rfl := Option.some.inj H
      obtain ⟨hcz63_0, hcz63_1, hcz63_2, hcz63_3, hcz63_4, hcz63_5, hcz63_6⟩ := bc7 Aa.out
      obtain ⟨hfz63_0, hfz63_1, hfz63_2, hfz63_3, hfz63_4, hfz63_5, hfz63_6⟩ := bf7 Aa.out
      go_wp2
      repeat (go_quiet (fail); try go_wp2)
      go_ret
      exact ⟨pX, pE HB.out Ab.out⟩
     rw [if_neg c62] at H
     have c62b0 : decide (a0_5 < a0_6) = false := decide_eq_false c62
     clear c62
     by_cases c64 : a0_5 > (wrap64 (a0_0 + (l0_2.length : Int)))
     ·rw [if_pos c64] at H
      have c64b0 : decide ((wrap64 (a0_0 + (l0_2.length : Int))) < a0_5) = true := decide_eq_true c64
      clear c64
      obtain rfl := Option.some.inj H
      obtain ⟨hcz65_0, hcz65_1, hcz65_2, hcz65_3, hcz65_4, hcz65_5, hcz65_6⟩ := bc7 Aa.out
      obtain ⟨hfz65_0, hfz65_1, hfz65_2, hfz65_3, hfz65_4, hfz65_5, hfz65_6⟩ := bf7 Aa.out
      go_wp2
      repeat (go_quiet (fail); try go_wp2)
      go_ret
      exact ⟨pX, pE HB.out Ab.out⟩
     rw [if_neg c64] at H
     have c64b0 : decide ((wrap64 (a0_0 + (l0_2.length : Int))) < a0_5) = false := decide_eq_false c64
     clear c64
     obtain rfl := Option.some.inj H
     obtain ⟨hcz66_0, hcz66_1, hcz66_2, hcz66_3, hcz66_4, hcz66_5, hcz66_6⟩ := bc7 Aa.out
     obtain ⟨hfz66_0, hfz66_1, hfz66_2, hfz66_3, hfz66_4, hfz66_5, hfz66_6⟩ := bf7 Aa.out
     go_wp2
     repeat (go_quiet (fail); try go_wp2)
     go_ret
     exact ⟨pX, pE HB.out Ab.out⟩
end Go.Proofs.Ytinldhpdfomcjaa.PRaftMay
