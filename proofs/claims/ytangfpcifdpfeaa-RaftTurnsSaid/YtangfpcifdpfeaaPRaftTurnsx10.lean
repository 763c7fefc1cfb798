/- What the law reaches, as plain Lean functions, and that the machine's calls answer just that. -/
import Derived.Test.YtangfpcifdpfeaaPRaftTurnsx0
import Derived.Test.YtangfpcifdpfeaaPRaftTurnsx3
import Derived.Test.YtangfpcifdpfeaaPRaftTurnsx5
import Derived.Test.YtangfpcifdpfeaaPRaftTurnsx6
namespace Go.Proofs.Ytangfpcifdpfeaa.PRaftTurns
open Go.RowKit Go.Proofs.YtangfpcifdpfeaaW.PrintWords Go.Proofs.YtangfpcifdpfeaaW.PrintLast Go.Proofs.YtangfpcifdpfeaaW.PrintMore
attribute [local go_sem] max2_int min2_int max_two min_two max_three min_three max_four min_four
set_option linter.unusedVariables false
set_option linter.unusedSimpArgs false
attribute [local go_sem] wrap64_l1 wrap64_l2 wrap64_l3 wrap64_l4 wrap64_l5
def raft_Compact.f (k : Nat) (a0_0 : Int) (a0_1 : Int) (l0_2 : List (S55)) (a0_3 : Int) (a0_4 : Int) (a0_5 : Int) (a0_6 : Int) (a1 : Int) : Option (Int × Int × (List (S55)) × Int × Int × Int × Int × Int) := (raft_Check.f k a0_0 a0_1 l0_2 a0_3 a0_4 a0_5 a0_6).bind fun t257 => (if t257 = 0 then (if a1 ≤ a0_0 then (some (0, 0, ([] : List (S55)), 0, 0, 0, 0, 4)) else (if a1 > a0_6 then (some (0, 0, ([] : List (S55)), 0, 0, 0, 0, 3)) else (if 0 ≤ (wrap64 ((wrap64 (a1 - a0_0)) - 1)) then (if (wrap64 ((wrap64 (a1 - a0_0)) - 1)) < (l0_2.length : Int) then (if 0 ≤ (wrap64 (a1 - a0_0)) then (if (wrap64 (a1 - a0_0)) ≤ (l0_2.length : Int) then ((raft_owns.f k (l0_2.drop ((wrap64 (a1 - a0_0)) : Int).toNat)).bind fun t263 => (some (a1, (rd_T55 l0_2 (wrap64 ((wrap64 (a1 - a0_0)) - 1))).f1, t263, a0_3, a0_4, a0_5, a0_6, 0))) else (none)) else (none)) else (none)) else (none)))) else (some (0, 0, ([] : List (S55)), 0, 0, 0, 0, 1)))
theorem raft_Compact.mono : ∀ a0 a1 a2 a3 a4 a5 a6 a7 k, LeO (raft_Compact.f k a0 a1 a2 a3 a4 a5 a6 a7) (raft_Compact.f (k + 1) a0 a1 a2 a3 a4 a5 a6 a7) := by
 intro a0 a1 a2 a3 a4 a5 a6 a7 k
 unfold raft_Compact.f
 repeat' first
   | (with_reducible exact raft_Check.mono _ _ _ _ _ _ _ _)
   | (with_reducible exact raft_owns.mono _ _)
   | (with_reducible exact LeO.refl _)
   | (with_reducible exact LeO.none _)
   | (with_reducible refine LeO.ite ?_ ?_)
   | (with_reducible refine LeO.bind ?_ (fun _ => ?_))
   | exact raft_Check.mono _ _ _ _ _ _ _ _
   | exact raft_owns.mono _ _
   | exact LeO.none _
   | refine LeO.ite ?_ ?_
   | refine LeO.bind ?_ (fun _ => ?_)
def raft_Compact.T8 : Bool × List (List Nat × List Nat) := (true, [([], []), ([], []), ([1], [1]), ([], []), ([3], [3]), ([2, 4], [2, 4]), ([5], [5]), ([6], [6]), ([], []), ([8], [8]), ([], []), ([9, 10], [9, 10]), ([11], [11]), ([0, 1, 2, 8, 9], []), ([13, 0, 12, 0, 1, 2, 8, 9], [0, 13]), ([0, 1, 2, 3, 4, 5, 6, 7, 8, 9, 13, 14], []), ([15, 7, 14, 0, 1, 2, 3, 4, 5, 6, 7, 8, 9, 13, 14], [7, 15]), ([0, 1, 2, 3, 4, 5, 6, 7, 8, 9, 10, 11, 12, 13, 14, 15, 16], []), ([17, 12, 16, 0, 1, 2, 3, 4, 5, 6, 7, 8, 9, 10, 11, 12, 13, 14, 15, 16], [12, 17])])
def raft_Compact.B8 : List Nat := [0, 0, 2, 0, 8, 30, 62, 126, 0, 256, 0, 1792, 3840, 775, 16135, 32767, 65535, 131071, 262143]
theorem raft_Compact.tab8 : rtab .any (opsOf Try.f8 8) = raft_Compact.T8 := by kernel_rfl
theorem raft_Compact.bits8 : waitsOk raft_Compact.T8.2 raft_Compact.B8 = true := by kernel_rfl
set_option maxHeartbeats 8000000 in
set_option maxRecDepth 100000 in
theorem raft_Compact.calls (k : Nat) (a0_0 : Int) (a0_1 : Int) (A0_2 : Option Addr) (c0_2 : Nat) (l0_2 : List (S55)) (a0_3 : Int) (a0_4 : Int) (a0_5 : Int) (a0_6 : Int) (a1 : Int) (r1 : Int) (r2 : Int) (r3 : List (S55)) (r4 : Int) (r5 : Int) (r6 : Int) (r7 : Int) (r8 : Int) (w : World) (hr0_2 : Kd.C k55 w A0_2 l0_2.length l0_2) (hc0_2 : l0_2.length ≤ c0_2) (h : raft_Compact.f k a0_0 a0_1 l0_2 a0_3 a0_4 a0_5 a0_6 a1 = some (r1, r2, r3, r4, r5, r6, r7, r8)) :
  Calls Try.prog 8 #[.agg #[.int .i64 a0_0, .int .i64 a0_1, .slice A0_2 l0_2.length c0_2, .int .i64 a0_3, .int .i64 a0_4, .int .i64 a0_5, .int .i64 a0_6], .int .i64 a1] w fun e w' => ∃ v2_ : Value, e = .returned (.tuple #[.agg #[.int .i64 r1, .int .i64 r2, v2_, .int .i64 r4, .int .i64 r5, .int .i64 r6, .int .i64 r7], .int .i64 r8]) ∧ Kd.S k55 55 w' w.heap.size (fun _ => True) v2_ r3 ∧ Below w.heap.size w w' := by
 have hu26 := Try.underlying26
 have Ay := Am hr0_2
 have A0 := Am hc0_2
 clear hr0_2 hc0_2
 have HB := Am (Below.refl w.heap.size w)
 have H : ((raft_Check.f k a0_0 a0_1 l0_2 a0_3 a0_4 a0_5 a0_6).bind fun t257 => (if t257 = 0 then (if a1 ≤ a0_0 then (some (0, 0, ([] : List (S55)), 0, 0, 0, 0, 4)) else (if a1 > a0_6 then (some (0, 0, ([] : List (S55)), 0, 0, 0, 0, 3)) else (if 0 ≤ (wrap64 ((wrap64 (a1 - a0_0)) - 1)) then (if (wrap64 ((wrap64 (a1 - a0_0)) - 1)) < (l0_2.length : Int) then (if 0 ≤ (wrap64 (a1 - a0_0)) then (if (wrap64 (a1 - a0_0)) ≤ (l0_2.length : Int) then ((raft_owns.f k (l0_2.drop ((wrap64 (a1 - a0_0)) : Int).toNat)).bind fun t263 => (some (a1, (rd_T55 l0_2 (wrap64 ((wrap64 (a1 - a0_0)) - 1))).f1, t263, a0_3, a0_4, a0_5, a0_6, 0))) else (none)) else (none)) else (none)) else (none)))) else (some (0, 0, ([] : List (S55)), 0, 0, 0, 0, 1)))) = some (r1, r2, r3, r4, r5, r6, r7, r8) := h
 clear h
 replace H := Option.bind_eq_some_iff.mp H
 obtain ⟨t257, A30, H⟩ := H
 replace H : (if t257 = 0 then (if a1 ≤ a0_0 then (some (0, 0, ([] : List (S55)), 0, 0, 0, 0, 4)) else (if a1 > a0_6 then (some (0, 0, ([] : List (S55)), 0, 0, 0, 0, 3)) else (if 0 ≤ (wrap64 ((wrap64 (a1 - a0_0)) - 1)) then (if (wrap64 ((wrap64 (a1 - a0_0)) - 1)) < (l0_2.length : Int) then (if 0 ≤ (wrap64 (a1 - a0_0)) then (if (wrap64 (a1 - a0_0)) ≤ (l0_2.length : Int) then ((raft_owns.f k (l0_2.drop ((wrap64 (a1 - a0_0)) : Int).toNat)).bind fun t263 => (some (a1, (rd_T55 l0_2 (wrap64 ((wrap64 (a1 - a0_0)) - 1))).f1, t263, a0_3, a0_4, a0_5, a0_6, 0))) else (none)) else (none)) else (none)) else (none)))) else (some (0, 0, ([] : List (S55)), 0, 0, 0, 0, 1))) = some (r1, r2, r3, r4, r5, r6, r7, r8) := H
 have A3 := Am A30
 clear A30
 by_cases c4 : t257 = 0
 rotate_left
 ·rw [if_neg c4] at H
  have c4b0 : (t257 == 0) = false := beq_eq_false_iff_ne.mpr c4
  have c4b1 : (t257 != 0) = true := bne_iff_ne.mpr c4
  simp only [Option.some.injEq, Prod.mk.injEq] at H
  obtain ⟨rfl, rfl, rfl, rfl, rfl, rfl, rfl, rfl⟩ := H
  go_enter Try.func8, Try.ntmps8
  go_wp2_with (first | ((with_reducible refine gate_dst (N := 2) rfl ?_); refine box_event ?hg (N := 2) ?hd (cs := #[.int .i64 a0_0, .int .i64 a0_1, .slice A0_2 l0_2.length c0_2, .int .i64 a0_3, .int .i64 a0_4, .int .i64 a0_5, .int .i64 a0_6]) (t := 26) ?hr ?_; (case hd => rfl); (case hg => rfl); (case hr => first | (go_simp; done) | (go_simp; rfl)); intro Ag hg w43 hbox hb; have Aa := Am (hbox); have Ac := Am ((by rw [hg]; exact (below_size (pB HB.out)) : w.heap.size ≤ Ag)); replace HB := Am (below_step (pB HB.out) hb); have Ah := Ac; clear hb hbox hg) | ((with_reducible refine gate_dst (N := 4) rfl ?_); refine box_event ?hg (N := 4) ?hd (cs := #[.int .i64 0, .int .i64 0, .slice none 0 0, .int .i64 0, .int .i64 0, .int .i64 0, .int .i64 0]) (t := 26) ?hr ?_; (case hd => rfl); (case hg => rfl); (case hr => first | (go_simp; done) | (go_simp; rfl)); intro Ai hg w44 hbox hb; have Ab := Am (hbox); have Ax := Am ((by rw [hg]; exact (below_size (pE HB.out Ah.out)) : w.heap.size ≤ Ai)); replace HB := Am (below_step (pE HB.out Ah.out) hb); have Aj := Ax; have Af := Am ((by rw [hg]; exact Nat.ne_of_lt (kL Aa.out) : Ag ≠ Ai)); have Ad := Am ((by rw [hg]; exact Nat.ne_of_gt (kL Aa.out) : Ai ≠ Ag)); replace Aa := kBa Aa hb; clear hb hbox hg; have hnb45 := Af.out; have hnc45 := Ad.out; obtain ⟨_, _, _, _, _, _, _⟩ := bc7 Aa.out; obtain ⟨_, _, _, _, _, _, _⟩ := bf7 Aa.out) | ((with_reducible refine gate_callee (f := 21) rfl ?_); refine goesL_ (some 9) rfl rfl Try.func21 (by kernel_rfl) rfl #[.agg #[.int .i64 a0_0, .int .i64 a0_1, .slice A0_2 l0_2.length c0_2, .int .i64 a0_3, .int .i64 a0_4, .int .i64 a0_5, .int .i64 a0_6]] rfl pL ?_; (with_reducible refine (raft_Check.calls k a0_0 a0_1 _ _ l0_2 a0_3 a0_4 a0_5 a0_6 t257 _ ?Ak ?Al A3.out).mono ?_); (case Ak => exact pC (Kd.C_below Ay.out HB.out)); (case Al => exact A0.out); rintro e w47 ⟨rfl, hb⟩; refine ⟨_, rfl, ?_⟩; replace Aa := kBa Aa hb; replace Ab := kBa Ab hb; replace HB := Am (below_step (pE2 HB.out Ah.out Aj.out) hb); (try clear hb); (try clear hb2); (try clear hk); (try clear hi); obtain ⟨_, _, _, _, _, _, _⟩ := bc7 Ab.out; obtain ⟨_, _, _, _, _, _, _⟩ := bf7 Ab.out))
  refine bodyPost_ret (results_ct rfl _ _ Ai 26 #[.int .i64 0, .int .i64 0, .slice none 0 0, .int .i64 0, .int .i64 0, .int .i64 0, .int .i64 0] (0, 0) _ rfl (kX0 Ab.out) Try.underlying26 rfl (by kernel_rfl)) rfl ?_
  exact ⟨_, pX, by first | exact Kd.S_nil _ _ _ _ _ | exact Kd.N_nil _ _ _ _ _ | exact Kd.V_nil _ _ _ _ _ | exact Kd.Q_nil _ _ _ _ _ | exact Kd.R_nil _ _ _ _ _, pE2 HB.out Ah.out Aj.out⟩
 rw [if_pos c4] at H
 have c4b0 : (t257 == 0) = true := beq_iff_eq.mpr c4
 have c4b1 : (t257 != 0) = false := bne_eq_false_iff_eq.mpr c4
 clear c4
 by_cases c5 : a1 ≤ a0_0
 ·rw [if_pos c5] at H
  have c5b0 : decide (a1 ≤ a0_0) = true := decide_eq_true c5
  clear c5
  simp only [Option.some.injEq, Prod.mk.injEq] at H
  obtain ⟨rfl, rfl, rfl, rfl, rfl, rfl, rfl, rfl⟩ := H
  go_enter Try.func8, Try.ntmps8
  go_wp2_with (first | ((with_reducible refine gate_dst (N := 2) rfl ?_); refine box_event ?hg (N := 2) ?hd (cs := #[.int .i64 a0_0, .int .i64 a0_1, .slice A0_2 l0_2.length c0_2, .int .i64 a0_3, .int .i64 a0_4, .int .i64 a0_5, .int .i64 a0_6]) (t := 26) ?hr ?_; (case hd => rfl); (case hg => rfl); (case hr => first | (go_simp; done) | (go_simp; rfl)); intro Ag hg w6 hbox hb; have Aa := Am (hbox); have Ac := Am ((by rw [hg]; exact (below_size (pB HB.out)) : w.heap.size ≤ Ag)); replace HB := Am (below_step (pB HB.out) hb); have Ah := Ac; clear hb hbox hg) | ((with_reducible refine gate_dst (N := 4) rfl ?_); refine box_event ?hg (N := 4) ?hd (cs := #[.int .i64 0, .int .i64 0, .slice none 0 0, .int .i64 0, .int .i64 0, .int .i64 0, .int .i64 0]) (t := 26) ?hr ?_; (case hd => rfl); (case hg => rfl); (case hr => first | (go_simp; done) | (go_simp; rfl)); intro Ai hg w7 hbox hb; have Ab := Am (hbox); have Ax := Am ((by rw [hg]; exact (below_size (pE HB.out Ah.out)) : w.heap.size ≤ Ai)); replace HB := Am (below_step (pE HB.out Ah.out) hb); have Aj := Ax; have Af := Am ((by rw [hg]; exact Nat.ne_of_lt (kL Aa.out) : Ag ≠ Ai)); have Ad := Am ((by rw [hg]; exact Nat.ne_of_gt (kL Aa.out) : Ai ≠ Ag)); replace Aa := kBa Aa hb; clear hb hbox hg; have hnb8 := Af.out; have hnc8 := Ad.out; obtain ⟨_, _, _, _, _, _, _⟩ := bc7 Aa.out; obtain ⟨_, _, _, _, _, _, _⟩ := bf7 Aa.out) | ((with_reducible refine gate_callee (f := 21) rfl ?_); refine goesL_ (some 9) rfl rfl Try.func21 (by kernel_rfl) rfl #[.agg #[.int .i64 a0_0, .int .i64 a0_1, .slice A0_2 l0_2.length c0_2, .int .i64 a0_3, .int .i64 a0_4, .int .i64 a0_5, .int .i64 a0_6]] rfl pL ?_; (with_reducible refine (raft_Check.calls k a0_0 a0_1 _ _ l0_2 a0_3 a0_4 a0_5 a0_6 t257 _ ?Ak ?Al A3.out).mono ?_); (case Ak => exact pC (Kd.C_below Ay.out HB.out)); (case Al => exact A0.out); rintro e w10 ⟨rfl, hb⟩; refine ⟨_, rfl, ?_⟩; replace Aa := kBa Aa hb; replace Ab := kBa Ab hb; replace HB := Am (below_step (pE2 HB.out Ah.out Aj.out) hb); (try clear hb); (try clear hb2); (try clear hk); (try clear hi); obtain ⟨_, _, _, _, _, _, _⟩ := bc7 Aa.out; obtain ⟨_, _, _, _, _, _, _⟩ := bf7 Aa.out; obtain ⟨_, _, _, _, _, _, _⟩ := bc7 Ab.out; obtain ⟨_, _, _, _, _, _, _⟩ := bf7 Ab.out))
  refine bodyPost_ret (results_ct rfl _ _ Ai 26 #[.int .i64 0, .int .i64 0, .slice none 0 0, .int .i64 0, .int .i64 0, .int .i64 0, .int .i64 0] (0, 0) _ rfl (kX0 Ab.out) Try.underlying26 rfl (by kernel_rfl)) rfl ?_
  exact ⟨_, pX, by first | exact Kd.S_nil _ _ _ _ _ | exact Kd.N_nil _ _ _ _ _ | exact Kd.V_nil _ _ _ _ _ | exact Kd.Q_nil _ _ _ _ _ | exact Kd.R_nil _ _ _ _ _, pE2 HB.out Ah.out Aj.out⟩
 rw [if_neg c5] at H
 have c5b0 : decide (a1 ≤ a0_0) = false := decide_eq_false c5
 clear c5
 by_cases c13 : a1 > a0_6
 ·rw [if_pos c13] at H
  have c13b0 : decide (a0_6 < a1) = true := decide_eq_true c13
  clear c13
  simp only [Option.some.injEq, Prod.mk.injEq] at H
  obtain ⟨rfl, rfl, rfl, rfl, rfl, rfl, rfl, rfl⟩ := H
  go_enter Try.func8, Try.ntmps8
  go_wp2_with (first | ((with_reducible refine gate_dst (N := 2) rfl ?_); refine box_event ?hg (N := 2) ?hd (cs := #[.int .i64 a0_0, .int .i64 a0_1, .slice A0_2 l0_2.length c0_2, .int .i64 a0_3, .int .i64 a0_4, .int .i64 a0_5, .int .i64 a0_6]) (t := 26) ?hr ?_; (case hd => rfl); (case hg => rfl); (case hr => first | (go_simp; done) | (go_simp; rfl)); intro Ag hg w14 hbox hb; have Aa := Am (hbox); have Ac := Am ((by rw [hg]; exact (below_size (pB HB.out)) : w.heap.size ≤ Ag)); replace HB := Am (below_step (pB HB.out) hb); have Ah := Ac; clear hb hbox hg) | ((with_reducible refine gate_dst (N := 4) rfl ?_); refine box_event ?hg (N := 4) ?hd (cs := #[.int .i64 0, .int .i64 0, .slice none 0 0, .int .i64 0, .int .i64 0, .int .i64 0, .int .i64 0]) (t := 26) ?hr ?_; (case hd => rfl); (case hg => rfl); (case hr => first | (go_simp; done) | (go_simp; rfl)); intro Ai hg w15 hbox hb; have Ab := Am (hbox); have Ax := Am ((by rw [hg]; exact (below_size (pE HB.out Ah.out)) : w.heap.size ≤ Ai)); replace HB := Am (below_step (pE HB.out Ah.out) hb); have Aj := Ax; have Af := Am ((by rw [hg]; exact Nat.ne_of_lt (kL Aa.out) : Ag ≠ Ai)); have Ad := Am ((by rw [hg]; exact Nat.ne_of_gt (kL Aa.out) : Ai ≠ Ag)); replace Aa := kBa Aa hb; clear hb hbox hg; have hnb16 := Af.out; have hnc16 := Ad.out; obtain ⟨_, _, _, _, _, _, _⟩ := bc7 Aa.out; obtain ⟨_, _, _, _, _, _, _⟩ := bf7 Aa.out) | ((with_reducible refine gate_callee (f := 21) rfl ?_); refine goesL_ (some 9) rfl rfl Try.func21 (by kernel_rfl) rfl #[.agg #[.int .i64 a0_0, .int .i64 a0_1, .slice A0_2 l0_2.length c0_2, .int .i64 a0_3, .int .i64 a0_4, .int .i64 a0_5, .int .i64 a0_6]] rfl pL ?_; (with_reducible refine (raft_Check.calls k a0_0 a0_1 _ _ l0_2 a0_3 a0_4 a0_5 a0_6 t257 _ ?Ak ?Al A3.out).mono ?_); (case Ak => exact pC (Kd.C_below Ay.out HB.out)); (case Al => exact A0.out); rintro e w18 ⟨rfl, hb⟩; refine ⟨_, rfl, ?_⟩; replace Aa := kBa Aa hb; replace Ab := kBa Ab hb; replace HB := Am (below_step (pE2 HB.out Ah.out Aj.out) hb); (try clear hb); (try clear hb2); (try clear hk); (try clear hi); obtain ⟨_, _, _, _, _, _, _⟩ := bc7 Aa.out; obtain ⟨_, _, _, _, _, _, _⟩ := bf7 Aa.out; obtain ⟨_, _, _, _, _, _, _⟩ := bc7 Ab.out; obtain ⟨_, _, _, _, _, _, _⟩ := bf7 Ab.out))
  refine bodyPost_ret (results_ct rfl _ _ Ai 26 #[.int .i64 0, .int .i64 0, .slice none 0 0, .int .i64 0, .int .i64 0, .int .i64 0, .int .i64 0] (0, 0) _ rfl (kX0 Ab.out) Try.underlying26 rfl (by kernel_rfl)) rfl ?_
  exact ⟨_, pX, by first | exact Kd.S_nil _ _ _ _ _ | exact Kd.N_nil _ _ _ _ _ | exact Kd.V_nil _ _ _ _ _ | exact Kd.Q_nil _ _ _ _ _ | exact Kd.R_nil _ _ _ _ _, pE2 HB.out Ah.out Aj.out⟩
 rw [if_neg c13] at H
 have c13b0 : decide (a0_6 < a1) = false := decide_eq_false c13
 clear c13
 obtain ⟨ji21, hji21⟩ : ∃ j_ : Int, (wrap64 ((wrap64 (a1 - a0_0)) - 1)) = j_ := ⟨_, rfl⟩
 replace H : (if 0 ≤ (ji21) then (if (ji21) < (l0_2.length : Int) then (if 0 ≤ (wrap64 (a1 - a0_0)) then (if (wrap64 (a1 - a0_0)) ≤ (l0_2.length : Int) then ((raft_owns.f k (l0_2.drop ((wrap64 (a1 - a0_0)) : Int).toNat)).bind fun t263 => (some (a1, (rd_T55 l0_2 (ji21)).f1, t263, a0_3, a0_4, a0_5, a0_6, 0))) else (none)) else (none)) else (none)) else (none)) = some (r1, r2, r3, r4, r5, r6, r7, r8) := by first | (rw [hji21] at H; exact H) | (simp only [hji21] at H ⊢; exact H)
 (try rw [hji21] at A3)
 have hji21w : (IntKind.i64.wrap ((wrap64 (a1 - a0_0)) - 1)) = ji21 := (i64_w _).trans hji21
 by_cases c22 : 0 ≤ (ji21)
 rotate_left
 ·rw [if_neg c22] at H
  exact absurd H (by simp)
 rw [if_pos c22] at H
 have c22b0 : decide (0 ≤ (ji21)) = true := decide_eq_true c22
 clear c22
 by_cases c23 : (ji21) < (l0_2.length : Int)
 rotate_left
 ·rw [if_neg c23] at H
  exact absurd H (by simp)
 rw [if_pos c23] at H
 have c23b0 : decide ((ji21) < (l0_2.length : Int)) = true := decide_eq_true c23
 clear c23
 obtain ⟨ji24, hji24⟩ : ∃ j_ : Int, (wrap64 (a1 - a0_0)) = j_ := ⟨_, rfl⟩
 replace H : (if 0 ≤ (ji24) then (if (ji24) ≤ (l0_2.length : Int) then ((raft_owns.f k (l0_2.drop ((ji24) : Int).toNat)).bind fun t263 => (some (a1, (rd_T55 l0_2 (ji21)).f1, t263, a0_3, a0_4, a0_5, a0_6, 0))) else (none)) else (none)) = some (r1, r2, r3, r4, r5, r6, r7, r8) := by first | (rw [hji24] at H; exact H) | (simp only [hji24] at H ⊢; exact H)
 (try rw [hji24] at A3)
 have hji24w : (IntKind.i64.wrap (a1 - a0_0)) = ji24 := (i64_w _).trans hji24
 (try rw [hji24] at hji21); (try rw [hji24] at hji21w)
 by_cases c25 : 0 ≤ (ji24)
 rotate_left
 ·rw [if_neg c25] at H
  exact absurd H (by simp)
 rw [if_pos c25] at H
 have c25b0 := eq_true c25
 have c25b1 : decide (0 ≤ (ji24)) = true := decide_eq_true c25
 clear c25
 by_cases c26 : (ji24) ≤ (l0_2.length : Int)
 rotate_left
 ·rw [if_neg c26] at H
  exact absurd H (by simp)
 rw [if_pos c26] at H
 have c26b0 := eq_true c26
 have c26b1 : decide ((ji24) ≤ (l0_2.length : Int)) = true := decide_eq_true c26
 clear c26
 obtain ⟨y259, hy259⟩ : ∃ y_ : List (S55), y_ = (l0_2.drop ((ji24) : Int).toNat) := ⟨_, rfl⟩
 replace H : ((raft_owns.f k y259).bind fun t263 => (some (a1, (rd_T55 l0_2 (ji21)).f1, t263, a0_3, a0_4, a0_5, a0_6, 0))) = some (r1, r2, r3, r4, r5, r6, r7, r8) := by first | (rw [hy259]; with_reducible exact H) | (have H2_ := (Option.bind_some _ _).symm.trans H; rw [hy259]; with_reducible exact H2_) | (have H2_ := (Option.bind_some _ _).symm.trans H; with_reducible exact H2_) | with_reducible exact H | (rw [hy259]; exact H) | exact H
 have Ny259 := Am hy259
 clear hy259
 replace H := Option.bind_eq_some_iff.mp H
 obtain ⟨t263, A270, H⟩ := H
 replace H : (some (a1, (rd_T55 l0_2 (ji21)).f1, t263, a0_3, a0_4, a0_5, a0_6, 0)) = some (r1, r2, r3, r4, r5, r6, r7, r8) := H
 have A27 := Am A270
 clear A270
 simp only [Option.some.injEq, Prod.mk.injEq] at H
 obtain ⟨rfl, rfl, rfl, rfl, rfl, rfl, rfl, rfl⟩ := H
 go_enter Try.func8, Try.ntmps8
 try go_wp2_with (first | ((with_reducible refine gate_dst (N := 2) rfl ?_); refine box_event ?hg (N := 2) ?hd (cs := #[.int .i64 a0_0, .int .i64 a0_1, .slice A0_2 l0_2.length c0_2, .int .i64 a0_3, .int .i64 a0_4, .int .i64 a0_5, .int .i64 a0_6]) (t := 26) ?hr ?_; (case hd => rfl); (case hg => rfl); (case hr => first | (go_simp; done) | (go_simp; rfl)); intro Ag hg w28 hbox hb; have Aa := Am (hbox); have Ac := Am ((by rw [hg]; exact (below_size (pB HB.out)) : w.heap.size ≤ Ag)); replace HB := Am (below_step (pB HB.out) hb); have Ah := Ac; clear hb hbox hg) | ((with_reducible refine gate_dst (N := 4) rfl ?_); refine box_event ?hg (N := 4) ?hd (cs := #[.int .i64 0, .int .i64 0, .slice none 0 0, .int .i64 0, .int .i64 0, .int .i64 0, .int .i64 0]) (t := 26) ?hr ?_; (case hd => rfl); (case hg => rfl); (case hr => first | (go_simp; done) | (go_simp; rfl)); intro Ai hg w29 hbox hb; have Ab := Am (hbox); have Ax := Am ((by rw [hg]; exact (below_size (pE HB.out Ah.out)) : w.heap.size ≤ Ai)); replace HB := Am (below_step (pE HB.out Ah.out) hb); have Aj := Ax; have Af := Am ((by rw [hg]; exact Nat.ne_of_lt (kL Aa.out) : Ag ≠ Ai)); have Ad := Am ((by rw [hg]; exact Nat.ne_of_gt (kL Aa.out) : Ai ≠ Ag)); replace Aa := kBa Aa hb; clear hb hbox hg; have hnb30 := Af.out; have hnc30 := Ad.out; obtain ⟨_, _, _, _, _, _, _⟩ := bc7 Aa.out; obtain ⟨_, _, _, _, _, _, _⟩ := bf7 Aa.out) | ((with_reducible refine gate_callee (f := 21) rfl ?_); refine goesL_ (some 9) rfl rfl Try.func21 (by kernel_rfl) rfl #[.agg #[.int .i64 a0_0, .int .i64 a0_1, .slice A0_2 l0_2.length c0_2, .int .i64 a0_3, .int .i64 a0_4, .int .i64 a0_5, .int .i64 a0_6]] rfl pL ?_; (with_reducible refine (raft_Check.calls k a0_0 a0_1 _ _ l0_2 a0_3 a0_4 a0_5 a0_6 t257 _ ?Ak ?Al A3.out).mono ?_); (case Ak => exact pC (Kd.C_below Ay.out HB.out)); (case Al => exact A0.out); rintro e w32 ⟨rfl, hb⟩; refine ⟨_, rfl, ?_⟩; replace Aa := kBa Aa hb; replace Ab := kBa Ab hb; replace HB := Am (below_step (pE2 HB.out Ah.out Aj.out) hb); (try clear hb); (try clear hb2); (try clear hk); (try clear hi); obtain ⟨_, _, _, _, _, _, _⟩ := bc7 Aa.out; obtain ⟨_, _, _, _, _, _, _⟩ := bf7 Aa.out))
 replace Aa := kDa Aa
 replace Ab := kDa Ab
 replace HB := bDa HB
 have p258 : 0 ≤ ((ji21) : Int) := of_decide_eq_true pS
 have q258 : (ji21) < (l0_2.length : Int) := of_decide_eq_true pS
 obtain ⟨Ae, Bi, c258_5, e258, A5, A6, A7, A8, A9, Ba, Bb, Bc, Bd, Be, A1, A2, An, Ao, Ap, Aq, Ar, As, At, Au, Av, Aw⟩ := at_T55w Ay.out (ji21) p258 q258 HB.out
 cases e258
 have Bf := Am A2
 have HC258_5 := Am A1
 clear A2 A1
 replace p258 := eq_true p258
 replace q258 := eq_true q258
 have q35 : ((ji24) : Int) ≤ ((l0_2.length : Int) : Int) := of_decide_eq_true pS
 obtain ⟨i035, hi035, _, Bg, _⟩ := info_parts info55
 have Az : l0_2.length ≤ c0_2 := A0.out
 have Bk : Kd.C k55 _ (some Ae) l0_2.length l0_2 := Ay.out
 have q035 : (0 : Int) ≤ ((ji24) : Int) := of_decide_eq_true pS
 have Bj := cut_from (P := Try.prog) 22 55 .i64 Try.underlying22 hi035 10 Bg (some Ae) l0_2.length c0_2 (ji24) q035 q35
 have A4 := Kd.C_drop (m := ((ji24) : Int).toNat) (c := c0_2) Bk (by omega) Az
 obtain ⟨A35, hA35⟩ : ∃ AX_, AX_ = (if c0_2 = ((ji24) : Int).toNat then (some Ae) else ((some Ae) : Option Addr).map (·.add (((ji24) : Int).toNat * 10))) := ⟨_, rfl⟩
 obtain ⟨c35, hc35⟩ : ∃ cX_, cX_ = c0_2 - ((ji24) : Int).toNat := ⟨_, rfl⟩
 have hy35 : y259.length = l0_2.length - ((ji24) : Int).toNat := (by rw [Ny259.out, List.length_drop] <;> omega)
 rw [show (l0_2).drop ((ji24) : Int).toNat = y259 from Ny259.out.symm] at A4
 replace A4 : Kd.C k55 _ A35 y259.length y259 := (by rw [hA35]; exact A4)
 rw [← hy35, ← hA35, ← hc35] at Bj
 have HR262 := Am A4
 have HC262 := Am (show y259.length ≤ c35 from by rw [hy35, hc35]; exact Nat.sub_le_sub_right Az _)
 clear A4 Bk Az hi035 Bg hc35
 have KY35 := Am hy35
 have KA35 := Am hA35
 clear hy35 hA35
 replace q35 := eq_true q35
 refine start_ (n := 19) (S := fun w' => cG w' Ag 2 (.slice (some Ae) l0_2.length c0_2) ∧ w'.cell? (Ae.add (((ji21)).toNat * 10)) = some (.int .i64 ((rd_T55 l0_2 (ji21)).f0)) ∧ w'.cell? ⟨(Ae.add (((ji21)).toNat * 10)).block, (Ae.add (((ji21)).toNat * 10)).off + 1, none⟩ = some (.int .i64 ((rd_T55 l0_2 (ji21)).f1)) ∧ w'.cell? ⟨(Ae.add (((ji21)).toNat * 10)).block, (Ae.add (((ji21)).toNat * 10)).off + 2, none⟩ = some (.int .i64 ((rd_T55 l0_2 (ji21)).f2)) ∧ w'.cell? ⟨(Ae.add (((ji21)).toNat * 10)).block, (Ae.add (((ji21)).toNat * 10)).off + 3, none⟩ = some (.string ((rd_T55 l0_2 (ji21)).f3)) ∧ w'.cell? ⟨(Ae.add (((ji21)).toNat * 10)).block, (Ae.add (((ji21)).toNat * 10)).off + 4, none⟩ = some (.bool ((rd_T55 l0_2 (ji21)).f4.f0)) ∧ w'.cell? ⟨(Ae.add (((ji21)).toNat * 10)).block, (Ae.add (((ji21)).toNat * 10)).off + 5, none⟩ = some (.slice Bi ((rd_T55 l0_2 (ji21)).f4.f1).length c258_5) ∧ w'.cell? ⟨(Ae.add (((ji21)).toNat * 10)).block, (Ae.add (((ji21)).toNat * 10)).off + 6, none⟩ = some (.int .i64 ((rd_T55 l0_2 (ji21)).f4.f2.f0)) ∧ w'.cell? ⟨(Ae.add (((ji21)).toNat * 10)).block, (Ae.add (((ji21)).toNat * 10)).off + 7, none⟩ = some (.int .i64 ((rd_T55 l0_2 (ji21)).f4.f2.f1)) ∧ w'.cell? ⟨(Ae.add (((ji21)).toNat * 10)).block, (Ae.add (((ji21)).toNat * 10)).off + 8, none⟩ = some (.int .i64 ((rd_T55 l0_2 (ji21)).f4.f2.f2)) ∧ w'.cell? ⟨(Ae.add (((ji21)).toNat * 10)).block, (Ae.add (((ji21)).toNat * 10)).off + 9, none⟩ = some (.int .u32 ((rd_T55 l0_2 (ji21)).f4.f2.f3))) (ds := [18]) #[false, false, false, false, false, false, false, false, false, false, false, false, false, false, false, false, false, false, false] (by kernel_rfl) rfl rfl ⟨(blk_cell Aa.out 2).trans rfl, (cT HB.out An), (cT HB.out Ao), (cT HB.out Ap), (cT HB.out Aq), (cT HB.out Ar), (cT HB.out As), (cT HB.out At), (cT HB.out Au), (cT HB.out Av), (cT HB.out Aw)⟩ (fun hHeld => ?_); refine with_tabW raft_Compact.tab8 raft_Compact.bits8 (fun HT_ HW_ => ?_)
 generalize w32.drew = w34 at Aa Ab HB Bf HR262 A5 A6 A7 A8 A9 Ba Bb Bc Bd Be hHeld ⊢
 refine pui 0 28 19 1 HT_ ?_
 refine pui 1 29 19 3 HT_ ?_
 refine pui 3 31 19 11 HT_ ?_
 refine pui 4 32 19 27 HT_ ?_
 refine pui 8 36 19 283 HT_ ?_
 refine pui 10 38 19 1307 HT_ ?_
 refine tki 2 30 19 1311 HT_ HW_ hHeld ?_
 refine pui 5 33 19 1343 HT_ ?_
 refine pui 6 34 19 1407 HT_ ?_
 refine tki 7 35 19 1535 HT_ HW_ hHeld ?_
 refine tki 9 37 19 2047 HT_ HW_ hHeld ?_
 refine pui 11 39 19 4095 HT_ ?_
 refine pui 13 41 19 12287 HT_ ?_
 refine onei 12 40 19 16383 HT_ (fun K hK => ?_)
 refine goes_ Try.func23 (by kernel_rfl) rfl #[.slice A35 y259.length c35] (by rfl) rfl rfl pL ?_
 with_reducible refine (raft_owns.calls k _ _ y259 t263 _ ?Ak ?Al A27.out).mono ?_
 (case Ak => exact pC (Kd.C_below HR262.out HB.out))
 (case Al => exact HC262.out)
 rintro e w36 ⟨v264, rfl, ho0, hb⟩
 refine ⟨_, rfl, ?_⟩
 have Bh := Am (Kd.S_lower ho0 (below_size (pE2 HB.out Ah.out Aj.out)))
 replace Aa := kBa Aa hb
 replace Ab := kBa Ab hb
 replace HB := Am (below_step (pE2 HB.out Ah.out Aj.out) hb)
 (try clear hb)
 (try clear hb2)
 (try clear hk)
 (try clear hi)
 (try clear ho0)
 obtain ⟨Bl, Bm, Bn⟩ := Kd.S_slice Bh.out
 (first | subst Bn | (injection Bn with f1_ f2_ f3_; have f4_ := f1_.symm; have f5_ := f3_.symm; clear f1_ f2_ f3_; subst f4_; subst f5_))
 refine hK.out _ _ ⟨(blk_cell Aa.out 2).trans rfl, (cT HB.out An), (cT HB.out Ao), (cT HB.out Ap), (cT HB.out Aq), (cT HB.out Ar), (cT HB.out As), (cT HB.out At), (cT HB.out Au), (cT HB.out Av), (cT HB.out Aw)⟩ (fun hHeld => ?_)
 clear hK K
 refine norm_ (a' := ?_) ?_ ?_
 rotate_left
 ·show Act.put _ (some 40) _ = _
  simp only [Act.put, List.setIfInBounds_toArray, List.set_cons_zero, List.set_cons_succ, i64_w, i32_w]
  rfl
 refine one_ (i := 14) (N := none) (bw 19 32767) rfl rfl (one_of HT_.out (by kernel_rfl)) (by decide) (fun K hK => ?_)
 have hs37 : w36.cell? ⟨Ag, 0, none⟩ = some (.int .i64 a0_0) := (blk_cell Aa.out 0).trans rfl
 have hfs37 := blk_frozen Aa.out 0
 have hns37_1 := Ad.out
 have hms37_1 := Af.out
 refine skip_ (w1 := ?_) (by rfl) rfl ?_ ?_
 rotate_left
 ·go_simp
  rfl
 refine hK.out _ _ ⟨((World.cell?_setCell_other _ _ _ _ (by simp)).trans (hHeld.1)), (cX1 hHeld.2.1 (bA An Ac.out)), (cX1 hHeld.2.2.1 (bA Ao Ac.out)), (cX1 hHeld.2.2.2.1 (bA Ap Ac.out)), (cX1 hHeld.2.2.2.2.1 (bA Aq Ac.out)), (cX1 hHeld.2.2.2.2.2.1 (bA Ar Ac.out)), (cX1 hHeld.2.2.2.2.2.2.1 (bA As Ac.out)), (cX1 hHeld.2.2.2.2.2.2.2.1 (bA At Ac.out)), (cX1 hHeld.2.2.2.2.2.2.2.2.1 (bA Au Ac.out)), (cX1 hHeld.2.2.2.2.2.2.2.2.2.1 (bA Av Ac.out)), (cX1 hHeld.2.2.2.2.2.2.2.2.2.2 (bA Aw Ac.out))⟩ (fun hHeld => ?_)
 clear hK K
 refine pui 15 42 19 65535 HT_ ?_
 refine one_ (i := 16) (N := none) (bw 19 131071) rfl rfl (one_of HT_.out (by kernel_rfl)) (by decide) (fun K hK => ?_)
 have hs38 : w36.cell? ⟨Ag, 1, none⟩ = some (.int .i64 a0_1) := (blk_cell Aa.out 1).trans rfl
 have hfs38 := blk_frozen Aa.out 1
 have hns38_1 := Ad.out
 have hms38_1 := Af.out
 refine skip_ (w1 := ?_) (by rfl) rfl ?_ ?_
 rotate_left
 ·go_simp
  rfl
 refine hK.out _ _ ⟨((World.cell?_setCell_other _ _ _ _ (by simp)).trans (hHeld.1)), (cX1 hHeld.2.1 (bA An Ac.out)), (cX1 hHeld.2.2.1 (bA Ao Ac.out)), (cX1 hHeld.2.2.2.1 (bA Ap Ac.out)), (cX1 hHeld.2.2.2.2.1 (bA Aq Ac.out)), (cX1 hHeld.2.2.2.2.2.1 (bA Ar Ac.out)), (cX1 hHeld.2.2.2.2.2.2.1 (bA As Ac.out)), (cX1 hHeld.2.2.2.2.2.2.2.1 (bA At Ac.out)), (cX1 hHeld.2.2.2.2.2.2.2.2.1 (bA Au Ac.out)), (cX1 hHeld.2.2.2.2.2.2.2.2.2.1 (bA Av Ac.out)), (cX1 hHeld.2.2.2.2.2.2.2.2.2.2 (bA Aw Ac.out))⟩ (fun hHeld => ?_)
 clear hK K
 refine pui 17 43 19 262143 HT_ ?_
 refine last_ (i := 18) (N := none) (bw 19 524287) rfl rfl (one_of HT_.out (by kernel_rfl)) (by decide) (fun K hK => ?_)
 have hs40 : w36.cell? ⟨Ag, 2, none⟩ = some (.slice (some Ae) l0_2.length c0_2) := (blk_cell Aa.out 2).trans rfl
 have hfs40 := blk_frozen Aa.out 2
 have hns40_1 := Ad.out
 have hms40_1 := Af.out
 refine skip_ (w1 := ?_) (by rfl) rfl ?_ ?_
 rotate_left
 ·go_simp
  rfl
 refine hK.out _ _ ?_
 clear hK K
 refine done_ (done_of HT_.out (by kernel_rfl)) ?_
 obtain ⟨_, _, _, _, _, _, _⟩ := bc7 Aa.out
 obtain ⟨_, _, _, _, _, _, _⟩ := bf7 Aa.out
 obtain ⟨_, _, _, _, _, _, _⟩ := bc7 Ab.out
 obtain ⟨_, _, _, _, _, _, _⟩ := bf7 Ab.out
 try go_wp2
 refine bodyPost_ret (results_ct rfl _ _ Ai 26 #[.int .i64 a1, .int .i64 ((rd_T55 l0_2 (ji21)).f1), .slice Bl t263.length Bm, .int .i64 a0_3, .int .i64 a0_4, .int .i64 a0_5, .int .i64 a0_6] (0, 0) _ rfl (kX1 Ab.out Ad.out) Try.underlying26 rfl (by kernel_rfl)) rfl ?_
 exact ⟨_, by first | rfl | (simp [errW_none, errW_some] <;> rfl) | (simp only [← hji21, ← hji24]; first | rfl | (simp [errW_none, errW_some] <;> rfl)) | (simp [*, errW_none, errW_some] <;> rfl), by (with_reducible repeat (first | apply Kd.S_alloc | apply Kd.S_drewN | apply Kd.S_drew)); have h0_ := Kd.S_types (Kd.S_types Bh.out Aa.out (by decide)) Ab.out (by decide); have h1_ := Kd.S_far (p := ⟨Ag, 0, none⟩) h0_ (fun _ hk => hk.1.2) (.int .i64 a1); have h2_ := Kd.S_far (p := ⟨Ag, 1, none⟩) h1_ (fun _ hk => hk.1.2) (.int .i64 ((rd_T55 l0_2 (ji21)).f1)); have h3_ := Kd.S_far (p := ⟨Ag, 2, none⟩) h2_ (fun _ hk => hk.1.2) (.slice Bl t263.length Bm); exact Kd.S_mono (Sf7 (g := Ai) (h3_) (fun _ hk => hk.2)) (fun _ hk => trivial), pE2 HB.out Ah.out Aj.out⟩
mutual
def raft_Reset.j0 : Nat → Int → Int → Bool → Int → Int → List (S55) → Int → Int → Int → Int → Option (Int × Int × (List (S55)) × Int × Int × Int × Int × Int)
 | 0, _, _, _, _, _, _, _, _, _, _ => none
 | k + 1, x1, x2, x11, x267000, x267001, x267002, x267003, x267004, x267005, x267006 => if x11 = true then (some (0, 0, ([] : List (S55)), 0, 0, 0, 0, 1)) else (if x1 ≤ x267006 then (some (0, 0, ([] : List (S55)), 0, 0, 0, 0, 4)) else ((raft_Term.f k x267000 x267001 x267002 x267003 x267004 x267005 x267006 x1).bind fun bt271 => (if bt271.2 = 0 then (raft_Reset.j1 k x1 x2 ([] : List (S55)) (bt271.1 == x2) x267000 x267001 x267002 x267003 x267004 x267005 x267006) else (raft_Reset.j1 k x1 x2 ([] : List (S55)) false x267000 x267001 x267002 x267003 x267004 x267005 x267006))))
def raft_Reset.j1 : Nat → Int → Int → List (S55) → Bool → Int → Int → List (S55) → Int → Int → Int → Int → Option (Int × Int × (List (S55)) × Int × Int × Int × Int × Int)
 | 0, _, _, _, _, _, _, _, _, _, _, _ => none
 | k + 1, x1, x2, x8, x44, x267000, x267001, x267002, x267003, x267004, x267005, x267006 => if x44 = true then (if 0 ≤ (wrap64 (x1 - x267000)) then (if (wrap64 (x1 - x267000)) ≤ (x267002.length : Int) then ((raft_owns.f k (x267002.drop ((wrap64 (x1 - x267000)) : Int).toNat)).bind fun t277 => (if x267003 < x2 then (some (x1, x2, t277, x2, 0, mn (mx x267005 x1) (wrap64 (x1 + (t277.length : Int))), x1, 0)) else (some (x1, x2, t277, x267003, x267004, mn (mx x267005 x1) (wrap64 (x1 + (t277.length : Int))), x1, 0)))) else (none)) else (none)) else (if x267003 < x2 then (some (x1, x2, x8, x2, 0, mn (mx x267005 x1) (wrap64 (x1 + (x8.length : Int))), x1, 0)) else (some (x1, x2, x8, x267003, x267004, mn (mx x267005 x1) (wrap64 (x1 + (x8.length : Int))), x1, 0)))
end
def raft_Reset.f (k : Nat) (a0_0 : Int) (a0_1 : Int) (l0_2 : List (S55)) (a0_3 : Int) (a0_4 : Int) (a0_5 : Int) (a0_6 : Int) (a1 : Int) (a2 : Int) : Option (Int × Int × (List (S55)) × Int × Int × Int × Int × Int) := (raft_Check.f k a0_0 a0_1 l0_2 a0_3 a0_4 a0_5 a0_6).bind fun t268 => (if t268 = 0 then ((raft_counts.f a1).bind fun t269 => (if t269 = true then ((raft_counts.f a2).bind fun t270 => (raft_Reset.j0 k a1 a2 (!t270) a0_0 a0_1 l0_2 a0_3 a0_4 a0_5 a0_6)) else (raft_Reset.j0 k a1 a2 true a0_0 a0_1 l0_2 a0_3 a0_4 a0_5 a0_6))) else (raft_Reset.j0 k a1 a2 true a0_0 a0_1 l0_2 a0_3 a0_4 a0_5 a0_6))
theorem raft_Reset.mono_l : ∀ k, (∀ y0 y1 y2 y3 y4 y5 y6 y7 y8 y9, LeO (raft_Reset.j0 k y0 y1 y2 y3 y4 y5 y6 y7 y8 y9) (raft_Reset.j0 (k + 1) y0 y1 y2 y3 y4 y5 y6 y7 y8 y9)) ∧ (∀ y0 y1 y2 y3 y4 y5 y6 y7 y8 y9 y10, LeO (raft_Reset.j1 k y0 y1 y2 y3 y4 y5 y6 y7 y8 y9 y10) (raft_Reset.j1 (k + 1) y0 y1 y2 y3 y4 y5 y6 y7 y8 y9 y10))
 | 0 => ⟨fun _ _ _ _ _ _ _ _ _ _ r h => by simp [raft_Reset.j0] at h, fun _ _ _ _ _ _ _ _ _ _ _ r h => by simp [raft_Reset.j1] at h⟩
 | k + 1 => by
  obtain ⟨ih0, ih1⟩ := raft_Reset.mono_l k
  refine ⟨?_, ?_⟩
  ·intro y0 y1 y2 y3 y4 y5 y6 y7 y8 y9
   unfold raft_Reset.j0
   repeat' first
   | (with_reducible exact ih0 _ _ _ _ _ _ _ _ _ _)
   | (with_reducible exact ih1 _ _ _ _ _ _ _ _ _ _ _)
   | (with_reducible exact raft_Check.mono _ _ _ _ _ _ _ _)
   | (with_reducible exact raft_Term.mono _ _ _ _ _ _ _ _ _)
   | (with_reducible exact raft_owns.mono _ _)
   | (with_reducible exact LeO.refl _)
   | (with_reducible exact LeO.none _)
   | (with_reducible refine LeO.ite ?_ ?_)
   | (with_reducible refine LeO.bind ?_ (fun _ => ?_))
   | exact ih0 _ _ _ _ _ _ _ _ _ _
   | exact ih1 _ _ _ _ _ _ _ _ _ _ _
   | exact raft_Check.mono _ _ _ _ _ _ _ _
   | exact raft_Term.mono _ _ _ _ _ _ _ _ _
   | exact raft_owns.mono _ _
   | exact LeO.none _
   | refine LeO.ite ?_ ?_
   | refine LeO.bind ?_ (fun _ => ?_)
  ·intro y0 y1 y2 y3 y4 y5 y6 y7 y8 y9 y10
   unfold raft_Reset.j1
   repeat' first
   | (with_reducible exact ih0 _ _ _ _ _ _ _ _ _ _)
   | (with_reducible exact ih1 _ _ _ _ _ _ _ _ _ _ _)
   | (with_reducible exact raft_Check.mono _ _ _ _ _ _ _ _)
   | (with_reducible exact raft_Term.mono _ _ _ _ _ _ _ _ _)
   | (with_reducible exact raft_owns.mono _ _)
   | (with_reducible exact LeO.refl _)
   | (with_reducible exact LeO.none _)
   | (with_reducible refine LeO.ite ?_ ?_)
   | (with_reducible refine LeO.bind ?_ (fun _ => ?_))
   | exact ih0 _ _ _ _ _ _ _ _ _ _
   | exact ih1 _ _ _ _ _ _ _ _ _ _ _
   | exact raft_Check.mono _ _ _ _ _ _ _ _
   | exact raft_Term.mono _ _ _ _ _ _ _ _ _
   | exact raft_owns.mono _ _
   | exact LeO.none _
   | refine LeO.ite ?_ ?_
   | refine LeO.bind ?_ (fun _ => ?_)
theorem raft_Reset.mono : ∀ a0 a1 a2 a3 a4 a5 a6 a7 a8 k, LeO (raft_Reset.f k a0 a1 a2 a3 a4 a5 a6 a7 a8) (raft_Reset.f (k + 1) a0 a1 a2 a3 a4 a5 a6 a7 a8) := by
 intro a0 a1 a2 a3 a4 a5 a6 a7 a8 k
 obtain ⟨ih0, ih1⟩ := raft_Reset.mono_l k
 unfold raft_Reset.f
 repeat' first
   | (with_reducible exact ih0 _ _ _ _ _ _ _ _ _ _)
   | (with_reducible exact ih1 _ _ _ _ _ _ _ _ _ _ _)
   | (with_reducible exact raft_Check.mono _ _ _ _ _ _ _ _)
   | (with_reducible exact raft_Term.mono _ _ _ _ _ _ _ _ _)
   | (with_reducible exact raft_owns.mono _ _)
   | (with_reducible exact LeO.refl _)
   | (with_reducible exact LeO.none _)
   | (with_reducible refine LeO.ite ?_ ?_)
   | (with_reducible refine LeO.bind ?_ (fun _ => ?_))
   | exact ih0 _ _ _ _ _ _ _ _ _ _
   | exact ih1 _ _ _ _ _ _ _ _ _ _ _
   | exact raft_Check.mono _ _ _ _ _ _ _ _
   | exact raft_Term.mono _ _ _ _ _ _ _ _ _
   | exact raft_owns.mono _ _
   | exact LeO.none _
   | refine LeO.ite ?_ ?_
   | refine LeO.bind ?_ (fun _ => ?_)
set_option maxHeartbeats 8000000 in
set_option maxRecDepth 100000 in
theorem raft_Reset.calls (k : Nat) (a0_0 : Int) (a0_1 : Int) (A0_2 : Option Addr) (c0_2 : Nat) (l0_2 : List (S55)) (a0_3 : Int) (a0_4 : Int) (a0_5 : Int) (a0_6 : Int) (a1 : Int) (a2 : Int) (r1 : Int) (r2 : Int) (r3 : List (S55)) (r4 : Int) (r5 : Int) (r6 : Int) (r7 : Int) (r8 : Int) (w : World) (hr0_2 : Kd.C k55 w A0_2 l0_2.length l0_2) (hc0_2 : l0_2.length ≤ c0_2) (h : raft_Reset.f k a0_0 a0_1 l0_2 a0_3 a0_4 a0_5 a0_6 a1 a2 = some (r1, r2, r3, r4, r5, r6, r7, r8)) :
  Calls Try.prog 9 #[.agg #[.int .i64 a0_0, .int .i64 a0_1, .slice A0_2 l0_2.length c0_2, .int .i64 a0_3, .int .i64 a0_4, .int .i64 a0_5, .int .i64 a0_6], .int .i64 a1, .int .i64 a2] w fun e w' => ∃ v2_ : Value, e = .returned (.tuple #[.agg #[.int .i64 r1, .int .i64 r2, v2_, .int .i64 r4, .int .i64 r5, .int .i64 r6, .int .i64 r7], .int .i64 r8]) ∧ Kd.S k55 55 w' w.heap.size (fun _ => True) v2_ r3 ∧ Below w.heap.size w w' := by
 have hu26 := Try.underlying26
 have Ak := Am hr0_2
 have Al := Am hc0_2
 clear hr0_2 hc0_2
 have HB := Am (Below.refl w.heap.size w)
 have H : ((raft_Check.f k a0_0 a0_1 l0_2 a0_3 a0_4 a0_5 a0_6).bind fun t268 => (if t268 = 0 then ((raft_counts.f a1).bind fun t269 => (if t269 = true then ((raft_counts.f a2).bind fun t270 => (raft_Reset.j0 k a1 a2 (!t270) a0_0 a0_1 l0_2 a0_3 a0_4 a0_5 a0_6)) else (raft_Reset.j0 k a1 a2 true a0_0 a0_1 l0_2 a0_3 a0_4 a0_5 a0_6))) else (raft_Reset.j0 k a1 a2 true a0_0 a0_1 l0_2 a0_3 a0_4 a0_5 a0_6))) = some (r1, r2, r3, r4, r5, r6, r7, r8) := h
 clear h
 have HC4 := Am H
 clear H
 go_enter Try.func9, Try.ntmps9
 go_upto_region 1 with (first | ((with_reducible refine gate_dst (N := 3) rfl ?_); refine box_event ?hg (N := 3) ?hd (cs := #[.int .i64 a0_0, .int .i64 a0_1, .slice A0_2 l0_2.length c0_2, .int .i64 a0_3, .int .i64 a0_4, .int .i64 a0_5, .int .i64 a0_6]) (t := 26) ?hr ?_; (case hd => rfl); (case hg => rfl); (case hr => first | (go_simp; done) | (go_simp; rfl)); intro Ad hg w5 hbox hb; have Aa := Am (hbox); have Dx := Am ((by rw [hg]; exact (below_size (pB HB.out)) : w.heap.size ≤ Ad)); replace HB := Am (below_step (pB HB.out) hb); have Af := Dx; clear hb hbox hg) | ((with_reducible refine gate_dst (N := 6) rfl ?_); refine box_event ?hg (N := 6) ?hd (cs := #[.int .i64 0, .int .i64 0, .slice none 0 0, .int .i64 0, .int .i64 0, .int .i64 0, .int .i64 0]) (t := 26) ?hr ?_; (case hd => rfl); (case hg => rfl); (case hr => first | (go_simp; done) | (go_simp; rfl)); intro Ah hg w6 hbox hb; have Ab := Am (hbox); have Dy := Am ((by rw [hg]; exact (below_size (pE HB.out Af.out)) : w.heap.size ≤ Ah)); replace HB := Am (below_step (pE HB.out Af.out) hb); have Ag := Dy; have Ae := Am ((by rw [hg]; exact Nat.ne_of_lt (kL Aa.out) : Ad ≠ Ah)); have Ac := Am ((by rw [hg]; exact Nat.ne_of_gt (kL Aa.out) : Ah ≠ Ad)); replace Aa := kBa Aa hb; clear hb hbox hg))
 (try simp only [Act.put, List.setIfInBounds_toArray, List.set_cons_zero, List.set_cons_succ])
 go_cut [11] (fun v11 wc => ∃ (kq : Nat) (As : Bool), v11 = .bool As ∧ Aside0 (raft_Reset.j0 kq a1 a2 As a0_0 a0_1 l0_2 a0_3 a0_4 a0_5 a0_6 = some (r1, r2, r3, r4, r5, r6, r7, r8)) ∧ Aside0 (kq ≤ k) ∧ Aside0 (wc.heap[Ad]? = some (.cells #[.int .i64 a0_0, .int .i64 a0_1, (.slice A0_2 l0_2.length c0_2), .int .i64 a0_3, .int .i64 a0_4, .int .i64 a0_5, .int .i64 a0_6] 26 (0, 0))) ∧ Aside0 (wc.heap[Ah]? = some (.cells #[.int .i64 0, .int .i64 0, (.slice none 0 0), .int .i64 0, .int .i64 0, .int .i64 0, .int .i64 0] 26 (0, 0))) ∧ Aside0 (Below w.heap.size w wc))
 case first =>
  have H := HC4.out
  clear HC4
  replace H := Option.bind_eq_some_iff.mp H
  obtain ⟨t268, A70, H⟩ := H
  replace H : (if t268 = 0 then ((raft_counts.f a1).bind fun t269 => (if t269 = true then ((raft_counts.f a2).bind fun t270 => (raft_Reset.j0 k a1 a2 (!t270) a0_0 a0_1 l0_2 a0_3 a0_4 a0_5 a0_6)) else (raft_Reset.j0 k a1 a2 true a0_0 a0_1 l0_2 a0_3 a0_4 a0_5 a0_6))) else (raft_Reset.j0 k a1 a2 true a0_0 a0_1 l0_2 a0_3 a0_4 a0_5 a0_6)) = some (r1, r2, r3, r4, r5, r6, r7, r8) := H
  have A7 := Am A70
  clear A70
  by_cases c8 : t268 = 0
  rotate_left
  ·rw [if_neg c8] at H
   have c8b0 : (t268 == 0) = false := beq_eq_false_iff_ne.mpr c8
   have c8b1 : (t268 != 0) = true := bne_iff_ne.mpr c8
   (first | rw [c8b0] | (simp only [i64_w, i32_w]; rw [c8b0]) | skip)
   have H' := Am H
   clear H
   have hnb18 := Ae.out
   have hnc18 := Ac.out
   obtain ⟨Bn, Bo, Bp, Bq, Br, Bs, Bt⟩ := bc7 Aa.out
   obtain ⟨Bu, Bv, Bw, Bx, By, Bz, B0⟩ := bf7 Aa.out
   go_wp2_with (first | ((with_reducible refine gate_callee (f := 21) rfl ?_); refine goesL_ (some 13) rfl rfl Try.func21 (by kernel_rfl) rfl #[.agg #[.int .i64 a0_0, .int .i64 a0_1, .slice A0_2 l0_2.length c0_2, .int .i64 a0_3, .int .i64 a0_4, .int .i64 a0_5, .int .i64 a0_6]] rfl pL ?_; (with_reducible refine (raft_Check.calls k a0_0 a0_1 _ _ l0_2 a0_3 a0_4 a0_5 a0_6 t268 _ ?Ai ?Aj A7.out).mono ?_); (case Ai => exact pC (Kd.C_below Ak.out HB.out)); (case Aj => exact Al.out); rintro e w20 ⟨rfl, hb⟩; refine ⟨_, rfl, ?_⟩; replace Aa := kBa Aa hb; replace Ab := kBa Ab hb; replace HB := Am (below_step (pE2 HB.out Af.out Ag.out) hb); (try clear hb); (try clear hb2); (try clear hk); (try clear hi)))
   go_meet
   case rel => exact ⟨_, (true), (by first | rfl | (simp; done) | (simp [*]; done)), H', ⟨by first | omega | exact Nat.le_refl _⟩, ⟨pK Aa.out⟩, ⟨pK Ab.out⟩, ⟨pE2 HB.out Af.out Ag.out⟩⟩
  rw [if_pos c8] at H
  have c8b0 : (t268 == 0) = true := beq_iff_eq.mpr c8
  have c8b1 : (t268 != 0) = false := bne_eq_false_iff_eq.mpr c8
  clear c8
  (first | rw [c8b0] | (simp only [i64_w, i32_w]; rw [c8b0]) | skip)
  replace H := Option.bind_eq_some_iff.mp H
  obtain ⟨t269, A90, H⟩ := H
  replace H : (if t269 = true then ((raft_counts.f a2).bind fun t270 => (raft_Reset.j0 k a1 a2 (!t270) a0_0 a0_1 l0_2 a0_3 a0_4 a0_5 a0_6)) else (raft_Reset.j0 k a1 a2 true a0_0 a0_1 l0_2 a0_3 a0_4 a0_5 a0_6)) = some (r1, r2, r3, r4, r5, r6, r7, r8) := H
  have A9 := Am A90
  clear A90
  by_cases c10 : t269 = true
  rotate_left
  ·replace c10 := Bool.eq_false_iff.mpr c10
   subst c10
   have H1 : (raft_Reset.j0 k a1 a2 true a0_0 a0_1 l0_2 a0_3 a0_4 a0_5 a0_6) = some (r1, r2, r3, r4, r5, r6, r7, r8) := by rw [if_neg (show ¬ (false = true) by decide)] at H; exact H
   clear H
   have H := H1
   clear H1
   have H' := Am H
   clear H
   have hnb15 := Ae.out
   have hnc15 := Ac.out
   obtain ⟨A8, Ba, Bb, Bc, Bd, Be, Bf⟩ := bc7 Aa.out
   obtain ⟨Bg, Bh, Bi, Bj, Bk, Bl, Bm⟩ := bf7 Aa.out
   go_wp2_with (first | ((with_reducible refine gate_callee (f := 21) rfl ?_); refine goesL_ (some 13) rfl rfl Try.func21 (by kernel_rfl) rfl #[.agg #[.int .i64 a0_0, .int .i64 a0_1, .slice A0_2 l0_2.length c0_2, .int .i64 a0_3, .int .i64 a0_4, .int .i64 a0_5, .int .i64 a0_6]] rfl pL ?_; (with_reducible refine (raft_Check.calls k a0_0 a0_1 _ _ l0_2 a0_3 a0_4 a0_5 a0_6 t268 _ ?Ai ?Aj A7.out).mono ?_); (case Ai => exact pC (Kd.C_below Ak.out HB.out)); (case Aj => exact Al.out); rintro e w17 ⟨rfl, hb⟩; refine ⟨_, rfl, ?_⟩; replace Aa := kBa Aa hb; replace Ab := kBa Ab hb; replace HB := Am (below_step (pE2 HB.out Af.out Ag.out) hb); (try clear hb); (try clear hb2); (try clear hk); (try clear hi)) | (go_at_call 24; (with_reducible refine (raft_counts.calls a1 false _ A9.out).mono ?_); rintro e w' ⟨rfl, ⟨nd, rfl⟩⟩))
   go_meet
   case rel => exact ⟨_, (true), (by first | rfl | (simp; done) | (simp [*]; done)), H', ⟨by first | omega | exact Nat.le_refl _⟩, ⟨pK Aa.out⟩, ⟨pK Ab.out⟩, ⟨pE2 HB.out Af.out Ag.out⟩⟩
  subst c10
  have H1 : ((raft_counts.f a2).bind fun t270 => (raft_Reset.j0 k a1 a2 (!t270) a0_0 a0_1 l0_2 a0_3 a0_4 a0_5 a0_6)) = some (r1, r2, r3, r4, r5, r6, r7, r8) := by rw [if_pos rfl] at H; exact H
  clear H
  have H := H1
  clear H1
  replace H := Option.bind_eq_some_iff.mp H
  obtain ⟨t270, A110, H⟩ := H
  replace H : (raft_Reset.j0 k a1 a2 (!t270) a0_0 a0_1 l0_2 a0_3 a0_4 a0_5 a0_6) = some (r1, r2, r3, r4, r5, r6, r7, r8) := H
  have A11 := Am A110
  clear A110
  have H' := Am H
  clear H
  have hnb12 := Ae.out
  have hnc12 := Ac.out
  obtain ⟨At, Au, Av, Aw, Ax, Ay, Az⟩ := bc7 Aa.out
  obtain ⟨A0, A1, A2, A3, A4, A5, A6⟩ := bf7 Aa.out
  go_wp2_with (first | ((with_reducible refine gate_callee (f := 21) rfl ?_); refine goesL_ (some 13) rfl rfl Try.func21 (by kernel_rfl) rfl #[.agg #[.int .i64 a0_0, .int .i64 a0_1, .slice A0_2 l0_2.length c0_2, .int .i64 a0_3, .int .i64 a0_4, .int .i64 a0_5, .int .i64 a0_6]] rfl pL ?_; (with_reducible refine (raft_Check.calls k a0_0 a0_1 _ _ l0_2 a0_3 a0_4 a0_5 a0_6 t268 _ ?Ai ?Aj A7.out).mono ?_); (case Ai => exact pC (Kd.C_below Ak.out HB.out)); (case Aj => exact Al.out); rintro e w14 ⟨rfl, hb⟩; refine ⟨_, rfl, ?_⟩; replace Aa := kBa Aa hb; replace Ab := kBa Ab hb; replace HB := Am (below_step (pE2 HB.out Af.out Ag.out) hb); (try clear hb); (try clear hb2); (try clear hk); (try clear hi)) | (go_at_call 24; (with_reducible refine (raft_counts.calls a1 true _ A9.out).mono ?_); rintro e w' ⟨rfl, ⟨nd, rfl⟩⟩) | (go_at_call 24; (with_reducible refine (raft_counts.calls a2 t270 _ A11.out).mono ?_); rintro e w' ⟨rfl, ⟨nd, rfl⟩⟩))
  go_meet
  case rel => exact ⟨_, (!t270), (by first | rfl | (simp; done) | (simp [*]; done)), H', ⟨by first | omega | exact Nat.le_refl _⟩, ⟨pK Aa.out⟩, ⟨pK Ab.out⟩, ⟨pE2 HB.out Af.out Ag.out⟩⟩
 case rest =>
  clear HC4
  try clear c1
  try clear c2
  try clear p2
  try clear c8
  try clear c8b0
  try clear c8b1
  try clear c9
  try clear c10
  try clear c12
  try clear c15
  try clear c18
  try clear At Au Av Aw Ax Ay Az
  try clear A8 Ba Bb Bc Bd Be Bf
  try clear Bn Bo Bp Bq Br Bs Bt
  try clear A0 A1 A2 A3 A4 A5 A6
  try clear Bg Bh Bi Bj Bk Bl Bm
  try clear Bu Bv Bw Bx By Bz B0
  obtain ⟨kq, As, rfl, HA, HJ3, Aa, Ab, HB⟩ := hcut
  cases kq with
  | zero => exact absurd HA.out (by simp [raft_Reset.j0])
  | succ kj3 =>
   have H := HA.out
   clear HA
   simp only [raft_Reset.j0] at H
   by_cases c21 : As = true
   ·subst c21
    have H1 : (some (0, 0, ([] : List (S55)), 0, 0, 0, 0, 1)) = some (r1, r2, r3, r4, r5, r6, r7, r8) := by rw [if_pos rfl] at H; exact H
    clear H
    have H := H1
    clear H1
    simp only [Option.some.injEq, Prod.mk.injEq] at H
    obtain ⟨rfl, rfl, rfl, rfl, rfl, rfl, rfl, rfl⟩ := H
    have hnb22 := Ac.out
    have hnc22 := Ae.out
    obtain ⟨B3, B4, B5, B6, B7, B8, B9⟩ := bc7 Ab.out
    obtain ⟨Ca, Cb, Cc, Cd, Ce, Cf, Cg⟩ := bf7 Ab.out
    go_wp2
    refine bodyPost_ret (results_ct rfl _ _ Ah 26 #[.int .i64 0, .int .i64 0, .slice none 0 0, .int .i64 0, .int .i64 0, .int .i64 0, .int .i64 0] (0, 0) _ rfl (kX0 Ab.out) Try.underlying26 rfl (by kernel_rfl)) rfl ?_
    exact ⟨_, pX, by first | exact Kd.S_nil _ _ _ _ _ | exact Kd.N_nil _ _ _ _ _ | exact Kd.V_nil _ _ _ _ _ | exact Kd.Q_nil _ _ _ _ _ | exact Kd.R_nil _ _ _ _ _, pE2 HB.out Af.out Ag.out⟩
   replace c21 := Bool.eq_false_iff.mpr c21
   subst c21
   have H1 : (if a1 ≤ a0_6 then (some (0, 0, ([] : List (S55)), 0, 0, 0, 0, 4)) else ((raft_Term.f kj3 a0_0 a0_1 l0_2 a0_3 a0_4 a0_5 a0_6 a1).bind fun bt271 => (if bt271.2 = 0 then (raft_Reset.j1 kj3 a1 a2 ([] : List (S55)) (bt271.1 == a2) a0_0 a0_1 l0_2 a0_3 a0_4 a0_5 a0_6) else (raft_Reset.j1 kj3 a1 a2 ([] : List (S55)) false a0_0 a0_1 l0_2 a0_3 a0_4 a0_5 a0_6)))) = some (r1, r2, r3, r4, r5, r6, r7, r8) := by rw [if_neg (show ¬ (false = true) by decide)] at H; exact H
   clear H
   have H := H1
   clear H1
   by_cases c24 : a1 ≤ a0_6
   ·rw [if_pos c24] at H
    have c24b0 : decide (a1 ≤ a0_6) = true := decide_eq_true c24
    clear c24
    simp only [Option.some.injEq, Prod.mk.injEq] at H
    obtain ⟨rfl, rfl, rfl, rfl, rfl, rfl, rfl, rfl⟩ := H
    have hnb25 := Ae.out
    have hnc25 := Ac.out
    obtain ⟨Ch, Ci, Cj, Ck, Cl, Cm, Cn⟩ := bc7 Aa.out
    obtain ⟨Co, Cp, Cq, Cr, Cs, Ct, Cu⟩ := bf7 Aa.out
    obtain ⟨Cv, Cw, Cx, Cy, Cz, C0, C1⟩ := bc7 Ab.out
    obtain ⟨C2, C3, C4, C5, C6, C7, C8⟩ := bf7 Ab.out
    go_wp2
    refine bodyPost_ret (results_ct rfl _ _ Ah 26 #[.int .i64 0, .int .i64 0, .slice none 0 0, .int .i64 0, .int .i64 0, .int .i64 0, .int .i64 0] (0, 0) _ rfl (kX0 Ab.out) Try.underlying26 rfl (by kernel_rfl)) rfl ?_
    exact ⟨_, pX, by first | exact Kd.S_nil _ _ _ _ _ | exact Kd.N_nil _ _ _ _ _ | exact Kd.V_nil _ _ _ _ _ | exact Kd.Q_nil _ _ _ _ _ | exact Kd.R_nil _ _ _ _ _, pE2 HB.out Af.out Ag.out⟩
   rw [if_neg c24] at H
   have c24b0 : decide (a1 ≤ a0_6) = false := decide_eq_false c24
   clear c24
   replace H := Option.bind_eq_some_iff.mp H
   obtain ⟨⟨t271, t272⟩, A280, H⟩ := H
   replace H : (if t272 = 0 then (raft_Reset.j1 kj3 a1 a2 ([] : List (S55)) (t271 == a2) a0_0 a0_1 l0_2 a0_3 a0_4 a0_5 a0_6) else (raft_Reset.j1 kj3 a1 a2 ([] : List (S55)) false a0_0 a0_1 l0_2 a0_3 a0_4 a0_5 a0_6)) = some (r1, r2, r3, r4, r5, r6, r7, r8) := H
   have A28 := Am A280
   clear A280
   have HC29 := Am H
   clear H
   have hnb30 := Ae.out
   have hnc30 := Ac.out
   obtain ⟨C9, Da, Db, Dc, Dd, De, Df⟩ := bc7 Aa.out
   obtain ⟨Dg, Dh, Di, Dj, Dk, Dl, Dm⟩ := bf7 Aa.out
   go_upto_region 7 with (first | ((with_reducible refine gate_callee (f := 25) rfl ?_); refine goesL_ (some 35) rfl rfl Try.func25 (by kernel_rfl) rfl #[.agg #[.int .i64 a0_0, .int .i64 a0_1, .slice A0_2 l0_2.length c0_2, .int .i64 a0_3, .int .i64 a0_4, .int .i64 a0_5, .int .i64 a0_6], .int .i64 a1] rfl pL ?_; (with_reducible refine (raft_Term.calls kj3 a0_0 a0_1 _ _ l0_2 a0_3 a0_4 a0_5 a0_6 a1 t271 t272 _ ?Ai ?Aj A28.out).mono ?_); (case Ai => exact pC (Kd.C_below Ak.out HB.out)); (case Aj => exact Al.out); rintro e w32 ⟨rfl, hb⟩; refine ⟨_, rfl, ?_⟩; replace Aa := kBa Aa hb; replace Ab := kBa Ab hb; replace HB := Am (below_step (pE2 HB.out Af.out Ag.out) hb); (try clear hb); (try clear hb2); (try clear hk); (try clear hi)))
   (try simp only [Act.put, List.setIfInBounds_toArray, List.set_cons_zero, List.set_cons_succ])
   go_cut [44] (fun v44 wc => ∃ (kq : Nat) (An : Bool), v44 = .bool An ∧ Aside0 (raft_Reset.j1 kq a1 a2 ([] : List (S55)) An a0_0 a0_1 l0_2 a0_3 a0_4 a0_5 a0_6 = some (r1, r2, r3, r4, r5, r6, r7, r8)) ∧ Aside0 (kq ≤ kj3) ∧ Aside0 (Kd.S k55 55 wc w.heap.size (fun _ => True) (.slice none 0 0) ([] : List (S55))) ∧ Aside0 (wc.heap[Ad]? = some (.cells #[.int .i64 a0_0, .int .i64 a0_1, (.slice A0_2 l0_2.length c0_2), .int .i64 a0_3, .int .i64 a0_4, .int .i64 a0_5, .int .i64 a0_6] 26 (0, 0))) ∧ Aside0 (wc.heap[Ah]? = some (.cells #[.int .i64 0, .int .i64 0, (.slice none 0 0), .int .i64 0, .int .i64 0, .int .i64 0, .int .i64 0] 26 (0, 0))) ∧ Aside0 (Below w.heap.size w wc))
   case first =>
    have H := HC29.out
    clear HC29
    by_cases c33 : t272 = 0
    rotate_left
    ·rw [if_neg c33] at H
     have c33b0 : (t272 == 0) = false := beq_eq_false_iff_ne.mpr c33
     have c33b1 : (t272 != 0) = true := bne_iff_ne.mpr c33
     (first | rw [c33b0] | (simp only [i64_w, i32_w]; rw [c33b0]) | skip)
     have H' := Am H
     clear H
     go_wp2
     go_meet
     case rel => exact ⟨_, (false), (by first | rfl | (simp; done) | (simp [*]; done)), H', ⟨by have := HJ3.out; first | omega | exact Nat.le_refl _⟩, ⟨by first | exact Kd.S_nil _ _ _ _ _ | exact Kd.N_nil _ _ _ _ _ | exact Kd.V_nil _ _ _ _ _ | exact Kd.Q_nil _ _ _ _ _ | exact Kd.R_nil _ _ _ _ _⟩, ⟨pK Aa.out⟩, ⟨pK Ab.out⟩, ⟨pE2 HB.out Af.out Ag.out⟩⟩
    rw [if_pos c33] at H
    have c33b0 : (t272 == 0) = true := beq_iff_eq.mpr c33
    have c33b1 : (t272 != 0) = false := bne_eq_false_iff_eq.mpr c33
    clear c33
    (first | rw [c33b0] | (simp only [i64_w, i32_w]; rw [c33b0]) | skip)
    have H' := Am H
    clear H
    go_wp2
    go_meet
    case rel => exact ⟨_, ((t271 == a2)), (by first | rfl | (simp; done) | (simp [*]; done)), H', ⟨by have := HJ3.out; first | omega | exact Nat.le_refl _⟩, ⟨by first | exact Kd.S_nil _ _ _ _ _ | exact Kd.N_nil _ _ _ _ _ | exact Kd.V_nil _ _ _ _ _ | exact Kd.Q_nil _ _ _ _ _ | exact Kd.R_nil _ _ _ _ _⟩, ⟨pK Aa.out⟩, ⟨pK Ab.out⟩, ⟨pE2 HB.out Af.out Ag.out⟩⟩
   case rest =>
    clear HC29
    try clear c1
    try clear c2
    try clear p2
    try clear c3
    try clear c8
    try clear c8b0
    try clear c8b1
    try clear c9
    try clear c10
    try clear c12
    try clear c15
    try clear c18
    try clear c21
    try clear c22
    try clear c24
    try clear c24b0
    try clear c25
    try clear c30
    try clear c33
    try clear c33b0
    try clear c33b1
    try clear At Au Av Aw Ax Ay Az
    try clear A8 Ba Bb Bc Bd Be Bf
    try clear Bn Bo Bp Bq Br Bs Bt
    try clear B3 B4 B5 B6 B7 B8 B9
    try clear Ch Ci Cj Ck Cl Cm Cn
    try clear Cv Cw Cx Cy Cz C0 C1
    try clear C9 Da Db Dc Dd De Df
    try clear A0 A1 A2 A3 A4 A5 A6
    try clear Bg Bh Bi Bj Bk Bl Bm
    try clear Bu Bv Bw Bx By Bz B0
    try clear Ca Cb Cc Cd Ce Cf Cg
    try clear Co Cp Cq Cr Cs Ct Cu
    try clear C2 C3 C4 C5 C6 C7 C8
    try clear Dg Dh Di Dj Dk Dl Dm
    try clear p2
    obtain ⟨kq, An, rfl, HA, HJ28, Aq, Aa, Ab, HB⟩ := hcut
    cases kq with
    | zero => exact absurd HA.out (by simp [raft_Reset.j1])
    | succ kj28 =>
     have H := HA.out
     clear HA
     simp only [raft_Reset.j1] at H
     by_cases c34 : An = true
     rotate_left
     ·replace c34 := Bool.eq_false_iff.mpr c34
      subst c34
      have H1 : (if a0_3 < a2 then (some (a1, a2, ([] : List (S55)), a2, 0, mn (mx a0_5 a1) (wrap64 (a1 + (([] : List (S55)).length : Int))), a1, 0)) else (some (a1, a2, ([] : List (S55)), a0_3, a0_4, mn (mx a0_5 a1) (wrap64 (a1 + (([] : List (S55)).length : Int))), a1, 0))) = some (r1, r2, r3, r4, r5, r6, r7, r8) := by rw [if_neg (show ¬ (false = true) by decide)] at H; exact H
      clear H
      have H := H1
      clear H1
      obtain ⟨ji56, hji56⟩ : ∃ j_ : Int, (mx a0_5 a1) = j_ := ⟨_, rfl⟩
      replace H : (if a0_3 < a2 then (some (a1, a2, ([] : List (S55)), a2, 0, mn (ji56) (wrap64 (a1 + (([] : List (S55)).length : Int))), a1, 0)) else (some (a1, a2, ([] : List (S55)), a0_3, a0_4, mn (ji56) (wrap64 (a1 + (([] : List (S55)).length : Int))), a1, 0))) = some (r1, r2, r3, r4, r5, r6, r7, r8) := by first | (rw [hji56] at H; exact H) | (simp only [hji56] at H ⊢; exact H)
      have hji56_ : (if a0_5 < a1 then a1 else a0_5) = ji56 := hji56
      obtain ⟨ji57, hji57⟩ : ∃ j_ : Int, (mn (ji56) (wrap64 (a1 + (([] : List (S55)).length : Int)))) = j_ := ⟨_, rfl⟩
      replace H : (if a0_3 < a2 then (some (a1, a2, ([] : List (S55)), a2, 0, ji57, a1, 0)) else (some (a1, a2, ([] : List (S55)), a0_3, a0_4, ji57, a1, 0))) = some (r1, r2, r3, r4, r5, r6, r7, r8) := by first | (rw [hji57] at H; exact H) | (simp only [hji57] at H ⊢; exact H)
      have hji57_ : (if (wrap64 (a1 + (([] : List (S55)).length : Int))) < (ji56) then (wrap64 (a1 + (([] : List (S55)).length : Int))) else (ji56)) = ji57 := hji57
      (try simp only [List.length_nil, Int.natCast_zero, Int.cast_ofNat_Int, Int.ofNat_zero, Int.add_zero] at hji57_)
      by_cases c58 : a0_3 < a2
      ·rw [if_pos c58] at H
       have c58b0 : decide (a0_3 < a2) = true := decide_eq_true c58
       clear c58
       simp only [Option.some.injEq, Prod.mk.injEq] at H
       obtain ⟨rfl, rfl, rfl, rfl, rfl, rfl, rfl, rfl⟩ := H
       have hnb59 := Ae.out
       have hnc59 := Ac.out
       obtain ⟨_, _, _, _, _, _, _⟩ := bc7 Aa.out
       obtain ⟨_, _, _, _, _, _, _⟩ := bf7 Aa.out
       obtain ⟨_, _, _, _, _, _, _⟩ := bc7 Ab.out
       obtain ⟨_, _, _, _, _, _, _⟩ := bf7 Ab.out
       go_wp2
       refine bodyPost_ret (results_ct rfl _ _ Ah 26 #[.int .i64 a1, .int .i64 a2, .slice none 0 0, .int .i64 a2, .int .i64 0, .int .i64 ji57, .int .i64 a1] (0, 0) _ rfl (kX1 Ab.out Ac.out) Try.underlying26 rfl (by kernel_rfl)) rfl ?_
       exact ⟨_, by first | rfl | (simp [errW_none, errW_some] <;> rfl) | (simp only [← hji56, ← hji57]; first | rfl | (simp [errW_none, errW_some] <;> rfl)) | (simp [*, errW_none, errW_some] <;> rfl), by (with_reducible repeat (first | apply Kd.S_alloc | apply Kd.S_drewN | apply Kd.S_drew)); have h0_ := Kd.S_types (Kd.S_types Aq.out Aa.out (by decide)) Ab.out (by decide); have h1_ := Kd.S_far (p := ⟨Ad, 0, none⟩) h0_ (fun _ hk => hk.1.2) (.int .i64 a1); have h2_ := Kd.S_far (p := ⟨Ad, 1, none⟩) h1_ (fun _ hk => hk.1.2) (.int .i64 a2); have h3_ := Kd.S_far (p := ⟨Ad, 2, none⟩) h2_ (fun _ hk => hk.1.2) (.slice none 0 0); have h4_ := Kd.S_far (p := ⟨Ad, 6, none⟩) h3_ (fun _ hk => hk.1.2) (.int .i64 a1); have h5_ := Kd.S_far (p := ⟨Ad, 5, none⟩) h4_ (fun _ hk => hk.1.2) (.int .i64 ji57); have h6_ := Kd.S_far (p := ⟨Ad, 3, none⟩) h5_ (fun _ hk => hk.1.2) (.int .i64 a2); have h7_ := Kd.S_far (p := ⟨Ad, 4, none⟩) h6_ (fun _ hk => hk.1.2) (.int .i64 0); exact Kd.S_mono (Sf7 (g := Ah) (h7_) (fun _ hk => hk.2)) (fun _ hk => trivial), pE2 HB.out Af.out Ag.out⟩
      rw [if_neg c58] at H
      have c58b0 : decide (a0_3 < a2) = false := decide_eq_false c58
      clear c58
      simp only [Option.some.injEq, Prod.mk.injEq] at H
      obtain ⟨rfl, rfl, rfl, rfl, rfl, rfl, rfl, rfl⟩ := H
      have hnb62 := Ae.out
      have hnc62 := Ac.out
      obtain ⟨_, _, _, _, _, _, _⟩ := bc7 Aa.out
      obtain ⟨_, _, _, _, _, _, _⟩ := bf7 Aa.out
      obtain ⟨_, _, _, _, _, _, _⟩ := bc7 Ab.out
      obtain ⟨_, _, _, _, _, _, _⟩ := bf7 Ab.out
      go_wp2
      refine bodyPost_ret (results_ct rfl _ _ Ah 26 #[.int .i64 a1, .int .i64 a2, .slice none 0 0, .int .i64 a0_3, .int .i64 a0_4, .int .i64 ji57, .int .i64 a1] (0, 0) _ rfl (kX1 Ab.out Ac.out) Try.underlying26 rfl (by kernel_rfl)) rfl ?_
      exact ⟨_, by first | rfl | (simp [errW_none, errW_some] <;> rfl) | (simp only [← hji56, ← hji57]; first | rfl | (simp [errW_none, errW_some] <;> rfl)) | (simp [*, errW_none, errW_some] <;> rfl), by (with_reducible repeat (first | apply Kd.S_alloc | apply Kd.S_drewN | apply Kd.S_drew)); have h0_ := Kd.S_types (Kd.S_types Aq.out Aa.out (by decide)) Ab.out (by decide); have h1_ := Kd.S_far (p := ⟨Ad, 0, none⟩) h0_ (fun _ hk => hk.1.2) (.int .i64 a1); have h2_ := Kd.S_far (p := ⟨Ad, 1, none⟩) h1_ (fun _ hk => hk.1.2) (.int .i64 a2); have h3_ := Kd.S_far (p := ⟨Ad, 2, none⟩) h2_ (fun _ hk => hk.1.2) (.slice none 0 0); have h4_ := Kd.S_far (p := ⟨Ad, 6, none⟩) h3_ (fun _ hk => hk.1.2) (.int .i64 a1); have h5_ := Kd.S_far (p := ⟨Ad, 5, none⟩) h4_ (fun _ hk => hk.1.2) (.int .i64 ji57); exact Kd.S_mono (Sf7 (g := Ah) (h5_) (fun _ hk => hk.2)) (fun _ hk => trivial), pE2 HB.out Af.out Ag.out⟩
     subst c34
     have H1 : (if 0 ≤ (wrap64 (a1 - a0_0)) then (if (wrap64 (a1 - a0_0)) ≤ (l0_2.length : Int) then ((raft_owns.f kj28 (l0_2.drop ((wrap64 (a1 - a0_0)) : Int).toNat)).bind fun t277 => (if a0_3 < a2 then (some (a1, a2, t277, a2, 0, mn (mx a0_5 a1) (wrap64 (a1 + (t277.length : Int))), a1, 0)) else (some (a1, a2, t277, a0_3, a0_4, mn (mx a0_5 a1) (wrap64 (a1 + (t277.length : Int))), a1, 0)))) else (none)) else (none)) = some (r1, r2, r3, r4, r5, r6, r7, r8) := by rw [if_pos rfl] at H; exact H
     clear H
     have H := H1
     clear H1
     obtain ⟨ji35, hji35⟩ : ∃ j_ : Int, (wrap64 (a1 - a0_0)) = j_ := ⟨_, rfl⟩
     replace H : (if 0 ≤ (ji35) then (if (ji35) ≤ (l0_2.length : Int) then ((raft_owns.f kj28 (l0_2.drop ((ji35) : Int).toNat)).bind fun t277 => (if a0_3 < a2 then (some (a1, a2, t277, a2, 0, mn (mx a0_5 a1) (wrap64 (a1 + (t277.length : Int))), a1, 0)) else (some (a1, a2, t277, a0_3, a0_4, mn (mx a0_5 a1) (wrap64 (a1 + (t277.length : Int))), a1, 0)))) else (none)) else (none)) = some (r1, r2, r3, r4, r5, r6, r7, r8) := by first | (rw [hji35] at H; exact H) | (simp only [hji35] at H ⊢; exact H)
     have hji35w : (IntKind.i64.wrap (a1 - a0_0)) = ji35 := (i64_w _).trans hji35
     by_cases c36 : 0 ≤ (ji35)
     rotate_left
     ·rw [if_neg c36] at H
      exact absurd H (by simp)
     rw [if_pos c36] at H
     have c36b0 := eq_true c36
     have c36b1 : decide (0 ≤ (ji35)) = true := decide_eq_true c36
     clear c36
     by_cases c37 : (ji35) ≤ (l0_2.length : Int)
     rotate_left
     ·rw [if_neg c37] at H
      exact absurd H (by simp)
     rw [if_pos c37] at H
     have c37b0 := eq_true c37
     have c37b1 : decide ((ji35) ≤ (l0_2.length : Int)) = true := decide_eq_true c37
     clear c37
     obtain ⟨y273, hy273⟩ : ∃ y_ : List (S55), y_ = (l0_2.drop ((ji35) : Int).toNat) := ⟨_, rfl⟩
     replace H : ((raft_owns.f kj28 y273).bind fun t277 => (if a0_3 < a2 then (some (a1, a2, t277, a2, 0, mn (mx a0_5 a1) (wrap64 (a1 + (t277.length : Int))), a1, 0)) else (some (a1, a2, t277, a0_3, a0_4, mn (mx a0_5 a1) (wrap64 (a1 + (t277.length : Int))), a1, 0)))) = some (r1, r2, r3, r4, r5, r6, r7, r8) := by first | (rw [hy273]; with_reducible exact H) | (have H2_ := (Option.bind_some _ _).symm.trans H; rw [hy273]; with_reducible exact H2_) | (have H2_ := (Option.bind_some _ _).symm.trans H; with_reducible exact H2_) | with_reducible exact H | (rw [hy273]; exact H) | exact H
     have Ny273 := Am hy273
     clear hy273
     replace H := Option.bind_eq_some_iff.mp H
     obtain ⟨t277, A380, H⟩ := H
     replace H : (if a0_3 < a2 then (some (a1, a2, t277, a2, 0, mn (mx a0_5 a1) (wrap64 (a1 + (t277.length : Int))), a1, 0)) else (some (a1, a2, t277, a0_3, a0_4, mn (mx a0_5 a1) (wrap64 (a1 + (t277.length : Int))), a1, 0))) = some (r1, r2, r3, r4, r5, r6, r7, r8) := H
     have A38 := Am A380
     clear A380
     obtain ⟨ji39, hji39⟩ : ∃ j_ : Int, (mx a0_5 a1) = j_ := ⟨_, rfl⟩
     replace H : (if a0_3 < a2 then (some (a1, a2, t277, a2, 0, mn (ji39) (wrap64 (a1 + (t277.length : Int))), a1, 0)) else (some (a1, a2, t277, a0_3, a0_4, mn (ji39) (wrap64 (a1 + (t277.length : Int))), a1, 0))) = some (r1, r2, r3, r4, r5, r6, r7, r8) := by first | (rw [hji39] at H; exact H) | (simp only [hji39] at H ⊢; exact H)
     (try rw [hji39] at A38)
     have hji39_ : (if a0_5 < a1 then a1 else a0_5) = ji39 := hji39
     obtain ⟨ji40, hji40⟩ : ∃ j_ : Int, (mn (ji39) (wrap64 (a1 + (t277.length : Int)))) = j_ := ⟨_, rfl⟩
     replace H : (if a0_3 < a2 then (some (a1, a2, t277, a2, 0, ji40, a1, 0)) else (some (a1, a2, t277, a0_3, a0_4, ji40, a1, 0))) = some (r1, r2, r3, r4, r5, r6, r7, r8) := by first | (rw [hji40] at H; exact H) | (simp only [hji40] at H ⊢; exact H)
     (try rw [hji40] at A38)
     have hji40_ : (if (wrap64 (a1 + (t277.length : Int))) < (ji39) then (wrap64 (a1 + (t277.length : Int))) else (ji39)) = ji40 := hji40
     by_cases c41 : a0_3 < a2
     ·rw [if_pos c41] at H
      have c41b0 : decide (a0_3 < a2) = true := decide_eq_true c41
      clear c41
      simp only [Option.some.injEq, Prod.mk.injEq] at H
      obtain ⟨rfl, rfl, rfl, rfl, rfl, rfl, rfl, rfl⟩ := H
      have hnb42 := Ae.out
      have hnc42 := Ac.out
      obtain ⟨_, _, _, _, _, _, _⟩ := bc7 Aa.out
      obtain ⟨_, _, _, _, _, _, _⟩ := bf7 Aa.out
      have q44 : ((ji35) : Int) ≤ ((l0_2.length : Int) : Int) := of_decide_eq_true pS
      obtain ⟨i044, hi044, _, Dn, _⟩ := info_parts info55
      have Ao : l0_2.length ≤ c0_2 := Al.out
      have Dr : Kd.C k55 _ A0_2 l0_2.length l0_2 := Ak.out
      have q044 : (0 : Int) ≤ ((ji35) : Int) := of_decide_eq_true pS
      have Dp := cut_from (P := Try.prog) 22 55 .i64 Try.underlying22 hi044 10 Dn A0_2 l0_2.length c0_2 (ji35) q044 q44
      have B1 := Kd.C_drop (m := ((ji35) : Int).toNat) (c := c0_2) Dr (by omega) Ao
      obtain ⟨A44, hA44⟩ : ∃ AX_, AX_ = (if c0_2 = ((ji35) : Int).toNat then A0_2 else (A0_2 : Option Addr).map (·.add (((ji35) : Int).toNat * 10))) := ⟨_, rfl⟩
      obtain ⟨c44, hc44⟩ : ∃ cX_, cX_ = c0_2 - ((ji35) : Int).toNat := ⟨_, rfl⟩
      have hy44 : y273.length = l0_2.length - ((ji35) : Int).toNat := (by rw [Ny273.out, List.length_drop] <;> omega)
      rw [show (l0_2).drop ((ji35) : Int).toNat = y273 from Ny273.out.symm] at B1
      replace B1 : Kd.C k55 _ A44 y273.length y273 := (by rw [hA44]; exact B1)
      rw [← hy44, ← hA44, ← hc44] at Dp
      have HR276 := Am B1
      have HC276 := Am (show y273.length ≤ c44 from by rw [hy44, hc44]; exact Nat.sub_le_sub_right Ao _)
      clear B1 Dr Ao hi044 Dn hc44
      have KY44 := Am hy44
      have KA44 := Am hA44
      clear hy44 hA44
      replace q44 := eq_true q44
      go_wp2_with (first | ((with_reducible refine gate_callee (f := 23) rfl ?_); refine goesL_ (some 52) rfl rfl Try.func23 (by kernel_rfl) rfl #[.slice A44 y273.length c44] rfl pL ?_; (with_reducible refine (raft_owns.calls kj28 _ _ y273 t277 _ ?Ai ?Aj A38.out).mono ?_); (case Ai => exact pC (Kd.C_below HR276.out HB.out)); (case Aj => exact HC276.out); rintro e w45 ⟨v278, rfl, ho0, hb⟩; refine ⟨_, rfl, ?_⟩; have Ar := Am (Kd.S_lower (Kd.S_new' ho0 (Kd.S_lt (by (with_reducible repeat (first | apply Kd.S_alloc | apply Kd.S_drewN | apply Kd.S_drew)); exact Aq.out))) (below_size (pE2 HB.out Af.out Ag.out))); replace Aq := Am (Kd.S_elder' (by (with_reducible repeat (first | apply Kd.S_alloc | apply Kd.S_drewN | apply Kd.S_drew)); exact Aq.out) (Kd.S_base ho0) hb); replace Aa := kBa Aa hb; replace Ab := kBa Ab hb; replace HB := Am (below_step (pE2 HB.out Af.out Ag.out) hb); (try clear hb); (try clear hb2); (try clear hk); (try clear hi); (try clear ho0); obtain ⟨_, _, _, _, _, _, _⟩ := bc7 Aa.out; obtain ⟨_, _, _, _, _, _, _⟩ := bf7 Aa.out; obtain ⟨Ds, Dt, Dz⟩ := Kd.S_slice Ar.out; subst Dz; obtain ⟨_, _, _, _, _, _, _⟩ := bc7 Ab.out; obtain ⟨_, _, _, _, _, _, _⟩ := bf7 Ab.out))
      refine bodyPost_ret (results_ct rfl _ _ Ah 26 #[.int .i64 a1, .int .i64 a2, .slice Ds t277.length Dt, .int .i64 a2, .int .i64 0, .int .i64 ji40, .int .i64 a1] (0, 0) _ rfl (kX1 Ab.out Ac.out) Try.underlying26 rfl (by kernel_rfl)) rfl ?_
      exact ⟨_, by first | rfl | (simp [errW_none, errW_some] <;> rfl) | (simp only [← hji35, ← hji39, ← hji40]; first | rfl | (simp [errW_none, errW_some] <;> rfl)) | (simp [*, errW_none, errW_some] <;> rfl), by (with_reducible repeat (first | apply Kd.S_alloc | apply Kd.S_drewN | apply Kd.S_drew)); have h0_ := Kd.S_types (Kd.S_types Ar.out Aa.out (by decide)) Ab.out (by decide); have h1_ := Kd.S_far (p := ⟨Ad, 0, none⟩) h0_ (fun _ hk => hk.1.2) (.int .i64 a1); have h2_ := Kd.S_far (p := ⟨Ad, 1, none⟩) h1_ (fun _ hk => hk.1.2) (.int .i64 a2); have h3_ := Kd.S_far (p := ⟨Ad, 2, none⟩) h2_ (fun _ hk => hk.1.2) (.slice Ds t277.length Dt); have h4_ := Kd.S_far (p := ⟨Ad, 6, none⟩) h3_ (fun _ hk => hk.1.2) (.int .i64 a1); have h5_ := Kd.S_far (p := ⟨Ad, 5, none⟩) h4_ (fun _ hk => hk.1.2) (.int .i64 ji40); have h6_ := Kd.S_far (p := ⟨Ad, 3, none⟩) h5_ (fun _ hk => hk.1.2) (.int .i64 a2); have h7_ := Kd.S_far (p := ⟨Ad, 4, none⟩) h6_ (fun _ hk => hk.1.2) (.int .i64 0); exact Kd.S_mono (Sf7 (g := Ah) (h7_) (fun _ hk => hk.2)) (fun _ hk => trivial), pE2 HB.out Af.out Ag.out⟩
     rw [if_neg c41] at H
     have c41b0 : decide (a0_3 < a2) = false := decide_eq_false c41
     clear c41
     simp only [Option.some.injEq, Prod.mk.injEq] at H
     obtain ⟨rfl, rfl, rfl, rfl, rfl, rfl, rfl, rfl⟩ := H
     have hnb49 := Ae.out
     have hnc49 := Ac.out
     obtain ⟨_, _, _, _, _, _, _⟩ := bc7 Aa.out
     obtain ⟨_, _, _, _, _, _, _⟩ := bf7 Aa.out
     have q51 : ((ji35) : Int) ≤ ((l0_2.length : Int) : Int) := of_decide_eq_true pS
     obtain ⟨i051, hi051, _, Do, _⟩ := info_parts info55
     have Ap : l0_2.length ≤ c0_2 := Al.out
     have Du : Kd.C k55 _ A0_2 l0_2.length l0_2 := Ak.out
     have q051 : (0 : Int) ≤ ((ji35) : Int) := of_decide_eq_true pS
     have Dq := cut_from (P := Try.prog) 22 55 .i64 Try.underlying22 hi051 10 Do A0_2 l0_2.length c0_2 (ji35) q051 q51
     have B2 := Kd.C_drop (m := ((ji35) : Int).toNat) (c := c0_2) Du (by omega) Ap
     obtain ⟨A51, hA51⟩ : ∃ AX_, AX_ = (if c0_2 = ((ji35) : Int).toNat then A0_2 else (A0_2 : Option Addr).map (·.add (((ji35) : Int).toNat * 10))) := ⟨_, rfl⟩
     obtain ⟨c51, hc51⟩ : ∃ cX_, cX_ = c0_2 - ((ji35) : Int).toNat := ⟨_, rfl⟩
     have hy51 : y273.length = l0_2.length - ((ji35) : Int).toNat := (by rw [Ny273.out, List.length_drop] <;> omega)
     rw [show (l0_2).drop ((ji35) : Int).toNat = y273 from Ny273.out.symm] at B2
     replace B2 : Kd.C k55 _ A51 y273.length y273 := (by rw [hA51]; exact B2)
     rw [← hy51, ← hA51, ← hc51] at Dq
     have HR276 := Am B2
     have HC276 := Am (show y273.length ≤ c51 from by rw [hy51, hc51]; exact Nat.sub_le_sub_right Ap _)
     clear B2 Du Ap hi051 Do hc51
     have KY51 := Am hy51
     have KA51 := Am hA51
     clear hy51 hA51
     replace q51 := eq_true q51
     go_wp2_with (first | ((with_reducible refine gate_callee (f := 23) rfl ?_); refine goesL_ (some 52) rfl rfl Try.func23 (by kernel_rfl) rfl #[.slice A51 y273.length c51] rfl pL ?_; (with_reducible refine (raft_owns.calls kj28 _ _ y273 t277 _ ?Ai ?Aj A38.out).mono ?_); (case Ai => exact pC (Kd.C_below HR276.out HB.out)); (case Aj => exact HC276.out); rintro e w52 ⟨v278, rfl, ho0, hb⟩; refine ⟨_, rfl, ?_⟩; have Ar := Am (Kd.S_lower (Kd.S_new' ho0 (Kd.S_lt (by (with_reducible repeat (first | apply Kd.S_alloc | apply Kd.S_drewN | apply Kd.S_drew)); exact Aq.out))) (below_size (pE2 HB.out Af.out Ag.out))); replace Aq := Am (Kd.S_elder' (by (with_reducible repeat (first | apply Kd.S_alloc | apply Kd.S_drewN | apply Kd.S_drew)); exact Aq.out) (Kd.S_base ho0) hb); replace Aa := kBa Aa hb; replace Ab := kBa Ab hb; replace HB := Am (below_step (pE2 HB.out Af.out Ag.out) hb); (try clear hb); (try clear hb2); (try clear hk); (try clear hi); (try clear ho0); obtain ⟨_, _, _, _, _, _, _⟩ := bc7 Aa.out; obtain ⟨_, _, _, _, _, _, _⟩ := bf7 Aa.out; obtain ⟨Dv, Dw, D0⟩ := Kd.S_slice Ar.out; subst D0; obtain ⟨_, _, _, _, _, _, _⟩ := bc7 Ab.out; obtain ⟨_, _, _, _, _, _, _⟩ := bf7 Ab.out))
     refine bodyPost_ret (results_ct rfl _ _ Ah 26 #[.int .i64 a1, .int .i64 a2, .slice Dv t277.length Dw, .int .i64 a0_3, .int .i64 a0_4, .int .i64 ji40, .int .i64 a1] (0, 0) _ rfl (kX1 Ab.out Ac.out) Try.underlying26 rfl (by kernel_rfl)) rfl ?_
     exact ⟨_, by first | rfl | (simp [errW_none, errW_some] <;> rfl) | (simp only [← hji35, ← hji39, ← hji40]; first | rfl | (simp [errW_none, errW_some] <;> rfl)) | (simp [*, errW_none, errW_some] <;> rfl), by (with_reducible repeat (first | apply Kd.S_alloc | apply Kd.S_drewN | apply Kd.S_drew)); have h0_ := Kd.S_types (Kd.S_types Ar.out Aa.out (by decide)) Ab.out (by decide); have h1_ := Kd.S_far (p := ⟨Ad, 0, none⟩) h0_ (fun _ hk => hk.1.2) (.int .i64 a1); have h2_ := Kd.S_far (p := ⟨Ad, 1, none⟩) h1_ (fun _ hk => hk.1.2) (.int .i64 a2); have h3_ := Kd.S_far (p := ⟨Ad, 2, none⟩) h2_ (fun _ hk => hk.1.2) (.slice Dv t277.length Dw); have h4_ := Kd.S_far (p := ⟨Ad, 6, none⟩) h3_ (fun _ hk => hk.1.2) (.int .i64 a1); have h5_ := Kd.S_far (p := ⟨Ad, 5, none⟩) h4_ (fun _ hk => hk.1.2) (.int .i64 ji40); exact Kd.S_mono (Sf7 (g := Ah) (h5_) (fun _ hk => hk.2)) (fun _ hk => trivial), pE2 HB.out Af.out Ag.out⟩
def garnerref23_counts.f (a0 : Int) : Option (Bool) := if a0 ≥ 1 then (some (decide (a0 ≤ 2147483647))) else (some false)
set_option maxHeartbeats 8000000 in
set_option maxRecDepth 100000 in
theorem garnerref23_counts.calls (a0 : Int) (r : Bool) (w : World) (h : garnerref23_counts.f a0 = some r) :
  Calls Try.prog 31 #[.int .i64 a0] w fun e w' => e = .returned (.bool r) ∧ Drawn0 w w' := by
 have H : (if a0 ≥ 1 then (some (decide (a0 ≤ 2147483647))) else (some false)) = some r := h
 clear h
 by_cases c2 : a0 ≥ 1
 ·rw [if_pos c2] at H
  have c2b0 : decide (1 ≤ a0) = true := decide_eq_true c2
  clear c2
  obtain rfl := Option.some.inj H
  go_enter Try.func31, Try.ntmps31
  go_wp2
  go_ret
  exact ⟨by first | rfl | (simp; done) | (simp [*]; done), by repeat (first | exact Drawn0.refl _ | apply Drawn0.step)⟩
 rw [if_neg c2] at H
 have c2b0 : decide (1 ≤ a0) = false := decide_eq_false c2
 clear c2
 obtain rfl := Option.some.inj H
 go_enter Try.func31, Try.ntmps31
 go_wp2
 go_ret
 exact ⟨by first | rfl | (simp; done) | (simp [*]; done), by repeat (first | exact Drawn0.refl _ | apply Drawn0.step)⟩
end Go.Proofs.Ytangfpcifdpfeaa.PRaftTurns
