/- What the law reaches, as plain Lean functions, and that the machine's calls answer just that. -/
import Derived.Test.YtangfpcifdpfeaaPRaftTurnsx0
import Derived.Test.YtangfpcifdpfeaaPRaftTurnsx11
namespace Go.Proofs.Ytangfpcifdpfeaa.PRaftTurns
open Go.RowKit Go.Proofs.YtangfpcifdpfeaaW.PrintWords Go.Proofs.YtangfpcifdpfeaaW.PrintLast Go.Proofs.YtangfpcifdpfeaaW.PrintMore
attribute [local go_sem] max2_int min2_int max_two min_two max_three min_three max_four min_four
set_option linter.unusedVariables false
set_option linter.unusedSimpArgs false
attribute [local go_sem] wrap64_l1 wrap64_l2 wrap64_l3 wrap64_l4 wrap64_l5
def garnerref22_Follows.f (a0_0 : Int) (a0_1 : Int) (a0_2 : Int) (a1_0 : Int) (a1_1 : Int) (a1_2 : Int) : Option (Bool) := if a1_0 < a0_0 then (some false) else (if a1_2 < a0_2 then (some false) else (if a1_0 > a0_0 then (some true) else (if a0_1 = 0 then (some true) else (some (a1_1 == a0_1)))))
set_option maxHeartbeats 8000000 in
set_option maxRecDepth 100000 in
theorem garnerref22_Follows.calls (a0_0 : Int) (a0_1 : Int) (a0_2 : Int) (a1_0 : Int) (a1_1 : Int) (a1_2 : Int) (r : Bool) (w : World) (h : garnerref22_Follows.f a0_0 a0_1 a0_2 a1_0 a1_1 a1_2 = some r) :
  Calls Try.prog 37 #[.agg #[.int .i64 a0_0, .int .i64 a0_1, .int .i64 a0_2], .agg #[.int .i64 a1_0, .int .i64 a1_1, .int .i64 a1_2]] w fun e w' => e = .returned (.bool r) ∧ Below w.heap.size w w' := by
 have hu24 := Try.underlying24
 have HB := Am (Below.refl w.heap.size w)
 have H : (if a1_0 < a0_0 then (some false) else (if a1_2 < a0_2 then (some false) else (if a1_0 > a0_0 then (some true) else (if a0_1 = 0 then (some true) else (some (a1_1 == a0_1)))))) = some r := h
 clear h
 by_cases c3 : a1_0 < a0_0
 ·rw [if_pos c3] at H
  have c3b0 : decide (a1_0 < a0_0) = true := decide_eq_true c3
  clear c3
  obtain rfl := Option.some.inj H
  go_enter Try.func37, Try.ntmps37
  go_wp2_with (first | ((with_reducible refine gate_dst (N := 2) rfl ?_); refine box_event ?hg (N := 2) ?hd (cs := #[.int .i64 a0_0, .int .i64 a0_1, .int .i64 a0_2]) (t := 24) ?hr ?_; (case hd => rfl); (case hg => rfl); (case hr => first | (go_simp; done) | (go_simp; rfl)); intro Ad hg w4 hbox hb; have Aa := Am (hbox); have Ah := Am ((by rw [hg]; exact (below_size (pB HB.out)) : w.heap.size ≤ Ad)); replace HB := Am (below_step (pB HB.out) hb); have Ae := Ah; clear hb hbox hg) | ((with_reducible refine gate_dst (N := 3) rfl ?_); refine box_event ?hg (N := 3) ?hd (cs := #[.int .i64 a1_0, .int .i64 a1_1, .int .i64 a1_2]) (t := 24) ?hr ?_; (case hd => rfl); (case hg => rfl); (case hr => first | (go_simp; done) | (go_simp; rfl)); intro Af hg w5 hbox hb; have Ag := Am (hbox); have Ai := Am ((by rw [hg]; exact (below_size (pE HB.out Ae.out)) : w.heap.size ≤ Af)); replace HB := Am (below_step (pE HB.out Ae.out) hb); have Aj := Ai; have Ab := Am ((by rw [hg]; exact Nat.ne_of_lt (kL Aa.out) : Ad ≠ Af)); have Ac := Am ((by rw [hg]; exact Nat.ne_of_gt (kL Aa.out) : Af ≠ Ad)); replace Aa := kBa Aa hb; clear hb hbox hg; have hnb6 := Ac.out; have hnc6 := Ab.out; obtain ⟨_, _, _⟩ := bc3 Ag.out; obtain ⟨_, _, _⟩ := bf3 Ag.out; obtain ⟨_, _, _⟩ := bc3 Aa.out; obtain ⟨_, _, _⟩ := bf3 Aa.out))
  go_ret
  exact ⟨pX, pE2 HB.out Ae.out Aj.out⟩
 rw [if_neg c3] at H
 have c3b0 : decide (a1_0 < a0_0) = false := decide_eq_false c3
 clear c3
 by_cases c9 : a1_2 < a0_2
 ·rw [if_pos c9] at H
  have c9b0 : decide (a1_2 < a0_2) = true := decide_eq_true c9
  clear c9
  obtain rfl := Option.some.inj H
  go_enter Try.func37, Try.ntmps37
  go_wp2_with (first | ((with_reducible refine gate_dst (N := 2) rfl ?_); refine box_event ?hg (N := 2) ?hd (cs := #[.int .i64 a0_0, .int .i64 a0_1, .int .i64 a0_2]) (t := 24) ?hr ?_; (case hd => rfl); (case hg => rfl); (case hr => first | (go_simp; done) | (go_simp; rfl)); intro Ad hg w10 hbox hb; have Aa := Am (hbox); have Ah := Am ((by rw [hg]; exact (below_size (pB HB.out)) : w.heap.size ≤ Ad)); replace HB := Am (below_step (pB HB.out) hb); have Ae := Ah; clear hb hbox hg) | ((with_reducible refine gate_dst (N := 3) rfl ?_); refine box_event ?hg (N := 3) ?hd (cs := #[.int .i64 a1_0, .int .i64 a1_1, .int .i64 a1_2]) (t := 24) ?hr ?_; (case hd => rfl); (case hg => rfl); (case hr => first | (go_simp; done) | (go_simp; rfl)); intro Af hg w11 hbox hb; have Ag := Am (hbox); have Ai := Am ((by rw [hg]; exact (below_size (pE HB.out Ae.out)) : w.heap.size ≤ Af)); replace HB := Am (below_step (pE HB.out Ae.out) hb); have Aj := Ai; have Ab := Am ((by rw [hg]; exact Nat.ne_of_lt (kL Aa.out) : Ad ≠ Af)); have Ac := Am ((by rw [hg]; exact Nat.ne_of_gt (kL Aa.out) : Af ≠ Ad)); replace Aa := kBa Aa hb; clear hb hbox hg; have hnb12 := Ac.out; have hnc12 := Ab.out; obtain ⟨_, _, _⟩ := bc3 Ag.out; obtain ⟨_, _, _⟩ := bf3 Ag.out; obtain ⟨_, _, _⟩ := bc3 Aa.out; obtain ⟨_, _, _⟩ := bf3 Aa.out))
  go_ret
  exact ⟨pX, pE2 HB.out Ae.out Aj.out⟩
 rw [if_neg c9] at H
 have c9b0 : decide (a1_2 < a0_2) = false := decide_eq_false c9
 clear c9
 by_cases c15 : a1_0 > a0_0
 ·rw [if_pos c15] at H
  have c15b0 : decide (a0_0 < a1_0) = true := decide_eq_true c15
  clear c15
  obtain rfl := Option.some.inj H
  go_enter Try.func37, Try.ntmps37
  go_wp2_with (first | ((with_reducible refine gate_dst (N := 2) rfl ?_); refine box_event ?hg (N := 2) ?hd (cs := #[.int .i64 a0_0, .int .i64 a0_1, .int .i64 a0_2]) (t := 24) ?hr ?_; (case hd => rfl); (case hg => rfl); (case hr => first | (go_simp; done) | (go_simp; rfl)); intro Ad hg w16 hbox hb; have Aa := Am (hbox); have Ah := Am ((by rw [hg]; exact (below_size (pB HB.out)) : w.heap.size ≤ Ad)); replace HB := Am (below_step (pB HB.out) hb); have Ae := Ah; clear hb hbox hg) | ((with_reducible refine gate_dst (N := 3) rfl ?_); refine box_event ?hg (N := 3) ?hd (cs := #[.int .i64 a1_0, .int .i64 a1_1, .int .i64 a1_2]) (t := 24) ?hr ?_; (case hd => rfl); (case hg => rfl); (case hr => first | (go_simp; done) | (go_simp; rfl)); intro Af hg w17 hbox hb; have Ag := Am (hbox); have Ai := Am ((by rw [hg]; exact (below_size (pE HB.out Ae.out)) : w.heap.size ≤ Af)); replace HB := Am (below_step (pE HB.out Ae.out) hb); have Aj := Ai; have Ab := Am ((by rw [hg]; exact Nat.ne_of_lt (kL Aa.out) : Ad ≠ Af)); have Ac := Am ((by rw [hg]; exact Nat.ne_of_gt (kL Aa.out) : Af ≠ Ad)); replace Aa := kBa Aa hb; clear hb hbox hg; have hnb18 := Ac.out; have hnc18 := Ab.out; obtain ⟨_, _, _⟩ := bc3 Ag.out; obtain ⟨_, _, _⟩ := bf3 Ag.out; obtain ⟨_, _, _⟩ := bc3 Aa.out; obtain ⟨_, _, _⟩ := bf3 Aa.out))
  go_ret
  exact ⟨pX, pE2 HB.out Ae.out Aj.out⟩
 rw [if_neg c15] at H
 have c15b0 : decide (a0_0 < a1_0) = false := decide_eq_false c15
 clear c15
 by_cases c21 : a0_1 = 0
 ·rw [if_pos c21] at H
  have c21b0 : (a0_1 == 0) = true := beq_iff_eq.mpr c21
  have c21b1 : (a0_1 != 0) = false := bne_eq_false_iff_eq.mpr c21
  clear c21
  obtain rfl := Option.some.inj H
  go_enter Try.func37, Try.ntmps37
  go_wp2_with (first | ((with_reducible refine gate_dst (N := 2) rfl ?_); refine box_event ?hg (N := 2) ?hd (cs := #[.int .i64 a0_0, .int .i64 a0_1, .int .i64 a0_2]) (t := 24) ?hr ?_; (case hd => rfl); (case hg => rfl); (case hr => first | (go_simp; done) | (go_simp; rfl)); intro Ad hg w22 hbox hb; have Aa := Am (hbox); have Ah := Am ((by rw [hg]; exact (below_size (pB HB.out)) : w.heap.size ≤ Ad)); replace HB := Am (below_step (pB HB.out) hb); have Ae := Ah; clear hb hbox hg) | ((with_reducible refine gate_dst (N := 3) rfl ?_); refine box_event ?hg (N := 3) ?hd (cs := #[.int .i64 a1_0, .int .i64 a1_1, .int .i64 a1_2]) (t := 24) ?hr ?_; (case hd => rfl); (case hg => rfl); (case hr => first | (go_simp; done) | (go_simp; rfl)); intro Af hg w23 hbox hb; have Ag := Am (hbox); have Ai := Am ((by rw [hg]; exact (below_size (pE HB.out Ae.out)) : w.heap.size ≤ Af)); replace HB := Am (below_step (pE HB.out Ae.out) hb); have Aj := Ai; have Ab := Am ((by rw [hg]; exact Nat.ne_of_lt (kL Aa.out) : Ad ≠ Af)); have Ac := Am ((by rw [hg]; exact Nat.ne_of_gt (kL Aa.out) : Af ≠ Ad)); replace Aa := kBa Aa hb; clear hb hbox hg; have hnb24 := Ac.out; have hnc24 := Ab.out; obtain ⟨_, _, _⟩ := bc3 Ag.out; obtain ⟨_, _, _⟩ := bf3 Ag.out; obtain ⟨_, _, _⟩ := bc3 Aa.out; obtain ⟨_, _, _⟩ := bf3 Aa.out))
  go_ret
  exact ⟨pX, pE2 HB.out Ae.out Aj.out⟩
 rw [if_neg c21] at H
 have c21b0 : (a0_1 == 0) = false := beq_eq_false_iff_ne.mpr c21
 have c21b1 : (a0_1 != 0) = true := bne_iff_ne.mpr c21
 obtain rfl := Option.some.inj H
 go_enter Try.func37, Try.ntmps37
 go_wp2_with (first | ((with_reducible refine gate_dst (N := 2) rfl ?_); refine box_event ?hg (N := 2) ?hd (cs := #[.int .i64 a0_0, .int .i64 a0_1, .int .i64 a0_2]) (t := 24) ?hr ?_; (case hd => rfl); (case hg => rfl); (case hr => first | (go_simp; done) | (go_simp; rfl)); intro Ad hg w27 hbox hb; have Aa := Am (hbox); have Ah := Am ((by rw [hg]; exact (below_size (pB HB.out)) : w.heap.size ≤ Ad)); replace HB := Am (below_step (pB HB.out) hb); have Ae := Ah; clear hb hbox hg) | ((with_reducible refine gate_dst (N := 3) rfl ?_); refine box_event ?hg (N := 3) ?hd (cs := #[.int .i64 a1_0, .int .i64 a1_1, .int .i64 a1_2]) (t := 24) ?hr ?_; (case hd => rfl); (case hg => rfl); (case hr => first | (go_simp; done) | (go_simp; rfl)); intro Af hg w28 hbox hb; have Ag := Am (hbox); have Ai := Am ((by rw [hg]; exact (below_size (pE HB.out Ae.out)) : w.heap.size ≤ Af)); replace HB := Am (below_step (pE HB.out Ae.out) hb); have Aj := Ai; have Ab := Am ((by rw [hg]; exact Nat.ne_of_lt (kL Aa.out) : Ad ≠ Af)); have Ac := Am ((by rw [hg]; exact Nat.ne_of_gt (kL Aa.out) : Af ≠ Ad)); replace Aa := kBa Aa hb; clear hb hbox hg; have hnb29 := Ac.out; have hnc29 := Ab.out; obtain ⟨_, _, _⟩ := bc3 Ag.out; obtain ⟨_, _, _⟩ := bf3 Ag.out; obtain ⟨_, _, _⟩ := bc3 Aa.out; obtain ⟨_, _, _⟩ := bf3 Aa.out))
 go_ret
 exact ⟨pX, pE2 HB.out Ae.out Aj.out⟩
def garnerref22_Step.j0 : Nat → Int → Bool → Int → Int → Int → Int → Int → Int → Option (Int)
 | 0, _, _, _, _, _, _, _, _ => none
 | k + 1, x2, x14, x317000, x317001, x317002, x318000, x318001, x318002 => if x14 = true then (some 1) else ((garnerref22_Follows.f x317000 x317001 x317002 x318000 x318001 x318002).bind fun t320 => (if t320 = true then (if x318002 > x2 then (some 3) else (some 0)) else (some 4)))
def garnerref22_Step.f (k : Nat) (a0_0 : Int) (a0_1 : Int) (a0_2 : Int) (a1_0 : Int) (a1_1 : Int) (a1_2 : Int) (a2 : Int) : Option (Int) := (garnerref22_May.f a0_0 a0_1 a0_2).bind fun t318 => (if t318 = true then ((garnerref22_May.f a1_0 a1_1 a1_2).bind fun t319 => (garnerref22_Step.j0 k a2 (!t319) a0_0 a0_1 a0_2 a1_0 a1_1 a1_2)) else (garnerref22_Step.j0 k a2 true a0_0 a0_1 a0_2 a1_0 a1_1 a1_2))
theorem garnerref22_Step.mono_l : ∀ k, (∀ y0 y1 y2 y3 y4 y5 y6 y7, LeO (garnerref22_Step.j0 k y0 y1 y2 y3 y4 y5 y6 y7) (garnerref22_Step.j0 (k + 1) y0 y1 y2 y3 y4 y5 y6 y7))
 | 0 => fun _ _ _ _ _ _ _ _ r h => by simp [garnerref22_Step.j0] at h
 | k + 1 => by
  have ih0 := garnerref22_Step.mono_l k
  ·intro y0 y1 y2 y3 y4 y5 y6 y7
   unfold garnerref22_Step.j0
   repeat' first
   | (with_reducible exact ih0 _ _ _ _ _ _ _ _)
   | (with_reducible exact LeO.refl _)
   | (with_reducible exact LeO.none _)
   | (with_reducible refine LeO.ite ?_ ?_)
   | (with_reducible refine LeO.bind ?_ (fun _ => ?_))
   | exact ih0 _ _ _ _ _ _ _ _
   | exact LeO.none _
   | refine LeO.ite ?_ ?_
   | refine LeO.bind ?_ (fun _ => ?_)
theorem garnerref22_Step.mono : ∀ a0 a1 a2 a3 a4 a5 a6 k, LeO (garnerref22_Step.f k a0 a1 a2 a3 a4 a5 a6) (garnerref22_Step.f (k + 1) a0 a1 a2 a3 a4 a5 a6) := by
 intro a0 a1 a2 a3 a4 a5 a6 k
 have ih0 := garnerref22_Step.mono_l k
 unfold garnerref22_Step.f
 repeat' first
   | (with_reducible exact ih0 _ _ _ _ _ _ _ _)
   | (with_reducible exact LeO.refl _)
   | (with_reducible exact LeO.none _)
   | (with_reducible refine LeO.ite ?_ ?_)
   | (with_reducible refine LeO.bind ?_ (fun _ => ?_))
   | exact ih0 _ _ _ _ _ _ _ _
   | exact LeO.none _
   | refine LeO.ite ?_ ?_
   | refine LeO.bind ?_ (fun _ => ?_)
set_option maxHeartbeats 8000000 in
set_option maxRecDepth 100000 in
theorem garnerref22_Step.calls (k : Nat) (a0_0 : Int) (a0_1 : Int) (a0_2 : Int) (a1_0 : Int) (a1_1 : Int) (a1_2 : Int) (a2 : Int) (r : Int) (w : World) (h : garnerref22_Step.f k a0_0 a0_1 a0_2 a1_0 a1_1 a1_2 a2 = some r) :
  Calls Try.prog 28 #[.agg #[.int .i64 a0_0, .int .i64 a0_1, .int .i64 a0_2], .agg #[.int .i64 a1_0, .int .i64 a1_1, .int .i64 a1_2], .int .i64 a2] w fun e w' => e = .returned (.int .i64 r) ∧ Below w.heap.size w w' := by
 have hu24 := Try.underlying24
 have HB := Am (Below.refl w.heap.size w)
 have H : ((garnerref22_May.f a0_0 a0_1 a0_2).bind fun t318 => (if t318 = true then ((garnerref22_May.f a1_0 a1_1 a1_2).bind fun t319 => (garnerref22_Step.j0 k a2 (!t319) a0_0 a0_1 a0_2 a1_0 a1_1 a1_2)) else (garnerref22_Step.j0 k a2 true a0_0 a0_1 a0_2 a1_0 a1_1 a1_2))) = some r := h
 clear h
 have HC4 := Am H
 clear H
 go_enter Try.func28, Try.ntmps28
 go_upto_region 1 with (first | ((with_reducible refine gate_dst (N := 3) rfl ?_); refine box_event ?hg (N := 3) ?hd (cs := #[.int .i64 a0_0, .int .i64 a0_1, .int .i64 a0_2]) (t := 24) ?hr ?_; (case hd => rfl); (case hg => rfl); (case hr => first | (go_simp; done) | (go_simp; rfl)); intro Ag hg w5 hbox hb; have Aa := Am (hbox); have A2 := Am ((by rw [hg]; exact (below_size (pB HB.out)) : w.heap.size ≤ Ag)); replace HB := Am (below_step (pB HB.out) hb); have Ac := A2; clear hb hbox hg) | ((with_reducible refine gate_dst (N := 4) rfl ?_); refine box_event ?hg (N := 4) ?hd (cs := #[.int .i64 a1_0, .int .i64 a1_1, .int .i64 a1_2]) (t := 24) ?hr ?_; (case hd => rfl); (case hg => rfl); (case hr => first | (go_simp; done) | (go_simp; rfl)); intro Ah hg w6 hbox hb; have Ab := Am (hbox); have A3 := Am ((by rw [hg]; exact (below_size (pE HB.out Ac.out)) : w.heap.size ≤ Ah)); replace HB := Am (below_step (pE HB.out Ac.out) hb); have Af := A3; have Ad := Am ((by rw [hg]; exact Nat.ne_of_lt (kL Aa.out) : Ag ≠ Ah)); have Ae := Am ((by rw [hg]; exact Nat.ne_of_gt (kL Aa.out) : Ah ≠ Ag)); replace Aa := kBa Aa hb; clear hb hbox hg))
 (try simp only [Act.put, List.setIfInBounds_toArray, List.set_cons_zero, List.set_cons_succ])
 go_cut [14] (fun v14 wc => ∃ (kq : Nat) (Ai : Bool), v14 = .bool Ai ∧ Aside0 (garnerref22_Step.j0 kq a2 Ai a0_0 a0_1 a0_2 a1_0 a1_1 a1_2 = some r) ∧ Aside0 (kq ≤ k) ∧ Aside0 (wc.heap[Ag]? = some (.cells #[.int .i64 a0_0, .int .i64 a0_1, .int .i64 a0_2] 24 (0, 0))) ∧ Aside0 (wc.heap[Ah]? = some (.cells #[.int .i64 a1_0, .int .i64 a1_1, .int .i64 a1_2] 24 (0, 0))) ∧ Aside0 (Below w.heap.size w wc))
 case first =>
  have H := HC4.out
  clear HC4
  replace H := Option.bind_eq_some_iff.mp H
  obtain ⟨t318, A70, H⟩ := H
  replace H : (if t318 = true then ((garnerref22_May.f a1_0 a1_1 a1_2).bind fun t319 => (garnerref22_Step.j0 k a2 (!t319) a0_0 a0_1 a0_2 a1_0 a1_1 a1_2)) else (garnerref22_Step.j0 k a2 true a0_0 a0_1 a0_2 a1_0 a1_1 a1_2)) = some r := H
  have A7 := Am A70
  clear A70
  by_cases c8 : t318 = true
  rotate_left
  ·replace c8 := Bool.eq_false_iff.mpr c8
   subst c8
   have H1 : (garnerref22_Step.j0 k a2 true a0_0 a0_1 a0_2 a1_0 a1_1 a1_2) = some r := by rw [if_neg (show ¬ (false = true) by decide)] at H; exact H
   clear H
   have H := H1
   clear H1
   have H' := Am H
   clear H
   have hnb15 := Ad.out
   have hnc15 := Ae.out
   obtain ⟨Aw, Ax, Ay⟩ := bc3 Aa.out
   obtain ⟨Az, A0, A1⟩ := bf3 Aa.out
   go_wp2_with (first | ((with_reducible refine gate_callee (f := 27) rfl ?_); refine goesL_ (some 8) rfl rfl Try.func27 (by kernel_rfl) rfl #[.agg #[.int .i64 a0_0, .int .i64 a0_1, .int .i64 a0_2]] rfl pL ?_; (with_reducible refine (garnerref22_May.calls a0_0 a0_1 a0_2 false _ A7.out).mono ?_); rintro e w17 ⟨rfl, hb⟩; refine ⟨_, rfl, ?_⟩; replace Aa := kBa Aa hb; replace Ab := kBa Ab hb; replace HB := Am (below_step (pE2 HB.out Ac.out Af.out) hb); (try clear hb); (try clear hb2); (try clear hk); (try clear hi)))
   go_meet
   case rel => exact ⟨_, (true), (by first | rfl | (simp; done) | (simp [*]; done)), H', ⟨by first | omega | exact Nat.le_refl _⟩, ⟨pK Aa.out⟩, ⟨pK Ab.out⟩, ⟨pE2 HB.out Ac.out Af.out⟩⟩
  subst c8
  have H1 : ((garnerref22_May.f a1_0 a1_1 a1_2).bind fun t319 => (garnerref22_Step.j0 k a2 (!t319) a0_0 a0_1 a0_2 a1_0 a1_1 a1_2)) = some r := by rw [if_pos rfl] at H; exact H
  clear H
  have H := H1
  clear H1
  replace H := Option.bind_eq_some_iff.mp H
  obtain ⟨t319, A90, H⟩ := H
  replace H : (garnerref22_Step.j0 k a2 (!t319) a0_0 a0_1 a0_2 a1_0 a1_1 a1_2) = some r := H
  have A9 := Am A90
  clear A90
  have H' := Am H
  clear H
  have hnb10 := Ad.out
  have hnc10 := Ae.out
  obtain ⟨Aj, Ak, Al⟩ := bc3 Aa.out
  obtain ⟨An, Ao, Ap⟩ := bf3 Aa.out
  go_wp2_with (first | ((with_reducible refine gate_callee (f := 27) rfl ?_); refine goesL_ (some 8) rfl rfl Try.func27 (by kernel_rfl) rfl #[.agg #[.int .i64 a0_0, .int .i64 a0_1, .int .i64 a0_2]] rfl pL ?_; (with_reducible refine (garnerref22_May.calls a0_0 a0_1 a0_2 true _ A7.out).mono ?_); rintro e w12 ⟨rfl, hb⟩; refine ⟨_, rfl, ?_⟩; replace Aa := kBa Aa hb; replace Ab := kBa Ab hb; replace HB := Am (below_step (pE2 HB.out Ac.out Af.out) hb); (try clear hb); (try clear hb2); (try clear hk); (try clear hi); obtain ⟨Aq, Ar, As⟩ := bc3 Ab.out; obtain ⟨At, Au, Av⟩ := bf3 Ab.out) | (go_at_call 27; (with_reducible refine (garnerref22_May.calls a1_0 a1_1 a1_2 t319 _ A9.out).mono ?_); rintro e w14 ⟨rfl, hb⟩; replace Aa := kBa Aa hb; replace Ab := kBa Ab hb; replace HB := Am (below_step (pE2 HB.out Ac.out Af.out) hb); (try clear hb); (try clear hb2); (try clear hk); (try clear hi)))
  go_meet
  case rel => exact ⟨_, (!t319), (by first | rfl | (simp; done) | (simp [*]; done)), H', ⟨by first | omega | exact Nat.le_refl _⟩, ⟨pK Aa.out⟩, ⟨pK Ab.out⟩, ⟨pE2 HB.out Ac.out Af.out⟩⟩
 case rest =>
  clear HC4
  try clear c1
  try clear c2
  try clear p2
  try clear c8
  try clear c10
  try clear c15
  try clear Aj Ak Al
  try clear Aq Ar As
  try clear Aw Ax Ay
  try clear An Ao Ap
  try clear At Au Av
  try clear Az A0 A1
  obtain ⟨kq, Ai, rfl, HA, HJ3, Aa, Ab, HB⟩ := hcut
  cases kq with
  | zero => exact absurd HA.out (by simp [garnerref22_Step.j0])
  | succ kj3 =>
   have H := HA.out
   clear HA
   simp only [garnerref22_Step.j0] at H
   by_cases c18 : Ai = true
   ·subst c18
    have H1 : (some 1) = some r := by rw [if_pos rfl] at H; exact H
    clear H
    have H := H1
    clear H1
    obtain rfl := Option.some.inj H
    go_wp2
    go_ret
    exact ⟨pX, pE2 HB.out Ac.out Af.out⟩
   replace c18 := Bool.eq_false_iff.mpr c18
   subst c18
   have H1 : ((garnerref22_Follows.f a0_0 a0_1 a0_2 a1_0 a1_1 a1_2).bind fun t320 => (if t320 = true then (if a1_2 > a2 then (some 3) else (some 0)) else (some 4))) = some r := by rw [if_neg (show ¬ (false = true) by decide)] at H; exact H
   clear H
   have H := H1
   clear H1
   replace H := Option.bind_eq_some_iff.mp H
   obtain ⟨t320, A190, H⟩ := H
   replace H : (if t320 = true then (if a1_2 > a2 then (some 3) else (some 0)) else (some 4)) = some r := H
   have A19 := Am A190
   clear A190
   by_cases c20 : t320 = true
   rotate_left
   ·replace c20 := Bool.eq_false_iff.mpr c20
    subst c20
    have H1 : (some 4) = some r := by rw [if_neg (show ¬ (false = true) by decide)] at H; exact H
    clear H
    have H := H1
    clear H1
    obtain rfl := Option.some.inj H
    have hnb32 := Ad.out
    have hnc32 := Ae.out
    obtain ⟨_, _, _⟩ := bc3 Aa.out
    obtain ⟨_, _, _⟩ := bf3 Aa.out
    obtain ⟨_, _, _⟩ := bc3 Ab.out
    obtain ⟨_, _, _⟩ := bf3 Ab.out
    go_wp2_with (first | ((with_reducible refine gate_callee (f := 37) rfl ?_); refine goesL_ (some 17) rfl rfl Try.func37 (by kernel_rfl) rfl #[.agg #[.int .i64 a0_0, .int .i64 a0_1, .int .i64 a0_2], .agg #[.int .i64 a1_0, .int .i64 a1_1, .int .i64 a1_2]] rfl pL ?_; (with_reducible refine (garnerref22_Follows.calls a0_0 a0_1 a0_2 a1_0 a1_1 a1_2 false _ A19.out).mono ?_); rintro e w35 ⟨rfl, hb⟩; refine ⟨_, rfl, ?_⟩; replace Aa := kBa Aa hb; replace Ab := kBa Ab hb; replace HB := Am (below_step (pE2 HB.out Ac.out Af.out) hb); (try clear hb); (try clear hb2); (try clear hk); (try clear hi)))
    go_ret
    exact ⟨pX, pE2 HB.out Ac.out Af.out⟩
   subst c20
   have H1 : (if a1_2 > a2 then (some 3) else (some 0)) = some r := by rw [if_pos rfl] at H; exact H
   clear H
   have H := H1
   clear H1
   by_cases c21 : a1_2 > a2
   ·rw [if_pos c21] at H
    have c21b0 : decide (a2 < a1_2) = true := decide_eq_true c21
    clear c21
    obtain rfl := Option.some.inj H
    have hnb22 := Ad.out
    have hnc22 := Ae.out
    obtain ⟨_, _, _⟩ := bc3 Aa.out
    obtain ⟨_, _, _⟩ := bf3 Aa.out
    obtain ⟨_, _, _⟩ := bc3 Ab.out
    obtain ⟨_, _, _⟩ := bf3 Ab.out
    go_wp2_with (first | ((with_reducible refine gate_callee (f := 37) rfl ?_); refine goesL_ (some 17) rfl rfl Try.func37 (by kernel_rfl) rfl #[.agg #[.int .i64 a0_0, .int .i64 a0_1, .int .i64 a0_2], .agg #[.int .i64 a1_0, .int .i64 a1_1, .int .i64 a1_2]] rfl pL ?_; (with_reducible refine (garnerref22_Follows.calls a0_0 a0_1 a0_2 a1_0 a1_1 a1_2 true _ A19.out).mono ?_); rintro e w25 ⟨rfl, hb⟩; refine ⟨_, rfl, ?_⟩; replace Aa := kBa Aa hb; replace Ab := kBa Ab hb; replace HB := Am (below_step (pE2 HB.out Ac.out Af.out) hb); (try clear hb); (try clear hb2); (try clear hk); (try clear hi); obtain ⟨_, _, _⟩ := bc3 Ab.out; obtain ⟨_, _, _⟩ := bf3 Ab.out))
    go_ret
    exact ⟨pX, pE2 HB.out Ac.out Af.out⟩
   rw [if_neg c21] at H
   have c21b0 : decide (a2 < a1_2) = false := decide_eq_false c21
   clear c21
   obtain rfl := Option.some.inj H
   have hnb27 := Ad.out
   have hnc27 := Ae.out
   obtain ⟨_, _, _⟩ := bc3 Aa.out
   obtain ⟨_, _, _⟩ := bf3 Aa.out
   obtain ⟨_, _, _⟩ := bc3 Ab.out
   obtain ⟨_, _, _⟩ := bf3 Ab.out
   go_wp2_with (first | ((with_reducible refine gate_callee (f := 37) rfl ?_); refine goesL_ (some 17) rfl rfl Try.func37 (by kernel_rfl) rfl #[.agg #[.int .i64 a0_0, .int .i64 a0_1, .int .i64 a0_2], .agg #[.int .i64 a1_0, .int .i64 a1_1, .int .i64 a1_2]] rfl pL ?_; (with_reducible refine (garnerref22_Follows.calls a0_0 a0_1 a0_2 a1_0 a1_1 a1_2 true _ A19.out).mono ?_); rintro e w30 ⟨rfl, hb⟩; refine ⟨_, rfl, ?_⟩; replace Aa := kBa Aa hb; replace Ab := kBa Ab hb; replace HB := Am (below_step (pE2 HB.out Ac.out Af.out) hb); (try clear hb); (try clear hb2); (try clear hk); (try clear hi); obtain ⟨_, _, _⟩ := bc3 Ab.out; obtain ⟨_, _, _⟩ := bf3 Ab.out))
   go_ret
   exact ⟨pX, pE2 HB.out Ac.out Af.out⟩
def garnerref23_Last.f (a0_0 : Int) (a0_1 : Int) (l0_2 : List (S55)) (a0_3 : Int) (a0_4 : Int) (a0_5 : Int) (a0_6 : Int) : Option (Int) := some (wrap64 (a0_0 + (l0_2.length : Int)))
set_option maxHeartbeats 8000000 in
set_option maxRecDepth 100000 in
theorem garnerref23_Last.calls (a0_0 : Int) (a0_1 : Int) (A0_2 : Option Addr) (c0_2 : Nat) (l0_2 : List (S55)) (a0_3 : Int) (a0_4 : Int) (a0_5 : Int) (a0_6 : Int) (r : Int) (w : World) (hr0_2 : Kd.C k55 w A0_2 l0_2.length l0_2) (hc0_2 : l0_2.length ≤ c0_2) (h : garnerref23_Last.f a0_0 a0_1 l0_2 a0_3 a0_4 a0_5 a0_6 = some r) :
  Calls Try.prog 29 #[.agg #[.int .i64 a0_0, .int .i64 a0_1, .slice A0_2 l0_2.length c0_2, .int .i64 a0_3, .int .i64 a0_4, .int .i64 a0_5, .int .i64 a0_6]] w fun e w' => e = .returned (.int .i64 r) ∧ Below w.heap.size w w' := by
 have hu26 := Try.underlying26
 have HR0_2 := Am hr0_2
 have HC0_2 := Am hc0_2
 clear hr0_2 hc0_2
 have HB := Am (Below.refl w.heap.size w)
 have H : (some (wrap64 (a0_0 + (l0_2.length : Int)))) = some r := h
 clear h
 obtain rfl := Option.some.inj H
 go_enter Try.func29, Try.ntmps29
 go_wp2_with (first | ((with_reducible refine gate_dst (N := 1) rfl ?_); refine box_event ?hg (N := 1) ?hd (cs := #[.int .i64 a0_0, .int .i64 a0_1, .slice A0_2 l0_2.length c0_2, .int .i64 a0_3, .int .i64 a0_4, .int .i64 a0_5, .int .i64 a0_6]) (t := 26) ?hr ?_; (case hd => rfl); (case hg => rfl); (case hr => first | (go_simp; done) | (go_simp; rfl)); intro gb321 hg w2 hbox hb; have BK321 := Am (hbox); have GW321 := Am ((by rw [hg]; exact (below_size (pB HB.out)) : w.heap.size ≤ gb321)); replace HB := Am (below_step (pB HB.out) hb); have GE321 := GW321; clear hb hbox hg; obtain ⟨hcz3_0, hcz3_1, hcz3_2, hcz3_3, hcz3_4, hcz3_5, hcz3_6⟩ := bc7 BK321.out; obtain ⟨hfz3_0, hfz3_1, hfz3_2, hfz3_3, hfz3_4, hfz3_5, hfz3_6⟩ := bf7 BK321.out))
 go_ret
 exact ⟨pX, pE HB.out GE321.out⟩
def garnerref23_Vote.f (k : Nat) (a0_0 : Int) (a0_1 : Int) (l0_2 : List (S55)) (a0_3 : Int) (a0_4 : Int) (a0_5 : Int) (a0_6 : Int) (a1_0 : Int) (a1_1 : Int) (a1_2 : Int) : Option (Int × Int × (List (S55)) × Int × Int × Int × Int × Int) := (garnerref23_Last.f a0_0 a0_1 l0_2 a0_3 a0_4 a0_5 a0_6).bind fun t325 => ((garnerref22_Step.f k a0_3 a0_4 a0_5 a1_0 a1_1 a1_2 t325).bind fun t326 => (if t326 = 0 then (some (a0_0, a0_1, l0_2, a1_0, a1_1, a1_2, a0_6, 0)) else (some (0, 0, ([] : List (S55)), 0, 0, 0, 0, t326))))
theorem garnerref23_Vote.mono : ∀ a0 a1 a2 a3 a4 a5 a6 a7 a8 a9 k, LeO (garnerref23_Vote.f k a0 a1 a2 a3 a4 a5 a6 a7 a8 a9) (garnerref23_Vote.f (k + 1) a0 a1 a2 a3 a4 a5 a6 a7 a8 a9) := by
 intro a0 a1 a2 a3 a4 a5 a6 a7 a8 a9 k
 unfold garnerref23_Vote.f
 repeat' first
   | (with_reducible exact garnerref22_Step.mono _ _ _ _ _ _ _ _)
   | (with_reducible exact LeO.refl _)
   | (with_reducible exact LeO.none _)
   | (with_reducible refine LeO.ite ?_ ?_)
   | (with_reducible refine LeO.bind ?_ (fun _ => ?_))
   | exact garnerref22_Step.mono _ _ _ _ _ _ _ _
   | exact LeO.none _
   | refine LeO.ite ?_ ?_
   | refine LeO.bind ?_ (fun _ => ?_)
set_option maxHeartbeats 8000000 in
set_option maxRecDepth 100000 in
theorem garnerref23_Vote.calls (k : Nat) (a0_0 : Int) (a0_1 : Int) (P0_2_ : Nat → Prop) (A0_2 : Option Addr) (c0_2 : Nat) (l0_2 : List (S55)) (a0_3 : Int) (a0_4 : Int) (a0_5 : Int) (a0_6 : Int) (a1_0 : Int) (a1_1 : Int) (a1_2 : Int) (r1 : Int) (r2 : Int) (r3 : List (S55)) (r4 : Int) (r5 : Int) (r6 : Int) (r7 : Int) (r8 : Int) (w : World) (hs0_2 : Kd.V k55 55 w w.heap.size (fun k_ => P0_2_ k_) (.slice A0_2 l0_2.length c0_2) l0_2) (h : garnerref23_Vote.f k a0_0 a0_1 l0_2 a0_3 a0_4 a0_5 a0_6 a1_0 a1_1 a1_2 = some (r1, r2, r3, r4, r5, r6, r7, r8)) :
  Calls Try.prog 12 #[.agg #[.int .i64 a0_0, .int .i64 a0_1, .slice A0_2 l0_2.length c0_2, .int .i64 a0_3, .int .i64 a0_4, .int .i64 a0_5, .int .i64 a0_6], .agg #[.int .i64 a1_0, .int .i64 a1_1, .int .i64 a1_2]] w fun e w' => ∃ v2_ : Value, e = .returned (.tuple #[.agg #[.int .i64 r1, .int .i64 r2, v2_, .int .i64 r4, .int .i64 r5, .int .i64 r6, .int .i64 r7], .int .i64 r8]) ∧ Kd.V k55 55 w' w.heap.size (fun k_ => (P0_2_ k_ ∨ w.heap.size ≤ k_)) v2_ r3 ∧ Below w.heap.size w w' := by
 have hu26 := Try.underlying26
 have hu24 := Try.underlying24
 have HO0_2 := Am (show Kd.V k55 55 w w.heap.size (fun k_ => (P0_2_ k_ ∨ w.heap.size ≤ k_)) (.slice A0_2 l0_2.length c0_2) l0_2 from Kd.V_mono hs0_2 (fun k_ hk => .inl hk))
 have HB := Am (Below.refl w.heap.size w)
 have H : ((garnerref23_Last.f a0_0 a0_1 l0_2 a0_3 a0_4 a0_5 a0_6).bind fun t325 => ((garnerref22_Step.f k a0_3 a0_4 a0_5 a1_0 a1_1 a1_2 t325).bind fun t326 => (if t326 = 0 then (some (a0_0, a0_1, l0_2, a1_0, a1_1, a1_2, a0_6, 0)) else (some (0, 0, ([] : List (S55)), 0, 0, 0, 0, t326))))) = some (r1, r2, r3, r4, r5, r6, r7, r8) := h
 clear h
 replace H := Option.bind_eq_some_iff.mp H
 obtain ⟨t325, A30, H⟩ := H
 replace H : ((garnerref22_Step.f k a0_3 a0_4 a0_5 a1_0 a1_1 a1_2 t325).bind fun t326 => (if t326 = 0 then (some (a0_0, a0_1, l0_2, a1_0, a1_1, a1_2, a0_6, 0)) else (some (0, 0, ([] : List (S55)), 0, 0, 0, 0, t326)))) = some (r1, r2, r3, r4, r5, r6, r7, r8) := H
 have A3 := Am A30
 clear A30
 replace H := Option.bind_eq_some_iff.mp H
 obtain ⟨t326, A40, H⟩ := H
 replace H : (if t326 = 0 then (some (a0_0, a0_1, l0_2, a1_0, a1_1, a1_2, a0_6, 0)) else (some (0, 0, ([] : List (S55)), 0, 0, 0, 0, t326))) = some (r1, r2, r3, r4, r5, r6, r7, r8) := H
 have A4 := Am A40
 clear A40
 by_cases c5 : t326 = 0
 rotate_left
 ·rw [if_neg c5] at H
  have c5b0 : (t326 == 0) = false := beq_eq_false_iff_ne.mpr c5
  have c5b1 : (t326 != 0) = true := bne_iff_ne.mpr c5
  simp only [Option.some.injEq, Prod.mk.injEq] at H
  obtain ⟨rfl, rfl, rfl, rfl, rfl, rfl, rfl, rfl⟩ := H
  go_enter Try.func12, Try.ntmps12
  try go_wp2_with (first | ((with_reducible refine gate_dst (N := 2) rfl ?_); refine box_event ?hg (N := 2) ?hd (cs := #[.int .i64 a0_0, .int .i64 a0_1, .slice A0_2 l0_2.length c0_2, .int .i64 a0_3, .int .i64 a0_4, .int .i64 a0_5, .int .i64 a0_6]) (t := 26) ?hr ?_; (case hd => rfl); (case hg => rfl); (case hr => first | (go_simp; done) | (go_simp; rfl)); intro Ac hg w18 hbox hb; replace HO0_2 := Am (Kd.V_below (Kd.V_elderB (pV HO0_2.out) Ac (Nat.le_of_eq hg.symm)) hb); have Aa := Am (hbox); have Aq := Am ((by rw [hg]; exact (below_size (pB HB.out)) : w.heap.size ≤ Ac)); replace HB := Am (below_step (pB HB.out) hb); have Ag := Aq; clear hb hbox hg) | ((with_reducible refine gate_dst (N := 3) rfl ?_); refine box_event ?hg (N := 3) ?hd (cs := #[.int .i64 a1_0, .int .i64 a1_1, .int .i64 a1_2]) (t := 24) ?hr ?_; (case hd => rfl); (case hg => rfl); (case hr => first | (go_simp; done) | (go_simp; rfl)); intro Ae hg w19 hbox hb; replace HO0_2 := Am (Kd.V_below (Kd.V_elderB (pV HO0_2.out) Ae (Nat.le_of_eq hg.symm)) hb); have Ab := Am (hbox); have Ar := Am ((by rw [hg]; exact (below_size (pE HB.out Ag.out)) : w.heap.size ≤ Ae)); replace HB := Am (below_step (pE HB.out Ag.out) hb); have Ah := Ar; have Ao := Am ((by rw [hg]; exact Nat.ne_of_lt (kL Aa.out) : Ac ≠ Ae)); have Ap := Am ((by rw [hg]; exact Nat.ne_of_gt (kL Aa.out) : Ae ≠ Ac)); replace Aa := kBa Aa hb; clear hb hbox hg) | ((with_reducible refine gate_dst (N := 4) rfl ?_); refine box_event ?hg (N := 4) ?hd (cs := #[.int .i64 0, .int .i64 0, .slice none 0 0, .int .i64 0, .int .i64 0, .int .i64 0, .int .i64 0]) (t := 26) ?hr ?_; (case hd => rfl); (case hg => rfl); (case hr => first | (go_simp; done) | (go_simp; rfl)); intro Af hg w20 hbox hb; replace HO0_2 := Am (Kd.V_below (Kd.V_elderB (pV HO0_2.out) Af (Nat.le_of_eq hg.symm)) hb); have Ad := Am (hbox); have As := Am ((by rw [hg]; exact (below_size (pE2 HB.out Ag.out Ah.out)) : w.heap.size ≤ Af)); replace HB := Am (below_step (pE2 HB.out Ag.out Ah.out) hb); have An := As; have Aj := Am ((by rw [hg]; exact Nat.ne_of_lt (kL Aa.out) : Ac ≠ Af)); have Ai := Am ((by rw [hg]; exact Nat.ne_of_gt (kL Aa.out) : Af ≠ Ac)); replace Aa := kBa Aa hb; have Ak := Am ((by rw [hg]; exact Nat.ne_of_lt (kL Ab.out) : Ae ≠ Af)); have Al := Am ((by rw [hg]; exact Nat.ne_of_gt (kL Ab.out) : Af ≠ Ae)); replace Ab := kBa Ab hb; clear hb hbox hg))
  replace HO0_2 := dVa HO0_2
  replace Aa := kDa Aa
  replace Ab := kDa Ab
  replace Ad := kDa Ad
  replace HB := bDa HB
  refine start_ (n := 7) (S := fun w' => cG w' Ac 0 (.int .i64 a0_0) ∧ cG w' Ac 1 (.int .i64 a0_1) ∧ cG w' Ac 2 (.slice A0_2 l0_2.length c0_2) ∧ cG w' Ac 3 (.int .i64 a0_3) ∧ cG w' Ac 4 (.int .i64 a0_4) ∧ cG w' Ac 5 (.int .i64 a0_5) ∧ cG w' Ac 6 (.int .i64 a0_6) ∧ cG w' Ae 0 (.int .i64 a1_0) ∧ cG w' Ae 1 (.int .i64 a1_1) ∧ cG w' Ae 2 (.int .i64 a1_2)) (ds := []) #[false, false, false, false, false, false, false] (by kernel_rfl) rfl rfl ⟨(blk_cell Aa.out 0).trans rfl, (blk_cell Aa.out 1).trans rfl, (blk_cell Aa.out 2).trans rfl, (blk_cell Aa.out 3).trans rfl, (blk_cell Aa.out 4).trans rfl, (blk_cell Aa.out 5).trans rfl, (blk_cell Aa.out 6).trans rfl, (blk_cell Ab.out 0).trans rfl, (blk_cell Ab.out 1).trans rfl, (blk_cell Ab.out 2).trans rfl⟩ (fun hHeld => ?_)
  generalize w20.drew = w21 at HO0_2 Aa Ab Ad HB hHeld ⊢
  refine pure_ (i := 0) (N := some 7) (v := ?_) (a' := ?_) (bw 7 1) rfl rfl (by kernel_rfl) (fun _ _ _ h => h) (Or.inl ⟨by rfl, ?_⟩) ?_ ?_
  rotate_left
  ·intro w'
   go_simp
   with_reducible rfl
  rotate_left
  ·simp only [Act.put, List.setIfInBounds_toArray, List.set_cons_zero, List.set_cons_succ, i64_w, i32_w]
   rfl
  refine take_ (i := 1) (N := some 8) (v := ?_) (a' := ?_) (bw 7 3) rfl rfl (by kernel_rfl) (fun _ _ _ h => h) (Or.inl ⟨by rfl, ?_⟩) hHeld ?_ ?_
  rotate_left
  ·rintro w' ⟨s0, s1, s2, s3, s4, s5, s6, s7, s8, s9⟩
   go_simp
   with_reducible rfl
  rotate_left
  ·simp only [Act.put, List.setIfInBounds_toArray, List.set_cons_zero, List.set_cons_succ, i64_w, i32_w]
   rfl
  refine take_ (i := 2) (N := some 9) (v := ?_) (a' := ?_) (bw 7 7) rfl rfl (by kernel_rfl) (fun _ _ _ h => h) (Or.inl ⟨by rfl, ?_⟩) hHeld ?_ ?_
  rotate_left
  ·rintro w' ⟨s0, s1, s2, s3, s4, s5, s6, s7, s8, s9⟩
   go_simp
   with_reducible rfl
  rotate_left
  ·simp only [Act.put, List.setIfInBounds_toArray, List.set_cons_zero, List.set_cons_succ, i64_w, i32_w]
   rfl
  refine take_ (i := 3) (N := some 10) (v := ?_) (a' := ?_) (bw 7 15) rfl rfl (by kernel_rfl) (fun _ _ _ h => h) (Or.inl ⟨by rfl, ?_⟩) hHeld ?_ ?_
  rotate_left
  ·rintro w' ⟨s0, s1, s2, s3, s4, s5, s6, s7, s8, s9⟩
   go_simp
   with_reducible rfl
  rotate_left
  ·simp only [Act.put, List.setIfInBounds_toArray, List.set_cons_zero, List.set_cons_succ, i64_w, i32_w]
   rfl
  refine one_ (i := 4) (N := some 11) (bw 7 31) rfl rfl (by kernel_rfl) (by decide) (fun K hK => ?_)
  refine goes_ Try.func29 (by kernel_rfl) rfl #[.agg #[.int .i64 a0_0, .int .i64 a0_1, .slice A0_2 l0_2.length c0_2, .int .i64 a0_3, .int .i64 a0_4, .int .i64 a0_5, .int .i64 a0_6]] (by rfl) rfl rfl pL ?_
  with_reducible refine (garnerref23_Last.calls a0_0 a0_1 _ _ l0_2 a0_3 a0_4 a0_5 a0_6 t325 _ ?At ?Au A3.out).mono ?_
  (case At => exact pC (Kd.V_reads' HO0_2.out).2.2)
  (case Au => exact (Kd.V_reads' HO0_2.out).2.1)
  rintro e w22 ⟨rfl, hb⟩
  refine ⟨_, rfl, ?_⟩
  replace HO0_2 := bVa HO0_2 hb
  replace Aa := kBa Aa hb
  replace Ab := kBa Ab hb
  replace Ad := kBa Ad hb
  replace HB := Am (below_step (pE3 HB.out Ag.out Ah.out An.out) hb)
  (try clear hb)
  (try clear hb2)
  (try clear hk)
  (try clear hi)
  refine hK.out _ _ ⟨(blk_cell Aa.out 0).trans rfl, (blk_cell Aa.out 1).trans rfl, (blk_cell Aa.out 2).trans rfl, (blk_cell Aa.out 3).trans rfl, (blk_cell Aa.out 4).trans rfl, (blk_cell Aa.out 5).trans rfl, (blk_cell Aa.out 6).trans rfl, (blk_cell Ab.out 0).trans rfl, (blk_cell Ab.out 1).trans rfl, (blk_cell Ab.out 2).trans rfl⟩ (fun hHeld => ?_)
  clear hK K
  refine norm_ (a' := ?_) ?_ ?_
  rotate_left
  ·show Act.put _ (some 11) _ = _
   simp only [Act.put, List.setIfInBounds_toArray, List.set_cons_zero, List.set_cons_succ, i64_w, i32_w]
   rfl
  refine one_ (i := 5) (N := some 12) (bw 7 63) rfl rfl (by kernel_rfl) (by decide) (fun K hK => ?_)
  refine goes_ Try.func28 (by kernel_rfl) rfl #[.agg #[.int .i64 a0_3, .int .i64 a0_4, .int .i64 a0_5], .agg #[.int .i64 a1_0, .int .i64 a1_1, .int .i64 a1_2], .int .i64 t325] (by rfl) rfl rfl pL ?_
  with_reducible refine (garnerref22_Step.calls k a0_3 a0_4 a0_5 a1_0 a1_1 a1_2 t325 t326 _ A4.out).mono ?_
  rintro e w23 ⟨rfl, hb⟩
  refine ⟨_, rfl, ?_⟩
  replace HO0_2 := bVa HO0_2 hb
  replace Aa := kBa Aa hb
  replace Ab := kBa Ab hb
  replace Ad := kBa Ad hb
  replace HB := Am (below_step (pE3 HB.out Ag.out Ah.out An.out) hb)
  (try clear hb)
  (try clear hb2)
  (try clear hk)
  (try clear hi)
  refine hK.out _ _ ⟨(blk_cell Aa.out 0).trans rfl, (blk_cell Aa.out 1).trans rfl, (blk_cell Aa.out 2).trans rfl, (blk_cell Aa.out 3).trans rfl, (blk_cell Aa.out 4).trans rfl, (blk_cell Aa.out 5).trans rfl, (blk_cell Aa.out 6).trans rfl, (blk_cell Ab.out 0).trans rfl, (blk_cell Ab.out 1).trans rfl, (blk_cell Ab.out 2).trans rfl⟩ (fun hHeld => ?_)
  clear hK K
  refine norm_ (a' := ?_) ?_ ?_
  rotate_left
  ·show Act.put _ (some 12) _ = _
   simp only [Act.put, List.setIfInBounds_toArray, List.set_cons_zero, List.set_cons_succ, i64_w, i32_w]
   rfl
  refine pure_ (i := 6) (N := some 6) (v := ?_) (a' := ?_) (bw 7 127) rfl rfl (by kernel_rfl) (fun _ _ _ h => h) (Or.inl ⟨by rfl, ?_⟩) ?_ ?_
  rotate_left
  ·intro w'
   go_simp
   with_reducible rfl
  rotate_left
  ·simp only [Act.put, List.setIfInBounds_toArray, List.set_cons_zero, List.set_cons_succ, i64_w, i32_w]
   rfl
  refine done_ (by kernel_rfl) ?_
  have hnb24 := Ai.out
  have hnc24 := Aj.out
  have hnb25 := Al.out
  have hnc25 := Ak.out
  obtain ⟨_, _, _, _, _, _, _⟩ := bc7 Ad.out
  obtain ⟨_, _, _, _, _, _, _⟩ := bf7 Ad.out
  try go_wp2
  refine bodyPost_ret (results_ct rfl _ _ Af 26 #[.int .i64 0, .int .i64 0, .slice none 0 0, .int .i64 0, .int .i64 0, .int .i64 0, .int .i64 0] (0, 0) _ rfl (kX0 Ad.out) Try.underlying26 rfl (by kernel_rfl)) rfl ?_
  exact ⟨_, pX, Kd.S_V (Kd.S_nil _ _ _ 0 _), pE3 HB.out Ag.out Ah.out An.out⟩
 rw [if_pos c5] at H
 have c5b0 : (t326 == 0) = true := beq_iff_eq.mpr c5
 have c5b1 : (t326 != 0) = false := bne_eq_false_iff_eq.mpr c5
 clear c5
 simp only [Option.some.injEq, Prod.mk.injEq] at H
 obtain ⟨rfl, rfl, rfl, rfl, rfl, rfl, rfl, rfl⟩ := H
 go_enter Try.func12, Try.ntmps12
 try go_wp2_with (first | ((with_reducible refine gate_dst (N := 2) rfl ?_); refine box_event ?hg (N := 2) ?hd (cs := #[.int .i64 a0_0, .int .i64 a0_1, .slice A0_2 l0_2.length c0_2, .int .i64 a0_3, .int .i64 a0_4, .int .i64 a0_5, .int .i64 a0_6]) (t := 26) ?hr ?_; (case hd => rfl); (case hg => rfl); (case hr => first | (go_simp; done) | (go_simp; rfl)); intro Ac hg w6 hbox hb; replace HO0_2 := Am (Kd.V_below (Kd.V_elderB (pV HO0_2.out) Ac (Nat.le_of_eq hg.symm)) hb); have Aa := Am (hbox); have Aq := Am ((by rw [hg]; exact (below_size (pB HB.out)) : w.heap.size ≤ Ac)); replace HB := Am (below_step (pB HB.out) hb); have Ag := Aq; clear hb hbox hg) | ((with_reducible refine gate_dst (N := 3) rfl ?_); refine box_event ?hg (N := 3) ?hd (cs := #[.int .i64 a1_0, .int .i64 a1_1, .int .i64 a1_2]) (t := 24) ?hr ?_; (case hd => rfl); (case hg => rfl); (case hr => first | (go_simp; done) | (go_simp; rfl)); intro Ae hg w7 hbox hb; replace HO0_2 := Am (Kd.V_below (Kd.V_elderB (pV HO0_2.out) Ae (Nat.le_of_eq hg.symm)) hb); have Ab := Am (hbox); have Ar := Am ((by rw [hg]; exact (below_size (pE HB.out Ag.out)) : w.heap.size ≤ Ae)); replace HB := Am (below_step (pE HB.out Ag.out) hb); have Ah := Ar; have Ao := Am ((by rw [hg]; exact Nat.ne_of_lt (kL Aa.out) : Ac ≠ Ae)); have Ap := Am ((by rw [hg]; exact Nat.ne_of_gt (kL Aa.out) : Ae ≠ Ac)); replace Aa := kBa Aa hb; clear hb hbox hg) | ((with_reducible refine gate_dst (N := 4) rfl ?_); refine box_event ?hg (N := 4) ?hd (cs := #[.int .i64 0, .int .i64 0, .slice none 0 0, .int .i64 0, .int .i64 0, .int .i64 0, .int .i64 0]) (t := 26) ?hr ?_; (case hd => rfl); (case hg => rfl); (case hr => first | (go_simp; done) | (go_simp; rfl)); intro Af hg w8 hbox hb; replace HO0_2 := Am (Kd.V_below (Kd.V_elderB (pV HO0_2.out) Af (Nat.le_of_eq hg.symm)) hb); have Ad := Am (hbox); have As := Am ((by rw [hg]; exact (below_size (pE2 HB.out Ag.out Ah.out)) : w.heap.size ≤ Af)); replace HB := Am (below_step (pE2 HB.out Ag.out Ah.out) hb); have An := As; have Aj := Am ((by rw [hg]; exact Nat.ne_of_lt (kL Aa.out) : Ac ≠ Af)); have Ai := Am ((by rw [hg]; exact Nat.ne_of_gt (kL Aa.out) : Af ≠ Ac)); replace Aa := kBa Aa hb; have Ak := Am ((by rw [hg]; exact Nat.ne_of_lt (kL Ab.out) : Ae ≠ Af)); have Al := Am ((by rw [hg]; exact Nat.ne_of_gt (kL Ab.out) : Af ≠ Ae)); replace Ab := kBa Ab hb; clear hb hbox hg))
 replace HO0_2 := dVa HO0_2
 replace Aa := kDa Aa
 replace Ab := kDa Ab
 replace Ad := kDa Ad
 replace HB := bDa HB
 refine start_ (n := 7) (S := fun w' => cG w' Ac 0 (.int .i64 a0_0) ∧ cG w' Ac 1 (.int .i64 a0_1) ∧ cG w' Ac 2 (.slice A0_2 l0_2.length c0_2) ∧ cG w' Ac 3 (.int .i64 a0_3) ∧ cG w' Ac 4 (.int .i64 a0_4) ∧ cG w' Ac 5 (.int .i64 a0_5) ∧ cG w' Ac 6 (.int .i64 a0_6) ∧ cG w' Ae 0 (.int .i64 a1_0) ∧ cG w' Ae 1 (.int .i64 a1_1) ∧ cG w' Ae 2 (.int .i64 a1_2)) (ds := []) #[false, false, false, false, false, false, false] (by kernel_rfl) rfl rfl ⟨(blk_cell Aa.out 0).trans rfl, (blk_cell Aa.out 1).trans rfl, (blk_cell Aa.out 2).trans rfl, (blk_cell Aa.out 3).trans rfl, (blk_cell Aa.out 4).trans rfl, (blk_cell Aa.out 5).trans rfl, (blk_cell Aa.out 6).trans rfl, (blk_cell Ab.out 0).trans rfl, (blk_cell Ab.out 1).trans rfl, (blk_cell Ab.out 2).trans rfl⟩ (fun hHeld => ?_)
 generalize w8.drew = w9 at HO0_2 Aa Ab Ad HB hHeld ⊢
 refine pure_ (i := 0) (N := some 7) (v := ?_) (a' := ?_) (bw 7 1) rfl rfl (by kernel_rfl) (fun _ _ _ h => h) (Or.inl ⟨by rfl, ?_⟩) ?_ ?_
 rotate_left
 ·intro w'
  go_simp
  with_reducible rfl
 rotate_left
 ·simp only [Act.put, List.setIfInBounds_toArray, List.set_cons_zero, List.set_cons_succ, i64_w, i32_w]
  rfl
 refine take_ (i := 1) (N := some 8) (v := ?_) (a' := ?_) (bw 7 3) rfl rfl (by kernel_rfl) (fun _ _ _ h => h) (Or.inl ⟨by rfl, ?_⟩) hHeld ?_ ?_
 rotate_left
 ·rintro w' ⟨s0, s1, s2, s3, s4, s5, s6, s7, s8, s9⟩
  go_simp
  with_reducible rfl
 rotate_left
 ·simp only [Act.put, List.setIfInBounds_toArray, List.set_cons_zero, List.set_cons_succ, i64_w, i32_w]
  rfl
 refine take_ (i := 2) (N := some 9) (v := ?_) (a' := ?_) (bw 7 7) rfl rfl (by kernel_rfl) (fun _ _ _ h => h) (Or.inl ⟨by rfl, ?_⟩) hHeld ?_ ?_
 rotate_left
 ·rintro w' ⟨s0, s1, s2, s3, s4, s5, s6, s7, s8, s9⟩
  go_simp
  with_reducible rfl
 rotate_left
 ·simp only [Act.put, List.setIfInBounds_toArray, List.set_cons_zero, List.set_cons_succ, i64_w, i32_w]
  rfl
 refine take_ (i := 3) (N := some 10) (v := ?_) (a' := ?_) (bw 7 15) rfl rfl (by kernel_rfl) (fun _ _ _ h => h) (Or.inl ⟨by rfl, ?_⟩) hHeld ?_ ?_
 rotate_left
 ·rintro w' ⟨s0, s1, s2, s3, s4, s5, s6, s7, s8, s9⟩
  go_simp
  with_reducible rfl
 rotate_left
 ·simp only [Act.put, List.setIfInBounds_toArray, List.set_cons_zero, List.set_cons_succ, i64_w, i32_w]
  rfl
 refine one_ (i := 4) (N := some 11) (bw 7 31) rfl rfl (by kernel_rfl) (by decide) (fun K hK => ?_)
 refine goes_ Try.func29 (by kernel_rfl) rfl #[.agg #[.int .i64 a0_0, .int .i64 a0_1, .slice A0_2 l0_2.length c0_2, .int .i64 a0_3, .int .i64 a0_4, .int .i64 a0_5, .int .i64 a0_6]] (by rfl) rfl rfl pL ?_
 with_reducible refine (garnerref23_Last.calls a0_0 a0_1 _ _ l0_2 a0_3 a0_4 a0_5 a0_6 t325 _ ?At ?Au A3.out).mono ?_
 (case At => exact pC (Kd.V_reads' HO0_2.out).2.2)
 (case Au => exact (Kd.V_reads' HO0_2.out).2.1)
 rintro e w10 ⟨rfl, hb⟩
 refine ⟨_, rfl, ?_⟩
 replace HO0_2 := bVa HO0_2 hb
 replace Aa := kBa Aa hb
 replace Ab := kBa Ab hb
 replace Ad := kBa Ad hb
 replace HB := Am (below_step (pE3 HB.out Ag.out Ah.out An.out) hb)
 (try clear hb)
 (try clear hb2)
 (try clear hk)
 (try clear hi)
 refine hK.out _ _ ⟨(blk_cell Aa.out 0).trans rfl, (blk_cell Aa.out 1).trans rfl, (blk_cell Aa.out 2).trans rfl, (blk_cell Aa.out 3).trans rfl, (blk_cell Aa.out 4).trans rfl, (blk_cell Aa.out 5).trans rfl, (blk_cell Aa.out 6).trans rfl, (blk_cell Ab.out 0).trans rfl, (blk_cell Ab.out 1).trans rfl, (blk_cell Ab.out 2).trans rfl⟩ (fun hHeld => ?_)
 clear hK K
 refine norm_ (a' := ?_) ?_ ?_
 rotate_left
 ·show Act.put _ (some 11) _ = _
  simp only [Act.put, List.setIfInBounds_toArray, List.set_cons_zero, List.set_cons_succ, i64_w, i32_w]
  rfl
 refine one_ (i := 5) (N := some 12) (bw 7 63) rfl rfl (by kernel_rfl) (by decide) (fun K hK => ?_)
 refine goes_ Try.func28 (by kernel_rfl) rfl #[.agg #[.int .i64 a0_3, .int .i64 a0_4, .int .i64 a0_5], .agg #[.int .i64 a1_0, .int .i64 a1_1, .int .i64 a1_2], .int .i64 t325] (by rfl) rfl rfl pL ?_
 with_reducible refine (garnerref22_Step.calls k a0_3 a0_4 a0_5 a1_0 a1_1 a1_2 t325 t326 _ A4.out).mono ?_
 rintro e w11 ⟨rfl, hb⟩
 refine ⟨_, rfl, ?_⟩
 replace HO0_2 := bVa HO0_2 hb
 replace Aa := kBa Aa hb
 replace Ab := kBa Ab hb
 replace Ad := kBa Ad hb
 replace HB := Am (below_step (pE3 HB.out Ag.out Ah.out An.out) hb)
 (try clear hb)
 (try clear hb2)
 (try clear hk)
 (try clear hi)
 refine hK.out _ _ ⟨(blk_cell Aa.out 0).trans rfl, (blk_cell Aa.out 1).trans rfl, (blk_cell Aa.out 2).trans rfl, (blk_cell Aa.out 3).trans rfl, (blk_cell Aa.out 4).trans rfl, (blk_cell Aa.out 5).trans rfl, (blk_cell Aa.out 6).trans rfl, (blk_cell Ab.out 0).trans rfl, (blk_cell Ab.out 1).trans rfl, (blk_cell Ab.out 2).trans rfl⟩ (fun hHeld => ?_)
 clear hK K
 refine norm_ (a' := ?_) ?_ ?_
 rotate_left
 ·show Act.put _ (some 12) _ = _
  simp only [Act.put, List.setIfInBounds_toArray, List.set_cons_zero, List.set_cons_succ, i64_w, i32_w]
  rfl
 refine pure_ (i := 6) (N := some 6) (v := ?_) (a' := ?_) (bw 7 127) rfl rfl (by kernel_rfl) (fun _ _ _ h => h) (Or.inl ⟨by rfl, ?_⟩) ?_ ?_
 rotate_left
 ·intro w'
  go_simp
  with_reducible rfl
 rotate_left
 ·simp only [Act.put, List.setIfInBounds_toArray, List.set_cons_zero, List.set_cons_succ, i64_w, i32_w]
  rfl
 refine done_ (by kernel_rfl) ?_
 have hnb12 := Ap.out
 have hnc12 := Ao.out
 have hnb13 := Ak.out
 have hnc13 := Al.out
 obtain ⟨_, _, _⟩ := bc3 Ab.out
 obtain ⟨_, _, _⟩ := bf3 Ab.out
 have hnb15 := Aj.out
 have hnc15 := Ai.out
 obtain ⟨_, _, _, _, _, _, _⟩ := bc7 Aa.out
 obtain ⟨_, _, _, _, _, _, _⟩ := bf7 Aa.out
 obtain ⟨_, _, _, _, _, _, _⟩ := bc7 Ad.out
 obtain ⟨_, _, _, _, _, _, _⟩ := bf7 Ad.out
 try go_wp2
 refine bodyPost_ret (results_ct rfl _ _ Af 26 #[.int .i64 a0_0, .int .i64 a0_1, .slice A0_2 l0_2.length c0_2, .int .i64 a1_0, .int .i64 a1_1, .int .i64 a1_2, .int .i64 a0_6] (0, 0) _ rfl (kX1 Ad.out Ai.out) Try.underlying26 rfl (by kernel_rfl)) rfl ?_
 exact ⟨_, pX, by (with_reducible repeat (first | apply Kd.V_alloc | apply Kd.V_drewN | apply Kd.V_drew)); have h0_ := Kd.V_mono (Kd.V_mono HO0_2.out (fun k_ hk => (⟨hk, hk.1.1.2⟩ : _ ∧ k_ ≠ Ac))) (fun k_ hk => (⟨hk, hk.1.2⟩ : _ ∧ k_ ≠ Af)); have h1_ := Kd.V_far (p := ⟨Ac, 3, none⟩) h0_ (fun _ hk => hk.1.2) (.int .i64 a1_0); have h2_ := Kd.V_far (p := ⟨Ac, 4, none⟩) h1_ (fun _ hk => hk.1.2) (.int .i64 a1_1); have h3_ := Kd.V_far (p := ⟨Ac, 5, none⟩) h2_ (fun _ hk => hk.1.2) (.int .i64 a1_2); exact Kd.V_mono (Vf7 (g := Af) (h3_) (fun _ hk => hk.2)) (fun _ hk => hk.1.1.1.1.1), pE3 HB.out Ag.out Ah.out An.out⟩
def garnerref23_Apply.l0 : Nat → Int → List (S55) → Int → Int → Int → List (S55) → Int → Int → Int → Int → Option (Int × Int × (List (S55)) × Int × Int × Int × Int × (List (S55)) × Int)
 | 0, _, _, _, _, _, _, _, _, _, _ => none
 | k + 1, x1, x7, x8, x328000, x328001, x328002, x328003, x328004, x328005, x328006 => if x8 ≤ x1 then (if 0 ≤ (wrap64 ((wrap64 (x8 - x328000)) - 1)) then (if (wrap64 ((wrap64 (x8 - x328000)) - 1)) < (x328002.length : Int) then (if x7.length < 1353245080339 then (garnerref23_Apply.l0 k x1 (x7 ++ [(⟨(rd_T55 x328002 (wrap64 ((wrap64 (x8 - x328000)) - 1))).f0, (rd_T55 x328002 (wrap64 ((wrap64 (x8 - x328000)) - 1))).f1, (rd_T55 x328002 (wrap64 ((wrap64 (x8 - x328000)) - 1))).f2, (rd_T55 x328002 (wrap64 ((wrap64 (x8 - x328000)) - 1))).f3, (⟨(rd_T55 x328002 (wrap64 ((wrap64 (x8 - x328000)) - 1))).f4.f0, (rd_T55 x328002 (wrap64 ((wrap64 (x8 - x328000)) - 1))).f4.f1, (⟨(rd_T55 x328002 (wrap64 ((wrap64 (x8 - x328000)) - 1))).f4.f2.f0, (rd_T55 x328002 (wrap64 ((wrap64 (x8 - x328000)) - 1))).f4.f2.f1, (rd_T55 x328002 (wrap64 ((wrap64 (x8 - x328000)) - 1))).f4.f2.f2, (rd_T55 x328002 (wrap64 ((wrap64 (x8 - x328000)) - 1))).f4.f2.f3⟩ : S51)⟩ : S53)⟩ : S55)]) (wrap64 (x8 + 1)) x328000 x328001 x328002 x328003 x328004 x328005 x328006) else (none)) else (none)) else (none)) else (some (x328000, x328001, x328002, x328003, x328004, x328005, x1, x7, 0))
def garnerref23_Apply.f (k : Nat) (a0_0 : Int) (a0_1 : Int) (l0_2 : List (S55)) (a0_3 : Int) (a0_4 : Int) (a0_5 : Int) (a0_6 : Int) (a1 : Int) : Option (Int × Int × (List (S55)) × Int × Int × Int × Int × (List (S55)) × Int) := if a1 < a0_6 then (some (0, 0, ([] : List (S55)), 0, 0, 0, 0, ([] : List (S55)), 4)) else (if a1 > a0_5 then (some (0, 0, ([] : List (S55)), 0, 0, 0, 0, ([] : List (S55)), 3)) else (garnerref23_Apply.l0 k a1 (([] : List (S55))) (wrap64 (a0_6 + 1)) a0_0 a0_1 l0_2 a0_3 a0_4 a0_5 a0_6))
theorem garnerref23_Apply.mono_l : ∀ k, (∀ y0 y1 y2 y3 y4 y5 y6 y7 y8 y9, LeO (garnerref23_Apply.l0 k y0 y1 y2 y3 y4 y5 y6 y7 y8 y9) (garnerref23_Apply.l0 (k + 1) y0 y1 y2 y3 y4 y5 y6 y7 y8 y9))
 | 0 => fun _ _ _ _ _ _ _ _ _ _ r h => by simp [garnerref23_Apply.l0] at h
 | k + 1 => by
  have ih0 := garnerref23_Apply.mono_l k
  ·intro y0 y1 y2 y3 y4 y5 y6 y7 y8 y9
   unfold garnerref23_Apply.l0
   repeat' first
   | (with_reducible exact ih0 _ _ _ _ _ _ _ _ _ _)
   | (with_reducible exact LeO.refl _)
   | (with_reducible exact LeO.none _)
   | (with_reducible refine LeO.ite ?_ ?_)
   | (with_reducible refine LeO.bind ?_ (fun _ => ?_))
   | exact ih0 _ _ _ _ _ _ _ _ _ _
   | exact LeO.none _
   | refine LeO.ite ?_ ?_
   | refine LeO.bind ?_ (fun _ => ?_)
theorem garnerref23_Apply.mono : ∀ a0 a1 a2 a3 a4 a5 a6 a7 k, LeO (garnerref23_Apply.f k a0 a1 a2 a3 a4 a5 a6 a7) (garnerref23_Apply.f (k + 1) a0 a1 a2 a3 a4 a5 a6 a7) := by
 intro a0 a1 a2 a3 a4 a5 a6 a7 k
 have ih0 := garnerref23_Apply.mono_l k
 unfold garnerref23_Apply.f
 repeat' first
   | (with_reducible exact ih0 _ _ _ _ _ _ _ _ _ _)
   | (with_reducible exact LeO.refl _)
   | (with_reducible exact LeO.none _)
   | (with_reducible refine LeO.ite ?_ ?_)
   | (with_reducible refine LeO.bind ?_ (fun _ => ?_))
   | exact ih0 _ _ _ _ _ _ _ _ _ _
   | exact LeO.none _
   | refine LeO.ite ?_ ?_
   | refine LeO.bind ?_ (fun _ => ?_)
set_option maxHeartbeats 8000000 in
set_option maxRecDepth 100000 in
theorem garnerref23_Apply.calls (k : Nat) (a0_0 : Int) (a0_1 : Int) (P0_2_ : Nat → Prop) (A0_2 : Option Addr) (c0_2 : Nat) (l0_2 : List (S55)) (a0_3 : Int) (a0_4 : Int) (a0_5 : Int) (a0_6 : Int) (a1 : Int) (r1 : Int) (r2 : Int) (r3 : List (S55)) (r4 : Int) (r5 : Int) (r6 : Int) (r7 : Int) (r8 : List (S55)) (r9 : Int) (w : World) (hs0_2 : Kd.V k55 55 w w.heap.size (fun k_ => P0_2_ k_) (.slice A0_2 l0_2.length c0_2) l0_2) (h : garnerref23_Apply.f k a0_0 a0_1 l0_2 a0_3 a0_4 a0_5 a0_6 a1 = some (r1, r2, r3, r4, r5, r6, r7, r8, r9)) :
  Calls Try.prog 13 #[.agg #[.int .i64 a0_0, .int .i64 a0_1, .slice A0_2 l0_2.length c0_2, .int .i64 a0_3, .int .i64 a0_4, .int .i64 a0_5, .int .i64 a0_6], .int .i64 a1] w fun e w' => ∃ v2_ v7_ : Value, e = .returned (.tuple #[.agg #[.int .i64 r1, .int .i64 r2, v2_, .int .i64 r4, .int .i64 r5, .int .i64 r6, .int .i64 r7], v7_, .int .i64 r9]) ∧ Kd.V k55 55 w' w.heap.size (fun k_ => (P0_2_ k_ ∨ w.heap.size ≤ k_) ∧ some k_ ≠ (v7_ : Value).ownBlock) v2_ r3 ∧ Kd.N k55 55 w' w.heap.size (fun k_ => (P0_2_ k_ ∨ w.heap.size ≤ k_)) v7_ r8 ∧ Below w.heap.size w w' := by
 have hu26 := Try.underlying26
 have hu55 := Try.underlying55
 have HO0_2 := Am (show Kd.V k55 55 w w.heap.size (fun k_ => (P0_2_ k_ ∨ w.heap.size ≤ k_)) (.slice A0_2 l0_2.length c0_2) l0_2 from Kd.V_mono hs0_2 (fun k_ hk => .inl hk))
 have HB := Am (Below.refl w.heap.size w)
 have H : (if a1 < a0_6 then (some (0, 0, ([] : List (S55)), 0, 0, 0, 0, ([] : List (S55)), 4)) else (if a1 > a0_5 then (some (0, 0, ([] : List (S55)), 0, 0, 0, 0, ([] : List (S55)), 3)) else (garnerref23_Apply.l0 k a1 (([] : List (S55))) (wrap64 (a0_6 + 1)) a0_0 a0_1 l0_2 a0_3 a0_4 a0_5 a0_6))) = some (r1, r2, r3, r4, r5, r6, r7, r8, r9) := h
 clear h
 by_cases c3 : a1 < a0_6
 ·rw [if_pos c3] at H
  have c3b0 : decide (a1 < a0_6) = true := decide_eq_true c3
  clear c3
  simp only [Option.some.injEq, Prod.mk.injEq] at H
  obtain ⟨rfl, rfl, rfl, rfl, rfl, rfl, rfl, rfl, rfl⟩ := H
  go_enter Try.func13, Try.ntmps13
  go_wp2_with (first | ((with_reducible refine gate_dst (N := 2) rfl ?_); refine box_event ?hg (N := 2) ?hd (cs := #[.int .i64 a0_0, .int .i64 a0_1, .slice A0_2 l0_2.length c0_2, .int .i64 a0_3, .int .i64 a0_4, .int .i64 a0_5, .int .i64 a0_6]) (t := 26) ?hr ?_; (case hd => rfl); (case hg => rfl); (case hr => first | (go_simp; done) | (go_simp; rfl)); intro Ac hg w4 hbox hb; replace HO0_2 := Am (Kd.V_below (Kd.V_elderB (pV HO0_2.out) Ac (Nat.le_of_eq hg.symm)) hb); have Aa := Am (hbox); have Al := Am ((by rw [hg]; exact (below_size (pB HB.out)) : w.heap.size ≤ Ac)); replace HB := Am (below_step (pB HB.out) hb); have Af := Al; clear hb hbox hg) | ((with_reducible refine gate_dst (N := 4) rfl ?_); refine box_event ?hg (N := 4) ?hd (cs := #[.int .i64 0, .int .i64 0, .slice none 0 0, .int .i64 0, .int .i64 0, .int .i64 0, .int .i64 0]) (t := 26) ?hr ?_; (case hd => rfl); (case hg => rfl); (case hr => first | (go_simp; done) | (go_simp; rfl)); intro Ab hg w5 hbox hb; replace HO0_2 := Am (Kd.V_below (Kd.V_elderB (pV HO0_2.out) Ab (Nat.le_of_eq hg.symm)) hb); have Ad := Am (hbox); have An := Am ((by rw [hg]; exact (below_size (pE HB.out Af.out)) : w.heap.size ≤ Ab)); replace HB := Am (below_step (pE HB.out Af.out) hb); have Ai := An; have Ag := Am ((by rw [hg]; exact Nat.ne_of_lt (kL Aa.out) : Ac ≠ Ab)); have Ae := Am ((by rw [hg]; exact Nat.ne_of_gt (kL Aa.out) : Ab ≠ Ac)); replace Aa := kBa Aa hb; clear hb hbox hg; have hnb6 := Ag.out; have hnc6 := Ae.out; obtain ⟨Cc, Cd, Ce, Cf, Cg, Ch, Ci⟩ := bc7 Aa.out; obtain ⟨Cj, Ck, Cl, Cm, Cn, Co, Cp⟩ := bf7 Aa.out; obtain ⟨Cq, Cr, Cs, Ct, Cu, Cv, Cw⟩ := bc7 Ad.out; obtain ⟨Cx, Cy, Cz, C0, C1, C2, C3⟩ := bf7 Ad.out))
  refine bodyPost_ret (results_ctt rfl _ _ Ab 26 #[.int .i64 0, .int .i64 0, .slice none 0 0, .int .i64 0, .int .i64 0, .int .i64 0, .int .i64 0] (0, 0) _ rfl (kX0 Ad.out) Try.underlying26 rfl (by kernel_rfl)) rfl ?_
  exact ⟨_, _, pX, Kd.N_V (Kd.N_nil _ _ _ 0 _), by first | exact Kd.S_nil _ _ _ _ _ | exact Kd.N_nil _ _ _ _ _ | exact Kd.V_nil _ _ _ _ _ | exact Kd.Q_nil _ _ _ _ _ | exact Kd.R_nil _ _ _ _ _, pE2 HB.out Af.out Ai.out⟩
 rw [if_neg c3] at H
 have c3b0 : decide (a1 < a0_6) = false := decide_eq_false c3
 clear c3
 by_cases c9 : a1 > a0_5
 ·rw [if_pos c9] at H
  have c9b0 : decide (a0_5 < a1) = true := decide_eq_true c9
  clear c9
  simp only [Option.some.injEq, Prod.mk.injEq] at H
  obtain ⟨rfl, rfl, rfl, rfl, rfl, rfl, rfl, rfl, rfl⟩ := H
  go_enter Try.func13, Try.ntmps13
  go_wp2_with (first | ((with_reducible refine gate_dst (N := 2) rfl ?_); refine box_event ?hg (N := 2) ?hd (cs := #[.int .i64 a0_0, .int .i64 a0_1, .slice A0_2 l0_2.length c0_2, .int .i64 a0_3, .int .i64 a0_4, .int .i64 a0_5, .int .i64 a0_6]) (t := 26) ?hr ?_; (case hd => rfl); (case hg => rfl); (case hr => first | (go_simp; done) | (go_simp; rfl)); intro Ac hg w10 hbox hb; replace HO0_2 := Am (Kd.V_below (Kd.V_elderB (pV HO0_2.out) Ac (Nat.le_of_eq hg.symm)) hb); have Aa := Am (hbox); have Al := Am ((by rw [hg]; exact (below_size (pB HB.out)) : w.heap.size ≤ Ac)); replace HB := Am (below_step (pB HB.out) hb); have Af := Al; clear hb hbox hg) | ((with_reducible refine gate_dst (N := 4) rfl ?_); refine box_event ?hg (N := 4) ?hd (cs := #[.int .i64 0, .int .i64 0, .slice none 0 0, .int .i64 0, .int .i64 0, .int .i64 0, .int .i64 0]) (t := 26) ?hr ?_; (case hd => rfl); (case hg => rfl); (case hr => first | (go_simp; done) | (go_simp; rfl)); intro Ab hg w11 hbox hb; replace HO0_2 := Am (Kd.V_below (Kd.V_elderB (pV HO0_2.out) Ab (Nat.le_of_eq hg.symm)) hb); have Ad := Am (hbox); have An := Am ((by rw [hg]; exact (below_size (pE HB.out Af.out)) : w.heap.size ≤ Ab)); replace HB := Am (below_step (pE HB.out Af.out) hb); have Ai := An; have Ag := Am ((by rw [hg]; exact Nat.ne_of_lt (kL Aa.out) : Ac ≠ Ab)); have Ae := Am ((by rw [hg]; exact Nat.ne_of_gt (kL Aa.out) : Ab ≠ Ac)); replace Aa := kBa Aa hb; clear hb hbox hg; have hnb12 := Ag.out; have hnc12 := Ae.out; obtain ⟨Ar, As, At, Au, Av, Aw, Ax⟩ := bc7 Aa.out; obtain ⟨Ay, Az, A0, A1, A2, A3, A4⟩ := bf7 Aa.out; obtain ⟨A5, A6, A7, A8, A9, Ba, Bb⟩ := bc7 Ad.out; obtain ⟨Bc, Bd, Be, Bf, Bg, Bh, Bi⟩ := bf7 Ad.out))
  refine bodyPost_ret (results_ctt rfl _ _ Ab 26 #[.int .i64 0, .int .i64 0, .slice none 0 0, .int .i64 0, .int .i64 0, .int .i64 0, .int .i64 0] (0, 0) _ rfl (kX0 Ad.out) Try.underlying26 rfl (by kernel_rfl)) rfl ?_
  exact ⟨_, _, pX, Kd.N_V (Kd.N_nil _ _ _ 0 _), by first | exact Kd.S_nil _ _ _ _ _ | exact Kd.N_nil _ _ _ _ _ | exact Kd.V_nil _ _ _ _ _ | exact Kd.Q_nil _ _ _ _ _ | exact Kd.R_nil _ _ _ _ _, pE2 HB.out Af.out Ai.out⟩
 rw [if_neg c9] at H
 have c9b0 : decide (a0_5 < a1) = false := decide_eq_false c9
 clear c9
 obtain ⟨y329, hy329⟩ : ∃ y_ : List (S55), y_ = (([] : List (S55))) := ⟨_, rfl⟩
 replace H : (garnerref23_Apply.l0 k a1 y329 (wrap64 (a0_6 + 1)) a0_0 a0_1 l0_2 a0_3 a0_4 a0_5 a0_6) = some (r1, r2, r3, r4, r5, r6, r7, r8, r9) := by first | (rw [hy329]; with_reducible exact H) | (have H2_ := (Option.bind_some _ _).symm.trans H; rw [hy329]; with_reducible exact H2_) | (have H2_ := (Option.bind_some _ _).symm.trans H; with_reducible exact H2_) | with_reducible exact H | (rw [hy329]; exact H) | exact H
 have Ny329 := Am hy329
 clear hy329
 have H' := Am H
 clear H
 go_enter Try.func13, Try.ntmps13
 go_wp2_with (first | ((with_reducible refine gate_dst (N := 2) rfl ?_); refine box_event ?hg (N := 2) ?hd (cs := #[.int .i64 a0_0, .int .i64 a0_1, .slice A0_2 l0_2.length c0_2, .int .i64 a0_3, .int .i64 a0_4, .int .i64 a0_5, .int .i64 a0_6]) (t := 26) ?hr ?_; (case hd => rfl); (case hg => rfl); (case hr => first | (go_simp; done) | (go_simp; rfl)); intro Ac hg w15 hbox hb; replace HO0_2 := Am (Kd.V_below (Kd.V_elderB (pV HO0_2.out) Ac (Nat.le_of_eq hg.symm)) hb); have Aa := Am (hbox); have Al := Am ((by rw [hg]; exact (below_size (pB HB.out)) : w.heap.size ≤ Ac)); replace HB := Am (below_step (pB HB.out) hb); have Af := Al; clear hb hbox hg) | ((with_reducible refine gate_dst (N := 4) rfl ?_); refine box_event ?hg (N := 4) ?hd (cs := #[.int .i64 0, .int .i64 0, .slice none 0 0, .int .i64 0, .int .i64 0, .int .i64 0, .int .i64 0]) (t := 26) ?hr ?_; (case hd => rfl); (case hg => rfl); (case hr => first | (go_simp; done) | (go_simp; rfl)); intro Ab hg w16 hbox hb; replace HO0_2 := Am (Kd.V_below (Kd.V_elderB (pV HO0_2.out) Ab (Nat.le_of_eq hg.symm)) hb); have Ad := Am (hbox); have An := Am ((by rw [hg]; exact (below_size (pE HB.out Af.out)) : w.heap.size ≤ Ab)); replace HB := Am (below_step (pE HB.out Af.out) hb); have Ai := An; have Ag := Am ((by rw [hg]; exact Nat.ne_of_lt (kL Aa.out) : Ac ≠ Ab)); have Ae := Am ((by rw [hg]; exact Nat.ne_of_gt (kL Aa.out) : Ab ≠ Ac)); replace Aa := kBa Aa hb; clear hb hbox hg; have hnb17 := Ag.out; have hnc17 := Ae.out; obtain ⟨Bj, Bk, Bl, Bm, Bn, Bo, Bp⟩ := bc7 Aa.out; obtain ⟨Bq, Br, Bs, Bt, Bu, Bv, Bw⟩ := bf7 Aa.out) | ((with_reducible refine gate_dst (N := 20) rfl ?_); refine Kd.N_lit k55 _ 55 ?hg (N' := 20) ?hd (xs := ([] : List (S55))) (inner := []) (ok := (fun k_ => (P0_2_ k_ ∨ w.heap.size ≤ k_) ∧ k_ ≠ Ac ∧ k_ ≠ Ab)) (okp := (fun k_ => (P0_2_ k_ ∨ w.heap.size ≤ k_) ∧ k_ ≠ Ac ∧ k_ ≠ Ab)) ?hr ?hp (fun _ hk => hk) ((show ∀ k_, w16.heap.size ≤ k_ → (fun k_ => (P0_2_ k_ ∨ w.heap.size ≤ k_) ∧ k_ ≠ Ac ∧ k_ ≠ Ab) k_ from fun k_ hk => ⟨(.inr (Nat.le_trans (below_size (pE2 HB.out Af.out Ai.out)) hk)), kF Aa.out k_ hk, kF Ad.out k_ hk⟩) _ (Nat.le_refl _)) (Below.refl _ _) (Nat.le_refl _) (by simp) ?_; (case hd => rfl); (case hg => rfl); (case hr => first | (go_simp; done) | (go_simp; rfl)); (case hp => exact (Reps.none _ _)); intro v330 w19 ho20 hb hg_ hnew_; clear hg_ hnew_; (first | rw [← Ny329.out] at ho20 | (simp only [Int.reduceToNat] at ho20; rw [← Ny329.out] at ho20)); replace HO0_2 := Am (Kd.V_elder' (pV HO0_2.out) (Kd.N_base ho20) hb); have C5 := Am (Kd.N_lower ho20 (below_size (pE2 HB.out Af.out Ai.out))); replace Aa := kBa Aa hb; replace Ad := kBa Ad hb; replace HB := Am (below_step (pE2 HB.out Af.out Ai.out) hb); clear hb ho20; obtain ⟨Bx, By, Bz, B0, B1, B2, B3⟩ := bc7 Aa.out; obtain ⟨B4, B5, B6, B7, B8, B9, Ca⟩ := bf7 Aa.out))
 go_loopg [7, 8] k (fun kq v7 v8 w' => ∃ (Ak : List (S55)) (Aj : Int), v8 = .int .i64 Aj ∧ Aside0 (garnerref23_Apply.l0 kq a1 Ak Aj a0_0 a0_1 l0_2 a0_3 a0_4 a0_5 a0_6 = some (r1, r2, r3, r4, r5, r6, r7, r8, r9)) ∧ Aside0 (kq ≤ k) ∧ Aside0 (Kd.N k55 55 w' w.heap.size (fun k_ => (P0_2_ k_ ∨ w.heap.size ≤ k_) ∧ k_ ≠ Ac ∧ k_ ≠ Ab) v7 Ak) ∧ Aside0 (Kd.V k55 55 w' w.heap.size (fun k_ => (P0_2_ k_ ∨ w.heap.size ≤ k_) ∧ some k_ ≠ (v7 : Value).ownBlock ∧ k_ ≠ Ac ∧ k_ ≠ Ab) (.slice A0_2 l0_2.length c0_2) l0_2) ∧ Aside0 (w'.heap[Ac]? = some (.cells #[.int .i64 a0_0, .int .i64 a0_1, (.slice A0_2 l0_2.length c0_2), .int .i64 a0_3, .int .i64 a0_4, .int .i64 a0_5, .int .i64 a0_6] 26 (0, 0))) ∧ Aside0 (w'.heap[Ab]? = some (.cells #[.int .i64 0, .int .i64 0, (.slice none 0 0), .int .i64 0, .int .i64 0, .int .i64 0, .int .i64 0] 26 (0, 0))) ∧ Aside0 (Below w.heap.size w w'))
 case atStart => exact ⟨(y329), (wrap64 (a0_6 + 1)), (by first | rfl | (simp; done) | (simp [*]; done)), H', ⟨Nat.le_refl _⟩, ⟨by (with_reducible repeat (first | apply Kd.N_alloc | apply Kd.N_drewN | apply Kd.N_drew)); exact C5.out⟩, ⟨by (with_reducible repeat (first | apply Kd.V_alloc | apply Kd.V_drewN | apply Kd.V_drew)); exact Kd.V_mono HO0_2.out (fun _ hk => ⟨hk.1.1.1, ⟨hk.2, ⟨hk.1.1.2, hk.1.2⟩⟩⟩)⟩, ⟨pK Aa.out⟩, ⟨pK Ad.out⟩, ⟨pE2 HB.out Af.out Ai.out⟩⟩
 case round =>
  clear H'
  try clear c1
  try clear p2
  try clear c3
  try clear c3b0
  try clear c6
  try clear p6
  try clear c9
  try clear c9b0
  try clear c12
  try clear c13
  try clear c17
  try clear Ar As At Au Av Aw Ax
  try clear A5 A6 A7 A8 A9 Ba Bb
  try clear Bj Bk Bl Bm Bn Bo Bp
  try clear Bx By Bz B0 B1 B2 B3
  try clear Cc Cd Ce Cf Cg Ch Ci
  try clear Cq Cr Cs Ct Cu Cv Cw
  try clear Ay Az A0 A1 A2 A3 A4
  try clear Bc Bd Be Bf Bg Bh Bi
  try clear Bq Br Bs Bt Bu Bv Bw
  try clear B4 B5 B6 B7 B8 B9 Ca
  try clear Cj Ck Cl Cm Cn Co Cp
  try clear Cx Cy Cz C0 C1 C2 C3
  obtain ⟨Ak, Aj, rfl, HA, HK1, Aq, Ah, Aa, Ad, HB⟩ := hrel
  cases gk with
  | zero => exact absurd HA.out (by simp [garnerref23_Apply.l0])
  | succ k1 =>
   have H := HA.out
   clear HA
   simp only [garnerref23_Apply.l0] at H
   by_cases c22 : Aj ≤ a1
   rotate_left
   ·rw [if_neg c22] at H
    have c22b0 : decide (Aj ≤ a1) = false := decide_eq_false c22
    clear c22
    simp only [Option.some.injEq, Prod.mk.injEq] at H
    obtain ⟨rfl, rfl, rfl, rfl, rfl, rfl, rfl, rfl, rfl⟩ := H
    have hnb30 := Ag.out
    have hnc30 := Ae.out
    obtain ⟨_, _, _, _, _, _, _⟩ := bc7 Aa.out
    obtain ⟨_, _, _, _, _, _, _⟩ := bf7 Aa.out
    obtain ⟨_, _, _, _, _, _, _⟩ := bc7 Ad.out
    obtain ⟨_, _, _, _, _, _, _⟩ := bf7 Ad.out
    go_wp2
    refine bodyPost_ret (results_ctt rfl _ _ Ab 26 #[.int .i64 a0_0, .int .i64 a0_1, .slice A0_2 l0_2.length c0_2, .int .i64 a0_3, .int .i64 a0_4, .int .i64 a0_5, .int .i64 a1] (0, 0) _ rfl (kX1 Ad.out Ae.out) Try.underlying26 rfl (by kernel_rfl)) rfl ?_
    exact ⟨_, _, pX, by (with_reducible repeat (first | apply Kd.V_alloc | apply Kd.V_drewN | apply Kd.V_drew)); exact Kd.V_mono (Vf7 (g := Ab) (Kd.V_far (p := ⟨Ac, 6, none⟩) (Kd.V_mono (Kd.V_mono Ah.out (fun k_ hk => (⟨hk, hk.2.2.1⟩ : _ ∧ k_ ≠ Ac))) (fun k_ hk => (⟨hk, hk.1.2.2.2⟩ : _ ∧ k_ ≠ Ab))) (fun _ hk => hk.1.2) (.int .i64 a1)) (fun _ hk => hk.2)) (fun _ hk => ⟨hk.1.1.1, hk.1.1.2.1⟩), by (with_reducible repeat (first | apply Kd.N_alloc | apply Kd.N_drewN | apply Kd.N_drew)); exact Kd.N_mono (Nf7 (g := Ab) (Kd.N_far (p := ⟨Ac, 6, none⟩) (Kd.N_mono (Kd.N_mono Aq.out (fun k_ hk => (⟨hk, hk.2.1⟩ : _ ∧ k_ ≠ Ac))) (fun k_ hk => (⟨hk, hk.1.2.2⟩ : _ ∧ k_ ≠ Ab))) (fun _ hk => hk.1.2) (.int .i64 a1)) (fun _ hk => hk.2)) (fun _ hk => hk.1.1.1), pE2 HB.out Af.out Ai.out⟩
   rw [if_pos c22] at H
   have c22b0 : decide (Aj ≤ a1) = true := decide_eq_true c22
   clear c22
   obtain ⟨ji23, hji23⟩ : ∃ j_ : Int, (wrap64 ((wrap64 (Aj - a0_0)) - 1)) = j_ := ⟨_, rfl⟩
   replace H : (if 0 ≤ (ji23) then (if (ji23) < (l0_2.length : Int) then (if Ak.length < 1353245080339 then (garnerref23_Apply.l0 k1 a1 (Ak ++ [(⟨(rd_T55 l0_2 (ji23)).f0, (rd_T55 l0_2 (ji23)).f1, (rd_T55 l0_2 (ji23)).f2, (rd_T55 l0_2 (ji23)).f3, (⟨(rd_T55 l0_2 (ji23)).f4.f0, (rd_T55 l0_2 (ji23)).f4.f1, (⟨(rd_T55 l0_2 (ji23)).f4.f2.f0, (rd_T55 l0_2 (ji23)).f4.f2.f1, (rd_T55 l0_2 (ji23)).f4.f2.f2, (rd_T55 l0_2 (ji23)).f4.f2.f3⟩ : S51)⟩ : S53)⟩ : S55)]) (wrap64 (Aj + 1)) a0_0 a0_1 l0_2 a0_3 a0_4 a0_5 a0_6) else (none)) else (none)) else (none)) = some (r1, r2, r3, r4, r5, r6, r7, r8, r9) := by first | (rw [hji23] at H; exact H) | (simp only [hji23] at H ⊢; exact H)
   have hji23w : (IntKind.i64.wrap ((wrap64 (Aj - a0_0)) - 1)) = ji23 := (i64_w _).trans hji23
   by_cases c24 : 0 ≤ (ji23)
   rotate_left
   ·rw [if_neg c24] at H
    exact absurd H (by simp)
   rw [if_pos c24] at H
   have c24b0 : decide (0 ≤ (ji23)) = true := decide_eq_true c24
   clear c24
   by_cases c25 : (ji23) < (l0_2.length : Int)
   rotate_left
   ·rw [if_neg c25] at H
    exact absurd H (by simp)
   rw [if_pos c25] at H
   have c25b0 : decide ((ji23) < (l0_2.length : Int)) = true := decide_eq_true c25
   clear c25
   by_cases c26 : Ak.length < 1353245080339
   rotate_left
   ·rw [if_neg c26] at H
    exact absurd H (by simp)
   rw [if_pos c26] at H
   have LMc26 := Am c26
   clear c26
   obtain ⟨y333, hy333⟩ : ∃ y_ : List (S55), y_ = (Ak ++ [(⟨(rd_T55 l0_2 (ji23)).f0, (rd_T55 l0_2 (ji23)).f1, (rd_T55 l0_2 (ji23)).f2, (rd_T55 l0_2 (ji23)).f3, (⟨(rd_T55 l0_2 (ji23)).f4.f0, (rd_T55 l0_2 (ji23)).f4.f1, (⟨(rd_T55 l0_2 (ji23)).f4.f2.f0, (rd_T55 l0_2 (ji23)).f4.f2.f1, (rd_T55 l0_2 (ji23)).f4.f2.f2, (rd_T55 l0_2 (ji23)).f4.f2.f3⟩ : S51)⟩ : S53)⟩ : S55)]) := ⟨_, rfl⟩
   replace H : (garnerref23_Apply.l0 k1 a1 y333 (wrap64 (Aj + 1)) a0_0 a0_1 l0_2 a0_3 a0_4 a0_5 a0_6) = some (r1, r2, r3, r4, r5, r6, r7, r8, r9) := by first | (rw [hy333]; with_reducible exact H) | (have H2_ := (Option.bind_some _ _).symm.trans H; rw [hy333]; with_reducible exact H2_) | (have H2_ := (Option.bind_some _ _).symm.trans H; with_reducible exact H2_) | with_reducible exact H | (rw [hy333]; exact H) | exact H
   have Ny333 := Am hy333
   clear hy333
   have H' := Am H
   clear H
   have hnb27 := Ag.out
   have hnc27 := Ae.out
   obtain ⟨_, _, _, _, _, _, _⟩ := bc7 Aa.out
   obtain ⟨_, _, _, _, _, _, _⟩ := bf7 Aa.out
   have p332 : 0 ≤ ((ji23) : Int) := of_decide_eq_true pS
   have q332 : (ji23) < (l0_2.length : Int) := of_decide_eq_true pS
   obtain ⟨C6, C4, c332_5, e332, hx332_0, hx332_1, hx332_2, hx332_3, hx332_4, Cb, hx332_6, hx332_7, hx332_8, hx332_9, Ao, Ap⟩ := at_T55 (Kd.V_reads' Ah.out).2.2 (ji23) p332 q332
   cases e332
   obtain ⟨ce332, hce332, hMe332, hcc332⟩ := Kd.V_get Ah.out z55 (ji23) p332 (by first | exact q332 | exact of_decide_eq_true pS | (have e_ := (Kd.V_reads' Ah.out).1; omega))
   obtain ⟨ua332_5, uc332_5, rfl, ul332_5, ge332_5⟩ := k55_openF hMe332
   have hv332_5 := hcc332 5 _ rfl
   rw [add_field _ _ 5 (by omega)] at hv332_5
   replace hv332_5 := Option.some.inj (hv332_5.symm.trans Cb)
   injection hv332_5 with hva_ hvn_ hvc_
   rw [hva_] at ge332_5
   rw [hvc_] at ul332_5
   have HL332_5 := Am (show Kd.V (Kd.int .u8) 5 _ w.heap.size _ _ ((rd_T55 l0_2 (ji23)).f4.f1) from Kd.V_mk ul332_5 ge332_5)
   clear hva_ hvn_ hvc_ ge332_5 ul332_5
   clear hcc332 hce332
   have HR332_5 := Am Ap
   have HC332_5 := Am Ao
   clear Ap Ao
   replace p332 := eq_true p332
   replace q332 := eq_true q332
   go_wp2_with (first | ((with_reducible refine gate_builtin (b := .append) (xs := #[.tmp 29, .tmp 39]) rfl ?_); at_builtin; refine Kd.N_append k55 (w0 := w) w.heap.size rfl (.tmp 29) (.tmp 39) 22 55 (.agg #[(.int .i64 0), (.int .i64 0), (.int .i64 0), (.string ⟨#[]⟩), (.bool false), (.slice none 0 0), (.int .i64 0), (.int .i64 0), (.int .i64 0), (.int .u32 0)]) 104 rfl Try.underlying22 info55 rfl (by decide) (by omega) u7 Ak (⟨(rd_T55 l0_2 (ji23)).f0, (rd_T55 l0_2 (ji23)).f1, (rd_T55 l0_2 (ji23)).f2, (rd_T55 l0_2 (ji23)).f3, (⟨(rd_T55 l0_2 (ji23)).f4.f0, (rd_T55 l0_2 (ji23)).f4.f1, (⟨(rd_T55 l0_2 (ji23)).f4.f2.f0, (rd_T55 l0_2 (ji23)).f4.f2.f1, (rd_T55 l0_2 (ji23)).f4.f2.f2, (rd_T55 l0_2 (ji23)).f4.f2.f3⟩ : S51)⟩ : S53)⟩ : S55) [.int .i64 ((rd_T55 l0_2 (ji23)).f0), .int .i64 ((rd_T55 l0_2 (ji23)).f1), .int .i64 ((rd_T55 l0_2 (ji23)).f2), .string ((rd_T55 l0_2 (ji23)).f3), .bool ((rd_T55 l0_2 (ji23)).f4.f0), .slice C4 ((rd_T55 l0_2 (ji23)).f4.f1).length c332_5, .int .i64 ((rd_T55 l0_2 (ji23)).f4.f2.f0), .int .i64 ((rd_T55 l0_2 (ji23)).f4.f2.f1), .int .i64 ((rd_T55 l0_2 (ji23)).f4.f2.f2), .int .u32 ((rd_T55 l0_2 (ji23)).f4.f2.f3)] (fun k_ => (P0_2_ k_ ∨ w.heap.size ≤ k_) ∧ k_ ≠ Ac ∧ k_ ≠ Ab) (fun k_ => ((fun k_ => (P0_2_ k_ ∨ w.heap.size ≤ k_) ∧ k_ ≠ Ac ∧ k_ ≠ Ab)) k_ ∧ some k_ ≠ (u7 : Value).ownBlock) rfl rfl ?aP (fun _ hk => hk) ?aF ?aO ?aB ?aS ?aL ?_; (case aP => exact (k55_mkF _ _ (⟨(rd_T55 l0_2 (ji23)).f0, (rd_T55 l0_2 (ji23)).f1, (rd_T55 l0_2 (ji23)).f2, (rd_T55 l0_2 (ji23)).f3, (⟨(rd_T55 l0_2 (ji23)).f4.f0, (rd_T55 l0_2 (ji23)).f4.f1, (⟨(rd_T55 l0_2 (ji23)).f4.f2.f0, (rd_T55 l0_2 (ji23)).f4.f2.f1, (rd_T55 l0_2 (ji23)).f4.f2.f2, (rd_T55 l0_2 (ji23)).f4.f2.f3⟩ : S51)⟩ : S53)⟩ : S55) (Kd.V_reads' (Kd.V_mono (ok' := (fun k_ => ((fun k_ => (P0_2_ k_ ∨ w.heap.size ≤ k_) ∧ k_ ≠ Ac ∧ k_ ≠ Ab)) k_ ∧ some k_ ≠ (u7 : Value).ownBlock)) (HL332_5.out) (fun k_ hk => ⟨⟨hk.1, ⟨hk.2.2.1, hk.2.2.2⟩⟩, hk.2.1⟩))).2.1 (Kd.V_F (Kd.V_mono (ok' := (fun k_ => ((fun k_ => (P0_2_ k_ ∨ w.heap.size ≤ k_) ∧ k_ ≠ Ac ∧ k_ ≠ Ab)) k_ ∧ some k_ ≠ (u7 : Value).ownBlock)) (HL332_5.out) (fun k_ hk => ⟨⟨hk.1, ⟨hk.2.2.1, hk.2.2.2⟩⟩, hk.2.1⟩))))); (case aB => exact (pE2 HB.out Af.out Ai.out)); (case aF => exact (fun k_ hk => ⟨(.inr (Nat.le_trans (below_size (pE2 HB.out Af.out Ai.out)) hk)), kF Aa.out k_ hk, kF Ad.out k_ hk⟩)); (case aO => exact (pN Aq.out)); (case aS => exact (below_size (pE2 HB.out Af.out Ai.out))); (case aL => have := LMc26.out; omega); intro v334 w29 ho hb hg hat; rw [← Ny333.out] at ho; replace Ah := Am (Kd.V_afterv (ok := (fun k_ => (P0_2_ k_ ∨ w.heap.size ≤ k_) ∧ k_ ≠ Ac ∧ k_ ≠ Ab)) (by (with_reducible repeat (first | apply Kd.V_alloc | apply Kd.V_drewN | apply Kd.V_drew)); exact Kd.V_mono Ah.out (fun _ hk => ⟨⟨hk.1, ⟨hk.2.2.1, hk.2.2.2⟩⟩, hk.2.1⟩)) hg hat); replace Aa := Am (blk_grown (g := Ac) (o := .cells #[.int .i64 a0_0, .int .i64 a0_1, .slice (some C6) l0_2.length c0_2, .int .i64 a0_3, .int .i64 a0_4, .int .i64 a0_5, .int .i64 a0_6] 26 (0, 0)) (pK Aa.out) hg (Kd.N_ne Aq.out Aa.out (by decide))); replace Ad := Am (blk_grown (g := Ab) (o := .cells #[.int .i64 0, .int .i64 0, .slice none 0 0, .int .i64 0, .int .i64 0, .int .i64 0, .int .i64 0] 26 (0, 0)) (pK Ad.out) hg (Kd.N_ne Aq.out Ad.out (by decide))); replace HL332_5 := Am (Kd.V_afterv (ok := (fun k_ => (P0_2_ k_ ∨ w.heap.size ≤ k_) ∧ k_ ≠ Ac ∧ k_ ≠ Ab)) (by (with_reducible repeat (first | apply Kd.V_alloc | apply Kd.V_drewN | apply Kd.V_drew)); exact Kd.V_mono HL332_5.out (fun _ hk => ⟨⟨hk.1, ⟨hk.2.2.1, hk.2.2.2⟩⟩, hk.2.1⟩)) hg hat); replace HB := Am (hb); have C7 := Am (ho); clear Aq ho hb hg hat))
   go_roundg k1
   case measure => have := HK1.out; omega
   case rel => exact ⟨(y333), (wrap64 (Aj + 1)), (by first | rfl | (simp; done) | (simp [*]; done)), H', ⟨by have := HK1.out; omega⟩, ⟨by (with_reducible repeat (first | apply Kd.N_alloc | apply Kd.N_drewN | apply Kd.N_drew)); exact C7.out⟩, ⟨by (with_reducible repeat (first | apply Kd.V_alloc | apply Kd.V_drewN | apply Kd.V_drew)); exact Kd.V_mono Ah.out (fun _ hk => ⟨hk.1.1, ⟨hk.2, ⟨hk.1.2.1, hk.1.2.2⟩⟩⟩)⟩, ⟨pK Aa.out⟩, ⟨pK Ad.out⟩, ⟨pE2 HB.out Af.out Ai.out⟩⟩
def garnerref23_Term.f (a0_0 : Int) (a0_1 : Int) (l0_2 : List (S55)) (a0_3 : Int) (a0_4 : Int) (a0_5 : Int) (a0_6 : Int) (a1 : Int) : Option (Int) := if a1 = a0_0 then (some a0_1) else (if 0 ≤ (wrap64 ((wrap64 (a1 - a0_0)) - 1)) then (if (wrap64 ((wrap64 (a1 - a0_0)) - 1)) < (l0_2.length : Int) then (some ((rd_T55 l0_2 (wrap64 ((wrap64 (a1 - a0_0)) - 1))).f1)) else (none)) else (none))
set_option maxHeartbeats 8000000 in
set_option maxRecDepth 100000 in
theorem garnerref23_Term.calls (a0_0 : Int) (a0_1 : Int) (A0_2 : Option Addr) (c0_2 : Nat) (l0_2 : List (S55)) (a0_3 : Int) (a0_4 : Int) (a0_5 : Int) (a0_6 : Int) (a1 : Int) (r : Int) (w : World) (hr0_2 : Kd.C k55 w A0_2 l0_2.length l0_2) (hc0_2 : l0_2.length ≤ c0_2) (h : garnerref23_Term.f a0_0 a0_1 l0_2 a0_3 a0_4 a0_5 a0_6 a1 = some r) :
  Calls Try.prog 30 #[.agg #[.int .i64 a0_0, .int .i64 a0_1, .slice A0_2 l0_2.length c0_2, .int .i64 a0_3, .int .i64 a0_4, .int .i64 a0_5, .int .i64 a0_6], .int .i64 a1] w fun e w' => e = .returned (.int .i64 r) ∧ Below w.heap.size w w' := by
 have hu26 := Try.underlying26
 have Ar := Am hr0_2
 have HC0_2 := Am hc0_2
 clear hr0_2 hc0_2
 have HB := Am (Below.refl w.heap.size w)
 have H : (if a1 = a0_0 then (some a0_1) else (if 0 ≤ (wrap64 ((wrap64 (a1 - a0_0)) - 1)) then (if (wrap64 ((wrap64 (a1 - a0_0)) - 1)) < (l0_2.length : Int) then (some ((rd_T55 l0_2 (wrap64 ((wrap64 (a1 - a0_0)) - 1))).f1)) else (none)) else (none))) = some r := h
 clear h
 by_cases c3 : a1 = a0_0
 ·rw [if_pos c3] at H
  have c3b0 : (a1 == a0_0) = true := beq_iff_eq.mpr c3
  have c3b1 : (a1 != a0_0) = false := bne_eq_false_iff_eq.mpr c3
  clear c3
  obtain rfl := Option.some.inj H
  go_enter Try.func30, Try.ntmps30
  go_wp2_with (first | ((with_reducible refine gate_dst (N := 2) rfl ?_); refine box_event ?hg (N := 2) ?hd (cs := #[.int .i64 a0_0, .int .i64 a0_1, .slice A0_2 l0_2.length c0_2, .int .i64 a0_3, .int .i64 a0_4, .int .i64 a0_5, .int .i64 a0_6]) (t := 26) ?hr ?_; (case hd => rfl); (case hg => rfl); (case hr => first | (go_simp; done) | (go_simp; rfl)); intro Ao hg w4 hbox hb; have Aa := Am (hbox); have Ap := Am ((by rw [hg]; exact (below_size (pB HB.out)) : w.heap.size ≤ Ao)); replace HB := Am (below_step (pB HB.out) hb); have Aq := Ap; clear hb hbox hg; obtain ⟨_, _, _, _, _, _, _⟩ := bc7 Aa.out; obtain ⟨_, _, _, _, _, _, _⟩ := bf7 Aa.out))
  go_ret
  exact ⟨pX, pE HB.out Aq.out⟩
 rw [if_neg c3] at H
 have c3b0 : (a1 == a0_0) = false := beq_eq_false_iff_ne.mpr c3
 have c3b1 : (a1 != a0_0) = true := bne_iff_ne.mpr c3
 obtain ⟨ji6, hji6⟩ : ∃ j_ : Int, (wrap64 ((wrap64 (a1 - a0_0)) - 1)) = j_ := ⟨_, rfl⟩
 replace H : (if 0 ≤ (ji6) then (if (ji6) < (l0_2.length : Int) then (some ((rd_T55 l0_2 (ji6)).f1)) else (none)) else (none)) = some r := by first | (rw [hji6] at H; exact H) | (simp only [hji6] at H ⊢; exact H)
 have hji6w : (IntKind.i64.wrap ((wrap64 (a1 - a0_0)) - 1)) = ji6 := (i64_w _).trans hji6
 by_cases c7 : 0 ≤ (ji6)
 rotate_left
 ·rw [if_neg c7] at H
  exact absurd H (by simp)
 rw [if_pos c7] at H
 have c7b0 : decide (0 ≤ (ji6)) = true := decide_eq_true c7
 clear c7
 by_cases c8 : (ji6) < (l0_2.length : Int)
 rotate_left
 ·rw [if_neg c8] at H
  exact absurd H (by simp)
 rw [if_pos c8] at H
 have c8b0 : decide ((ji6) < (l0_2.length : Int)) = true := decide_eq_true c8
 clear c8
 obtain rfl := Option.some.inj H
 go_enter Try.func30, Try.ntmps30
 go_wp2_with (first | ((with_reducible refine gate_dst (N := 2) rfl ?_); refine box_event ?hg (N := 2) ?hd (cs := #[.int .i64 a0_0, .int .i64 a0_1, .slice A0_2 l0_2.length c0_2, .int .i64 a0_3, .int .i64 a0_4, .int .i64 a0_5, .int .i64 a0_6]) (t := 26) ?hr ?_; (case hd => rfl); (case hg => rfl); (case hr => first | (go_simp; done) | (go_simp; rfl)); intro Ao hg w9 hbox hb; have Aa := Am (hbox); have Ap := Am ((by rw [hg]; exact (below_size (pB HB.out)) : w.heap.size ≤ Ao)); replace HB := Am (below_step (pB HB.out) hb); have Aq := Ap; clear hb hbox hg; obtain ⟨_, _, _, _, _, _, _⟩ := bc7 Aa.out; obtain ⟨_, _, _, _, _, _, _⟩ := bf7 Aa.out; have p337 : 0 ≤ ((ji6) : Int) := of_decide_eq_true pS; have q337 : (ji6) < (l0_2.length : Int) := of_decide_eq_true pS; obtain ⟨ad337, A337_5, c337_5, e337, Ab, Ac, Ad, Ae, Af, Ag, Ah, Ai, Aj, Ak, Al, An⟩ := at_T55 Ar.out (ji6) p337 q337; cases e337; replace Ab := cU HB.out Ab; replace Ac := cU HB.out Ac; replace Ad := cU HB.out Ad; replace Ae := cU HB.out Ae; replace Af := cU HB.out Af; replace Ag := cU HB.out Ag; replace Ah := cU HB.out Ah; replace Ai := cU HB.out Ai; replace Aj := cU HB.out Aj; replace Ak := cU HB.out Ak; have HR337_5 := Am An; have HC337_5 := Am Al; clear An Al; replace p337 := eq_true p337; replace q337 := eq_true q337))
 go_ret
 exact ⟨by first | rfl | (simp [errW_none, errW_some] <;> rfl) | (simp only [← hji6]; first | rfl | (simp [errW_none, errW_some] <;> rfl)) | (simp [*, errW_none, errW_some] <;> rfl), pE HB.out Aq.out⟩
def garnerref23_Compact.f (a0_0 : Int) (a0_1 : Int) (l0_2 : List (S55)) (a0_3 : Int) (a0_4 : Int) (a0_5 : Int) (a0_6 : Int) (a1 : Int) : Option (Int × Int × (List (S55)) × Int × Int × Int × Int × Int) := if a1 ≤ a0_0 then (some (0, 0, ([] : List (S55)), 0, 0, 0, 0, 4)) else (if a1 > a0_6 then (some (0, 0, ([] : List (S55)), 0, 0, 0, 0, 3)) else ((garnerref23_Term.f a0_0 a0_1 l0_2 a0_3 a0_4 a0_5 a0_6 a1).bind fun t340 => ((some (([] : List (S55)) : List (S55))).bind fun y341 => (if 0 ≤ (wrap64 (a1 - a0_0)) then (if (wrap64 (a1 - a0_0)) ≤ (l0_2.length : Int) then ((some (l0_2.drop ((wrap64 (a1 - a0_0)) : Int).toNat : List (S55))).bind fun y344 => (if y341.length + y344.length < 1353245080339 then (some (a1, t340, (y341 ++ y344), a0_3, a0_4, a0_5, a0_6, 0)) else (none))) else (none)) else (none)))))
set_option maxHeartbeats 8000000 in
set_option maxRecDepth 100000 in
theorem garnerref23_Compact.calls (a0_0 : Int) (a0_1 : Int) (P0_2_ : Nat → Prop) (A0_2 : Option Addr) (c0_2 : Nat) (l0_2 : List (S55)) (a0_3 : Int) (a0_4 : Int) (a0_5 : Int) (a0_6 : Int) (a1 : Int) (r1 : Int) (r2 : Int) (r3 : List (S55)) (r4 : Int) (r5 : Int) (r6 : Int) (r7 : Int) (r8 : Int) (w : World) (hs0_2 : Kd.V k55 55 w w.heap.size (fun k_ => P0_2_ k_) (.slice A0_2 l0_2.length c0_2) l0_2) (h : garnerref23_Compact.f a0_0 a0_1 l0_2 a0_3 a0_4 a0_5 a0_6 a1 = some (r1, r2, r3, r4, r5, r6, r7, r8)) :
  Calls Try.prog 14 #[.agg #[.int .i64 a0_0, .int .i64 a0_1, .slice A0_2 l0_2.length c0_2, .int .i64 a0_3, .int .i64 a0_4, .int .i64 a0_5, .int .i64 a0_6], .int .i64 a1] w fun e w' => ∃ v2_ : Value, e = .returned (.tuple #[.agg #[.int .i64 r1, .int .i64 r2, v2_, .int .i64 r4, .int .i64 r5, .int .i64 r6, .int .i64 r7], .int .i64 r8]) ∧ Kd.N k55 55 w' w.heap.size (fun k_ => (P0_2_ k_ ∨ w.heap.size ≤ k_)) v2_ r3 ∧ Below w.heap.size w w' := by
 have hu26 := Try.underlying26
 have HO0_2 := Am (show Kd.V k55 55 w w.heap.size (fun k_ => (P0_2_ k_ ∨ w.heap.size ≤ k_)) (.slice A0_2 l0_2.length c0_2) l0_2 from Kd.V_mono hs0_2 (fun k_ hk => .inl hk))
 have HB := Am (Below.refl w.heap.size w)
 have H : (if a1 ≤ a0_0 then (some (0, 0, ([] : List (S55)), 0, 0, 0, 0, 4)) else (if a1 > a0_6 then (some (0, 0, ([] : List (S55)), 0, 0, 0, 0, 3)) else ((garnerref23_Term.f a0_0 a0_1 l0_2 a0_3 a0_4 a0_5 a0_6 a1).bind fun t340 => ((some (([] : List (S55)) : List (S55))).bind fun y341 => (if 0 ≤ (wrap64 (a1 - a0_0)) then (if (wrap64 (a1 - a0_0)) ≤ (l0_2.length : Int) then ((some (l0_2.drop ((wrap64 (a1 - a0_0)) : Int).toNat : List (S55))).bind fun y344 => (if y341.length + y344.length < 1353245080339 then (some (a1, t340, (y341 ++ y344), a0_3, a0_4, a0_5, a0_6, 0)) else (none))) else (none)) else (none)))))) = some (r1, r2, r3, r4, r5, r6, r7, r8) := h
 clear h
 by_cases c3 : a1 ≤ a0_0
 ·rw [if_pos c3] at H
  have c3b0 : decide (a1 ≤ a0_0) = true := decide_eq_true c3
  clear c3
  simp only [Option.some.injEq, Prod.mk.injEq] at H
  obtain ⟨rfl, rfl, rfl, rfl, rfl, rfl, rfl, rfl⟩ := H
  go_enter Try.func14, Try.ntmps14
  go_wp2_with (first | ((with_reducible refine gate_dst (N := 2) rfl ?_); refine box_event ?hg (N := 2) ?hd (cs := #[.int .i64 a0_0, .int .i64 a0_1, .slice A0_2 l0_2.length c0_2, .int .i64 a0_3, .int .i64 a0_4, .int .i64 a0_5, .int .i64 a0_6]) (t := 26) ?hr ?_; (case hd => rfl); (case hg => rfl); (case hr => first | (go_simp; done) | (go_simp; rfl)); intro Ac hg w4 hbox hb; replace HO0_2 := Am (Kd.V_below (Kd.V_elderB (pV HO0_2.out) Ac (Nat.le_of_eq hg.symm)) hb); have Aa := Am (hbox); have Aj := Am ((by rw [hg]; exact (below_size (pB HB.out)) : w.heap.size ≤ Ac)); replace HB := Am (below_step (pB HB.out) hb); have Ae := Aj; clear hb hbox hg) | ((with_reducible refine gate_dst (N := 4) rfl ?_); refine box_event ?hg (N := 4) ?hd (cs := #[.int .i64 0, .int .i64 0, .slice none 0 0, .int .i64 0, .int .i64 0, .int .i64 0, .int .i64 0]) (t := 26) ?hr ?_; (case hd => rfl); (case hg => rfl); (case hr => first | (go_simp; done) | (go_simp; rfl)); intro Ab hg w5 hbox hb; replace HO0_2 := Am (Kd.V_below (Kd.V_elderB (pV HO0_2.out) Ab (Nat.le_of_eq hg.symm)) hb); have Ad := Am (hbox); have Ak := Am ((by rw [hg]; exact (below_size (pE HB.out Ae.out)) : w.heap.size ≤ Ab)); replace HB := Am (below_step (pE HB.out Ae.out) hb); have Ah := Ak; have Ag := Am ((by rw [hg]; exact Nat.ne_of_lt (kL Aa.out) : Ac ≠ Ab)); have Af := Am ((by rw [hg]; exact Nat.ne_of_gt (kL Aa.out) : Ab ≠ Ac)); replace Aa := kBa Aa hb; clear hb hbox hg; have hnb6 := Ag.out; have hnc6 := Af.out; obtain ⟨_, _, _, _, _, _, _⟩ := bc7 Aa.out; obtain ⟨_, _, _, _, _, _, _⟩ := bf7 Aa.out; obtain ⟨_, _, _, _, _, _, _⟩ := bc7 Ad.out; obtain ⟨_, _, _, _, _, _, _⟩ := bf7 Ad.out))
  refine bodyPost_ret (results_ct rfl _ _ Ab 26 #[.int .i64 0, .int .i64 0, .slice none 0 0, .int .i64 0, .int .i64 0, .int .i64 0, .int .i64 0] (0, 0) _ rfl (kX0 Ad.out) Try.underlying26 rfl (by kernel_rfl)) rfl ?_
  exact ⟨_, pX, by first | exact Kd.S_nil _ _ _ _ _ | exact Kd.N_nil _ _ _ _ _ | exact Kd.V_nil _ _ _ _ _ | exact Kd.Q_nil _ _ _ _ _ | exact Kd.R_nil _ _ _ _ _, pE2 HB.out Ae.out Ah.out⟩
 rw [if_neg c3] at H
 have c3b0 : decide (a1 ≤ a0_0) = false := decide_eq_false c3
 clear c3
 by_cases c9 : a1 > a0_6
 ·rw [if_pos c9] at H
  have c9b0 : decide (a0_6 < a1) = true := decide_eq_true c9
  clear c9
  simp only [Option.some.injEq, Prod.mk.injEq] at H
  obtain ⟨rfl, rfl, rfl, rfl, rfl, rfl, rfl, rfl⟩ := H
  go_enter Try.func14, Try.ntmps14
  go_wp2_with (first | ((with_reducible refine gate_dst (N := 2) rfl ?_); refine box_event ?hg (N := 2) ?hd (cs := #[.int .i64 a0_0, .int .i64 a0_1, .slice A0_2 l0_2.length c0_2, .int .i64 a0_3, .int .i64 a0_4, .int .i64 a0_5, .int .i64 a0_6]) (t := 26) ?hr ?_; (case hd => rfl); (case hg => rfl); (case hr => first | (go_simp; done) | (go_simp; rfl)); intro Ac hg w10 hbox hb; replace HO0_2 := Am (Kd.V_below (Kd.V_elderB (pV HO0_2.out) Ac (Nat.le_of_eq hg.symm)) hb); have Aa := Am (hbox); have Aj := Am ((by rw [hg]; exact (below_size (pB HB.out)) : w.heap.size ≤ Ac)); replace HB := Am (below_step (pB HB.out) hb); have Ae := Aj; clear hb hbox hg) | ((with_reducible refine gate_dst (N := 4) rfl ?_); refine box_event ?hg (N := 4) ?hd (cs := #[.int .i64 0, .int .i64 0, .slice none 0 0, .int .i64 0, .int .i64 0, .int .i64 0, .int .i64 0]) (t := 26) ?hr ?_; (case hd => rfl); (case hg => rfl); (case hr => first | (go_simp; done) | (go_simp; rfl)); intro Ab hg w11 hbox hb; replace HO0_2 := Am (Kd.V_below (Kd.V_elderB (pV HO0_2.out) Ab (Nat.le_of_eq hg.symm)) hb); have Ad := Am (hbox); have Ak := Am ((by rw [hg]; exact (below_size (pE HB.out Ae.out)) : w.heap.size ≤ Ab)); replace HB := Am (below_step (pE HB.out Ae.out) hb); have Ah := Ak; have Ag := Am ((by rw [hg]; exact Nat.ne_of_lt (kL Aa.out) : Ac ≠ Ab)); have Af := Am ((by rw [hg]; exact Nat.ne_of_gt (kL Aa.out) : Ab ≠ Ac)); replace Aa := kBa Aa hb; clear hb hbox hg; have hnb12 := Ag.out; have hnc12 := Af.out; obtain ⟨_, _, _, _, _, _, _⟩ := bc7 Aa.out; obtain ⟨_, _, _, _, _, _, _⟩ := bf7 Aa.out; obtain ⟨_, _, _, _, _, _, _⟩ := bc7 Ad.out; obtain ⟨_, _, _, _, _, _, _⟩ := bf7 Ad.out))
  refine bodyPost_ret (results_ct rfl _ _ Ab 26 #[.int .i64 0, .int .i64 0, .slice none 0 0, .int .i64 0, .int .i64 0, .int .i64 0, .int .i64 0] (0, 0) _ rfl (kX0 Ad.out) Try.underlying26 rfl (by kernel_rfl)) rfl ?_
  exact ⟨_, pX, by first | exact Kd.S_nil _ _ _ _ _ | exact Kd.N_nil _ _ _ _ _ | exact Kd.V_nil _ _ _ _ _ | exact Kd.Q_nil _ _ _ _ _ | exact Kd.R_nil _ _ _ _ _, pE2 HB.out Ae.out Ah.out⟩
 rw [if_neg c9] at H
 have c9b0 : decide (a0_6 < a1) = false := decide_eq_false c9
 clear c9
 replace H := Option.bind_eq_some_iff.mp H
 obtain ⟨t340, A150, H⟩ := H
 replace H : ((some (([] : List (S55)) : List (S55))).bind fun y341 => (if 0 ≤ (wrap64 (a1 - a0_0)) then (if (wrap64 (a1 - a0_0)) ≤ (l0_2.length : Int) then ((some (l0_2.drop ((wrap64 (a1 - a0_0)) : Int).toNat : List (S55))).bind fun y344 => (if y341.length + y344.length < 1353245080339 then (some (a1, t340, (y341 ++ y344), a0_3, a0_4, a0_5, a0_6, 0)) else (none))) else (none)) else (none))) = some (r1, r2, r3, r4, r5, r6, r7, r8) := H
 have A15 := Am A150
 clear A150
 obtain ⟨y341, hy341⟩ : ∃ y_ : List (S55), y_ = (([] : List (S55))) := ⟨_, rfl⟩
 replace H : (if 0 ≤ (wrap64 (a1 - a0_0)) then (if (wrap64 (a1 - a0_0)) ≤ (l0_2.length : Int) then ((some (l0_2.drop ((wrap64 (a1 - a0_0)) : Int).toNat : List (S55))).bind fun y344 => (if y341.length + y344.length < 1353245080339 then (some (a1, t340, (y341 ++ y344), a0_3, a0_4, a0_5, a0_6, 0)) else (none))) else (none)) else (none)) = some (r1, r2, r3, r4, r5, r6, r7, r8) := by first | (rw [hy341]; with_reducible exact H) | (have H2_ := (Option.bind_some _ _).symm.trans H; rw [hy341]; with_reducible exact H2_) | (have H2_ := (Option.bind_some _ _).symm.trans H; with_reducible exact H2_) | with_reducible exact H | (rw [hy341]; exact H) | exact H
 have Ny341 := Am hy341
 clear hy341
 obtain ⟨ji16, hji16⟩ : ∃ j_ : Int, (wrap64 (a1 - a0_0)) = j_ := ⟨_, rfl⟩
 replace H : (if 0 ≤ (ji16) then (if (ji16) ≤ (l0_2.length : Int) then ((some (l0_2.drop ((ji16) : Int).toNat : List (S55))).bind fun y344 => (if y341.length + y344.length < 1353245080339 then (some (a1, t340, (y341 ++ y344), a0_3, a0_4, a0_5, a0_6, 0)) else (none))) else (none)) else (none)) = some (r1, r2, r3, r4, r5, r6, r7, r8) := by first | (rw [hji16] at H; exact H) | (simp only [hji16] at H ⊢; exact H)
 (try rw [hji16] at A15)
 have hji16w : (IntKind.i64.wrap (a1 - a0_0)) = ji16 := (i64_w _).trans hji16
 by_cases c17 : 0 ≤ (ji16)
 rotate_left
 ·rw [if_neg c17] at H
  exact absurd H (by simp)
 rw [if_pos c17] at H
 have c17b0 := eq_true c17
 have c17b1 : decide (0 ≤ (ji16)) = true := decide_eq_true c17
 clear c17
 by_cases c18 : (ji16) ≤ (l0_2.length : Int)
 rotate_left
 ·rw [if_neg c18] at H
  exact absurd H (by simp)
 rw [if_pos c18] at H
 have c18b0 := eq_true c18
 have c18b1 : decide ((ji16) ≤ (l0_2.length : Int)) = true := decide_eq_true c18
 clear c18
 obtain ⟨y344, hy344⟩ : ∃ y_ : List (S55), y_ = (l0_2.drop ((ji16) : Int).toNat) := ⟨_, rfl⟩
 replace H : (if y341.length + y344.length < 1353245080339 then (some (a1, t340, (y341 ++ y344), a0_3, a0_4, a0_5, a0_6, 0)) else (none)) = some (r1, r2, r3, r4, r5, r6, r7, r8) := by first | (rw [hy344]; with_reducible exact H) | (have H2_ := (Option.bind_some _ _).symm.trans H; rw [hy344]; with_reducible exact H2_) | (have H2_ := (Option.bind_some _ _).symm.trans H; with_reducible exact H2_) | with_reducible exact H | (rw [hy344]; exact H) | exact H
 have Ny344 := Am hy344
 clear hy344
 by_cases c19 : y341.length + y344.length < 1353245080339
 rotate_left
 ·rw [if_neg c19] at H
  exact absurd H (by simp)
 rw [if_pos c19] at H
 have LMc19 := Am c19
 clear c19
 obtain ⟨y349, hy349⟩ : ∃ y_ : List (S55), y_ = (y341 ++ y344) := ⟨_, rfl⟩
 replace H : (some (a1, t340, y349, a0_3, a0_4, a0_5, a0_6, 0)) = some (r1, r2, r3, r4, r5, r6, r7, r8) := by first | (rw [hy349]; with_reducible exact H) | (have H2_ := (Option.bind_some _ _).symm.trans H; rw [hy349]; with_reducible exact H2_) | (have H2_ := (Option.bind_some _ _).symm.trans H; with_reducible exact H2_) | with_reducible exact H | (rw [hy349]; exact H) | exact H
 have Ny349 := Am hy349
 clear hy349
 simp only [Option.some.injEq, Prod.mk.injEq] at H
 obtain ⟨rfl, rfl, rfl, rfl, rfl, rfl, rfl, rfl⟩ := H
 go_enter Try.func14, Try.ntmps14
 go_wp2_with (first | ((with_reducible refine gate_dst (N := 2) rfl ?_); refine box_event ?hg (N := 2) ?hd (cs := #[.int .i64 a0_0, .int .i64 a0_1, .slice A0_2 l0_2.length c0_2, .int .i64 a0_3, .int .i64 a0_4, .int .i64 a0_5, .int .i64 a0_6]) (t := 26) ?hr ?_; (case hd => rfl); (case hg => rfl); (case hr => first | (go_simp; done) | (go_simp; rfl)); intro Ac hg w20 hbox hb; replace HO0_2 := Am (Kd.V_below (Kd.V_elderB (pV HO0_2.out) Ac (Nat.le_of_eq hg.symm)) hb); have Aa := Am (hbox); have Aj := Am ((by rw [hg]; exact (below_size (pB HB.out)) : w.heap.size ≤ Ac)); replace HB := Am (below_step (pB HB.out) hb); have Ae := Aj; clear hb hbox hg) | ((with_reducible refine gate_dst (N := 4) rfl ?_); refine box_event ?hg (N := 4) ?hd (cs := #[.int .i64 0, .int .i64 0, .slice none 0 0, .int .i64 0, .int .i64 0, .int .i64 0, .int .i64 0]) (t := 26) ?hr ?_; (case hd => rfl); (case hg => rfl); (case hr => first | (go_simp; done) | (go_simp; rfl)); intro Ab hg w21 hbox hb; replace HO0_2 := Am (Kd.V_below (Kd.V_elderB (pV HO0_2.out) Ab (Nat.le_of_eq hg.symm)) hb); have Ad := Am (hbox); have Ak := Am ((by rw [hg]; exact (below_size (pE HB.out Ae.out)) : w.heap.size ≤ Ab)); replace HB := Am (below_step (pE HB.out Ae.out) hb); have Ah := Ak; have Ag := Am ((by rw [hg]; exact Nat.ne_of_lt (kL Aa.out) : Ac ≠ Ab)); have Af := Am ((by rw [hg]; exact Nat.ne_of_gt (kL Aa.out) : Ab ≠ Ac)); replace Aa := kBa Aa hb; clear hb hbox hg; have hnb22 := Ag.out; have hnc22 := Af.out; obtain ⟨_, _, _, _, _, _, _⟩ := bc7 Aa.out; obtain ⟨_, _, _, _, _, _, _⟩ := bf7 Aa.out) | ((with_reducible refine gate_callee (f := 30) rfl ?_); refine goesL_ (some 20) rfl rfl Try.func30 (by kernel_rfl) rfl #[.agg #[.int .i64 a0_0, .int .i64 a0_1, .slice A0_2 l0_2.length c0_2, .int .i64 a0_3, .int .i64 a0_4, .int .i64 a0_5, .int .i64 a0_6], .int .i64 a1] rfl pL ?_; (with_reducible refine (garnerref23_Term.calls a0_0 a0_1 _ _ l0_2 a0_3 a0_4 a0_5 a0_6 a1 t340 _ ?Av ?Aw A15.out).mono ?_); (case Av => exact pC (Kd.V_reads' HO0_2.out).2.2); (case Aw => exact (Kd.V_reads' HO0_2.out).2.1); rintro e w24 ⟨rfl, hb⟩; refine ⟨_, rfl, ?_⟩; replace HO0_2 := bVa HO0_2 hb; replace Aa := kBa Aa hb; replace Ad := kBa Ad hb; replace HB := Am (below_step (pE2 HB.out Ae.out Ah.out) hb); (try clear hb); (try clear hb2); (try clear hk); (try clear hi)) | ((with_reducible refine gate_dst (N := 21) rfl ?_); refine Kd.N_lit k55 _ 55 ?hg (N' := 21) ?hd (xs := ([] : List (S55))) (inner := []) (ok := (fun k_ => (P0_2_ k_ ∨ w.heap.size ≤ k_) ∧ k_ ≠ Ac ∧ k_ ≠ Ab)) (okp := (fun k_ => (P0_2_ k_ ∨ w.heap.size ≤ k_) ∧ k_ ≠ Ac ∧ k_ ≠ Ab)) ?hr ?hp (fun _ hk => hk) ((show ∀ k_, w24.heap.size ≤ k_ → (fun k_ => (P0_2_ k_ ∨ w.heap.size ≤ k_) ∧ k_ ≠ Ac ∧ k_ ≠ Ab) k_ from fun k_ hk => ⟨(.inr (Nat.le_trans (below_size (pE2 HB.out Ae.out Ah.out)) hk)), kF Aa.out k_ hk, kF Ad.out k_ hk⟩) _ (Nat.le_refl _)) (Below.refl _ _) (Nat.le_refl _) (by simp) ?_; (case hd => rfl); (case hg => rfl); (case hr => first | (go_simp; done) | (go_simp; rfl)); (case hp => exact (Reps.none _ _)); intro v342 w25 ho26 hb hg_ hnew_; clear hg_ hnew_; (first | rw [← Ny341.out] at ho26 | (simp only [Int.reduceToNat] at ho26; rw [← Ny341.out] at ho26)); replace HO0_2 := Am (Kd.V_elder' (pV HO0_2.out) (Kd.N_base ho26) hb); have Al := Am (Kd.N_lower ho26 (below_size (pE2 HB.out Ae.out Ah.out))); replace Aa := kBa Aa hb; replace Ad := kBa Ad hb; replace HB := Am (below_step (pE2 HB.out Ae.out Ah.out) hb); clear hb ho26; obtain ⟨_, _, _, _, _, _, _⟩ := bc7 Aa.out; obtain ⟨_, _, _, _, _, _, _⟩ := bf7 Aa.out; have q28 : ((ji16) : Int) ≤ ((l0_2.length : Int) : Int) := of_decide_eq_true pS; obtain ⟨i028, hi028, _, Ap, _⟩ := info_parts info55; have Ai : l0_2.length ≤ c0_2 := (Kd.V_reads' HO0_2.out).2.1; have As : Kd.F k55 _ _ A0_2 l0_2.length l0_2 := (Kd.V_at (base := w.heap.size) HO0_2.out).2.2; have q028 : (0 : Int) ≤ ((ji16) : Int) := of_decide_eq_true pS; have Ar := cut_from (P := Try.prog) 22 55 .i64 Try.underlying22 hi028 10 Ap A0_2 l0_2.length c0_2 (ji16) q028 q28; have An := Kd.F_cut (m := ((ji16) : Int).toNat) (c := c0_2) As (by omega) Ai; obtain ⟨A28, hA28⟩ : ∃ AX_, AX_ = (if c0_2 = ((ji16) : Int).toNat then A0_2 else (A0_2 : Option Addr).map (·.add (((ji16) : Int).toNat * 10))) := ⟨_, rfl⟩; obtain ⟨c28, hc28⟩ : ∃ cX_, cX_ = c0_2 - ((ji16) : Int).toNat := ⟨_, rfl⟩; have hy28 : y344.length = l0_2.length - ((ji16) : Int).toNat := (by rw [Ny344.out, List.length_drop] <;> omega); rw [show (l0_2).drop ((ji16) : Int).toNat = y344 from Ny344.out.symm] at An; replace An : Kd.F k55 _ _ A28 y344.length y344 := (by rw [hA28]; exact An); rw [← hy28, ← hA28, ← hc28] at Ar; have Ao := Am (show Kd.V k55 55 _ w.heap.size _ (.slice A28 y344.length c28) y344 from Kd.V_mk (by rw [hy28, hc28]; exact Nat.sub_le_sub_right Ai _) An); have HC348 := Am (show y344.length ≤ c28 from by rw [hy28, hc28]; exact Nat.sub_le_sub_right Ai _); clear An As Ai hi028 Ap hc28; have KY28 := Am hy28; have KA28 := Am hA28; clear hy28 hA28; replace q28 := eq_true q28) | ((with_reducible refine gate_builtin (b := .append) (xs := #[.tmp 21, .tmp 28]) rfl ?_); at_builtin; refine Kd.N_append_rows k55 (w0 := w) w.heap.size rfl (.tmp 21) (.tmp 28) 22 55 (.agg #[(.int .i64 0), (.int .i64 0), (.int .i64 0), (.string ⟨#[]⟩), (.bool false), (.slice none 0 0), (.int .i64 0), (.int .i64 0), (.int .i64 0), (.int .u32 0)]) 104 rfl Try.underlying22 info55 rfl (by decide) (by omega) v342 y341 y344 _ _ _ (fun k_ => (P0_2_ k_ ∨ w.heap.size ≤ k_) ∧ k_ ≠ Ac ∧ k_ ≠ Ab) (fun k_ => ((fun k_ => (P0_2_ k_ ∨ w.heap.size ≤ k_) ∧ k_ ≠ Ac ∧ k_ ≠ Ab)) k_ ∧ some k_ ≠ (v342 : Value).ownBlock) rfl rfl ?aO ?aR (fun _ hk => hk) ?aF ?aB ?aS ?aL ?_; (case aR => exact (by skip; exact Kd.V_F (Kd.V_mono (ok' := (fun k_ => ((fun k_ => (P0_2_ k_ ∨ w.heap.size ≤ k_) ∧ k_ ≠ Ac ∧ k_ ≠ Ab)) k_ ∧ some k_ ≠ (v342 : Value).ownBlock)) (Ao.out) (fun k_ hk => ⟨⟨hk.1.1.1, ⟨hk.1.1.2, hk.1.2⟩⟩, hk.2⟩)))); (case aB => exact (pE2 HB.out Ae.out Ah.out)); (case aF => exact (fun k_ hk => ⟨(.inr (Nat.le_trans (below_size (pE2 HB.out Ae.out Ah.out)) hk)), kF Aa.out k_ hk, kF Ad.out k_ hk⟩)); (case aO => exact (pN Al.out)); (case aS => exact (below_size (pE2 HB.out Ae.out Ah.out))); (case aL => have := LMc19.out; omega); intro v350 w29 ho hb hg hat; rw [← Ny349.out] at ho; replace HO0_2 := Am (Kd.V_afterv (ok := (fun k_ => (P0_2_ k_ ∨ w.heap.size ≤ k_) ∧ k_ ≠ Ac ∧ k_ ≠ Ab)) (by (with_reducible repeat (first | apply Kd.V_alloc | apply Kd.V_drewN | apply Kd.V_drew)); exact Kd.V_mono HO0_2.out (fun _ hk => ⟨⟨hk.1.1.1, ⟨hk.1.1.2, hk.1.2⟩⟩, hk.2⟩)) hg hat); replace Aa := Am (blk_grown (g := Ac) (o := .cells #[.int .i64 a0_0, .int .i64 a0_1, .slice A0_2 l0_2.length c0_2, .int .i64 a0_3, .int .i64 a0_4, .int .i64 a0_5, .int .i64 a0_6] 26 (0, 0)) (pK Aa.out) hg (Kd.N_ne Al.out Aa.out (by decide))); replace Ad := Am (blk_grown (g := Ab) (o := .cells #[.int .i64 0, .int .i64 0, .slice none 0 0, .int .i64 0, .int .i64 0, .int .i64 0, .int .i64 0] 26 (0, 0)) (pK Ad.out) hg (Kd.N_ne Al.out Ad.out (by decide))); replace Ao := Am (Kd.V_afterv (ok := (fun k_ => (P0_2_ k_ ∨ w.heap.size ≤ k_) ∧ k_ ≠ Ac ∧ k_ ≠ Ab)) (by (with_reducible repeat (first | apply Kd.V_alloc | apply Kd.V_drewN | apply Kd.V_drew)); exact Kd.V_mono Ao.out (fun _ hk => ⟨⟨hk.1.1.1, ⟨hk.1.1.2, hk.1.2⟩⟩, hk.2⟩)) hg hat); replace HB := Am (hb); have Aq := Am (ho); clear Al ho hb hg hat; obtain ⟨_, _, _, _, _, _, _⟩ := bc7 Aa.out; obtain ⟨_, _, _, _, _, _, _⟩ := bf7 Aa.out; obtain ⟨At, Au, Ax⟩ := Kd.N_slice Aq.out; subst Ax; obtain ⟨_, _, _, _, _, _, _⟩ := bc7 Ad.out; obtain ⟨_, _, _, _, _, _, _⟩ := bf7 Ad.out))
 refine bodyPost_ret (results_ct rfl _ _ Ab 26 #[.int .i64 a1, .int .i64 t340, .slice At y349.length Au, .int .i64 a0_3, .int .i64 a0_4, .int .i64 a0_5, .int .i64 a0_6] (0, 0) _ rfl (kX1 Ad.out Af.out) Try.underlying26 rfl (by kernel_rfl)) rfl ?_
 exact ⟨_, by first | rfl | (simp [errW_none, errW_some] <;> rfl) | (simp only [← hji16]; first | rfl | (simp [errW_none, errW_some] <;> rfl)) | (simp [*, errW_none, errW_some] <;> rfl), by (with_reducible repeat (first | apply Kd.N_alloc | apply Kd.N_drewN | apply Kd.N_drew)); have h0_ := Kd.N_mono (Kd.N_mono Aq.out (fun k_ hk => (⟨hk, hk.2.1⟩ : _ ∧ k_ ≠ Ac))) (fun k_ hk => (⟨hk, hk.1.2.2⟩ : _ ∧ k_ ≠ Ab)); have h1_ := Kd.N_far (p := ⟨Ac, 0, none⟩) h0_ (fun _ hk => hk.1.2) (.int .i64 a1); have h2_ := Kd.N_far (p := ⟨Ac, 1, none⟩) h1_ (fun _ hk => hk.1.2) (.int .i64 t340); have h3_ := Kd.N_far (p := ⟨Ac, 2, none⟩) h2_ (fun _ hk => hk.1.2) (.slice At y349.length Au); exact Kd.N_mono (Nf7 (g := Ab) (h3_) (fun _ hk => hk.2)) (fun _ hk => hk.1.1.1), pE2 HB.out Ae.out Ah.out⟩
end Go.Proofs.Ytangfpcifdpfeaa.PRaftTurns
