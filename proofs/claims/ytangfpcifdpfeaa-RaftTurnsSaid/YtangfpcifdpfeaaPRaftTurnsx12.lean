/- What the law reaches, as plain Lean functions, and that the machine's calls answer just that. -/
import Derived.Test.YtangfpcifdpfeaaPRaftTurnsx0
import Derived.Test.YtangfpcifdpfeaaPRaftTurnsx2
import Derived.Test.YtangfpcifdpfeaaPRaftTurnsx11
namespace Go.Proofs.Ytangfpcifdpfeaa.PRaftTurns
open Go.RowKit Go.Proofs.YtangfpcifdpfeaaW.PrintWords Go.Proofs.YtangfpcifdpfeaaW.PrintLast Go.Proofs.YtangfpcifdpfeaaW.PrintMore
attribute [local go_sem] max2_int min2_int max_two min_two max_three min_three max_four min_four
set_option linter.unusedVariables false
set_option linter.unusedSimpArgs false
attribute [local go_sem] wrap64_l1 wrap64_l2 wrap64_l3 wrap64_l4 wrap64_l5
attribute [local go_sem high] eqA51
def garnerref23_May.j0 : Nat → Bool → Int → Int → List (S55) → Int → Int → Int → Int → Option (Bool)
 | 0, _, _, _, _, _, _, _, _ => none
 | k + 1, x47, x290000, x290001, x290002, x290003, x290004, x290005, x290006 => if x47 = true then (some false) else (if (x290002.length : Int) > 0 then (if 0 < (x290002.length : Int) then (if (wrap64 (((rd_T55 x290002 0).f0) - 1)) = x290000 then (if ((rd_T55 x290002 0).f1) < x290001 then (some false) else (if x290000 ≤ x290006 then (if x290006 ≤ x290005 then (some (decide (x290005 ≤ (wrap64 (x290000 + (x290002.length : Int)))))) else (some false)) else (some false))) else (some false)) else (none)) else (if x290000 ≤ x290006 then (if x290006 ≤ x290005 then (some (decide (x290005 ≤ (wrap64 (x290000 + (x290002.length : Int)))))) else (some false)) else (some false)))
def garnerref23_May.f (k : Nat) (a0_0 : Int) (a0_1 : Int) (l0_2 : List (S55)) (a0_3 : Int) (a0_4 : Int) (a0_5 : Int) (a0_6 : Int) : Option (Bool) := if a0_0 < 0 then (garnerref23_May.j0 k true a0_0 a0_1 l0_2 a0_3 a0_4 a0_5 a0_6) else (if a0_0 > 2147483647 then (garnerref23_May.j0 k true a0_0 a0_1 l0_2 a0_3 a0_4 a0_5 a0_6) else (if a0_1 < 0 then (garnerref23_May.j0 k true a0_0 a0_1 l0_2 a0_3 a0_4 a0_5 a0_6) else (if a0_1 > 2147483647 then (garnerref23_May.j0 k true a0_0 a0_1 l0_2 a0_3 a0_4 a0_5 a0_6) else (if ((a0_0 == 0) != (a0_1 == 0)) = true then (garnerref23_May.j0 k true a0_0 a0_1 l0_2 a0_3 a0_4 a0_5 a0_6) else (if (l0_2.length : Int) > 1000 then (garnerref23_May.j0 k true a0_0 a0_1 l0_2 a0_3 a0_4 a0_5 a0_6) else ((garnerref23_Rows.f k l0_2).bind fun t290 => (if t290 = true then ((garnerref22_May.f a0_3 a0_4 a0_5).bind fun t291 => (garnerref23_May.j0 k (!t291) a0_0 a0_1 l0_2 a0_3 a0_4 a0_5 a0_6)) else (garnerref23_May.j0 k true a0_0 a0_1 l0_2 a0_3 a0_4 a0_5 a0_6))))))))
theorem garnerref23_May.mono_l : ∀ k, (∀ y0 y1 y2 y3 y4 y5 y6 y7, LeO (garnerref23_May.j0 k y0 y1 y2 y3 y4 y5 y6 y7) (garnerref23_May.j0 (k + 1) y0 y1 y2 y3 y4 y5 y6 y7))
 | 0 => fun _ _ _ _ _ _ _ _ r h => by simp [garnerref23_May.j0] at h
 | k + 1 => by
  have ih0 := garnerref23_May.mono_l k
  ·intro y0 y1 y2 y3 y4 y5 y6 y7
   unfold garnerref23_May.j0
   repeat' first
   | (with_reducible exact ih0 _ _ _ _ _ _ _ _)
   | (with_reducible exact garnerref23_Rows.mono _ _)
   | (with_reducible exact LeO.refl _)
   | (with_reducible exact LeO.none _)
   | (with_reducible refine LeO.ite ?_ ?_)
   | (with_reducible refine LeO.bind ?_ (fun _ => ?_))
   | exact ih0 _ _ _ _ _ _ _ _
   | exact garnerref23_Rows.mono _ _
   | exact LeO.none _
   | refine LeO.ite ?_ ?_
   | refine LeO.bind ?_ (fun _ => ?_)
theorem garnerref23_May.mono : ∀ a0 a1 a2 a3 a4 a5 a6 k, LeO (garnerref23_May.f k a0 a1 a2 a3 a4 a5 a6) (garnerref23_May.f (k + 1) a0 a1 a2 a3 a4 a5 a6) := by
 intro a0 a1 a2 a3 a4 a5 a6 k
 have ih0 := garnerref23_May.mono_l k
 unfold garnerref23_May.f
 repeat' first
   | (with_reducible exact ih0 _ _ _ _ _ _ _ _)
   | (with_reducible exact garnerref23_Rows.mono _ _)
   | (with_reducible exact LeO.refl _)
   | (with_reducible exact LeO.none _)
   | (with_reducible refine LeO.ite ?_ ?_)
   | (with_reducible refine LeO.bind ?_ (fun _ => ?_))
   | exact ih0 _ _ _ _ _ _ _ _
   | exact garnerref23_Rows.mono _ _
   | exact LeO.none _
   | refine LeO.ite ?_ ?_
   | refine LeO.bind ?_ (fun _ => ?_)
set_option maxHeartbeats 8000000 in
set_option maxRecDepth 100000 in
theorem garnerref23_May.calls (k : Nat) (a0_0 : Int) (a0_1 : Int) (A0_2 : Option Addr) (c0_2 : Nat) (l0_2 : List (S55)) (a0_3 : Int) (a0_4 : Int) (a0_5 : Int) (a0_6 : Int) (r : Bool) (w : World) (hr0_2 : Kd.C k55 w A0_2 l0_2.length l0_2) (hc0_2 : l0_2.length ≤ c0_2) (h : garnerref23_May.f k a0_0 a0_1 l0_2 a0_3 a0_4 a0_5 a0_6 = some r) :
  Calls Try.prog 10 #[.agg #[.int .i64 a0_0, .int .i64 a0_1, .slice A0_2 l0_2.length c0_2, .int .i64 a0_3, .int .i64 a0_4, .int .i64 a0_5, .int .i64 a0_6]] w fun e w' => e = .returned (.bool r) ∧ Below w.heap.size w w' := by
 have hu26 := Try.underlying26
 have hu24 := Try.underlying24
 have Ag := Am hr0_2
 have Az := Am hc0_2
 clear hr0_2 hc0_2
 have HB := Am (Below.refl w.heap.size w)
 have H : (if a0_0 < 0 then (garnerref23_May.j0 k true a0_0 a0_1 l0_2 a0_3 a0_4 a0_5 a0_6) else (if a0_0 > 2147483647 then (garnerref23_May.j0 k true a0_0 a0_1 l0_2 a0_3 a0_4 a0_5 a0_6) else (if a0_1 < 0 then (garnerref23_May.j0 k true a0_0 a0_1 l0_2 a0_3 a0_4 a0_5 a0_6) else (if a0_1 > 2147483647 then (garnerref23_May.j0 k true a0_0 a0_1 l0_2 a0_3 a0_4 a0_5 a0_6) else (if ((a0_0 == 0) != (a0_1 == 0)) = true then (garnerref23_May.j0 k true a0_0 a0_1 l0_2 a0_3 a0_4 a0_5 a0_6) else (if (l0_2.length : Int) > 1000 then (garnerref23_May.j0 k true a0_0 a0_1 l0_2 a0_3 a0_4 a0_5 a0_6) else ((garnerref23_Rows.f k l0_2).bind fun t290 => (if t290 = true then ((garnerref22_May.f a0_3 a0_4 a0_5).bind fun t291 => (garnerref23_May.j0 k (!t291) a0_0 a0_1 l0_2 a0_3 a0_4 a0_5 a0_6)) else (garnerref23_May.j0 k true a0_0 a0_1 l0_2 a0_3 a0_4 a0_5 a0_6))))))))) = some r := h
 clear h
 have HC2 := Am H
 clear H
 go_enter Try.func10, Try.ntmps10
 go_upto_region 1 with (first | ((with_reducible refine gate_dst (N := 1) rfl ?_); (try (refine gate_guard (by rfl) ?_; dsimp only)); refine box_event ?hg (N := 1) ?hd (cs := #[.int .i64 a0_0, .int .i64 a0_1, .slice A0_2 l0_2.length c0_2, .int .i64 a0_3, .int .i64 a0_4, .int .i64 a0_5, .int .i64 a0_6]) (t := 26) ?hr ?_; (case hd => rfl); (case hg => rfl); (case hr => first | (go_simp; done) | (go_simp; rfl)); intro A0 hg w3 hbox hb; have Aa := Am (hbox); have Br := Am ((by rw [hg]; exact (below_size (pB HB.out)) : w.heap.size ≤ A0)); replace HB := Am (below_step (pB HB.out) hb); have Ab := Br; clear hb hbox hg))
 repeat (go_quiet (first | ((with_reducible refine gate_dst (N := 1) rfl ?_); (try (refine gate_guard (by rfl) ?_; dsimp only)); refine box_event ?hg (N := 1) ?hd (cs := #[.int .i64 a0_0, .int .i64 a0_1, .slice A0_2 l0_2.length c0_2, .int .i64 a0_3, .int .i64 a0_4, .int .i64 a0_5, .int .i64 a0_6]) (t := 26) ?hr ?_; (case hd => rfl); (case hg => rfl); (case hr => first | (go_simp; done) | (go_simp; rfl)); intro A0 hg w3 hbox hb; have Aa := Am (hbox); have Br := Am ((by rw [hg]; exact (below_size (pB HB.out)) : w.heap.size ≤ A0)); replace HB := Am (below_step (pB HB.out) hb); have Ab := Br; clear hb hbox hg)); go_upto_region 1 with (first | ((with_reducible refine gate_dst (N := 1) rfl ?_); (try (refine gate_guard (by rfl) ?_; dsimp only)); refine box_event ?hg (N := 1) ?hd (cs := #[.int .i64 a0_0, .int .i64 a0_1, .slice A0_2 l0_2.length c0_2, .int .i64 a0_3, .int .i64 a0_4, .int .i64 a0_5, .int .i64 a0_6]) (t := 26) ?hr ?_; (case hd => rfl); (case hg => rfl); (case hr => first | (go_simp; done) | (go_simp; rfl)); intro A0 hg w3 hbox hb; have Aa := Am (hbox); have Br := Am ((by rw [hg]; exact (below_size (pB HB.out)) : w.heap.size ≤ A0)); replace HB := Am (below_step (pB HB.out) hb); have Ab := Br; clear hb hbox hg)))
 (try simp only [Act.put, List.setIfInBounds_toArray, List.set_cons_zero, List.set_cons_succ])
 go_cut [47] (fun v47 wc => ∃ (kq : Nat) (Bt : Bool), v47 = .bool Bt ∧ Aside0 (garnerref23_May.j0 kq Bt a0_0 a0_1 l0_2 a0_3 a0_4 a0_5 a0_6 = some r) ∧ Aside0 (kq ≤ k) ∧ Aside0 (wc.heap[A0]? = some (.cells #[.int .i64 a0_0, .int .i64 a0_1, (.slice A0_2 l0_2.length c0_2), .int .i64 a0_3, .int .i64 a0_4, .int .i64 a0_5, .int .i64 a0_6] 26 (0, 0))) ∧ Aside0 (Below w.heap.size w wc))
 case first =>
  have H := HC2.out
  clear HC2
  by_cases c4 : a0_0 < 0
  ·rw [if_pos c4] at H
   have c4b0 : decide (a0_0 < 0) = true := decide_eq_true c4
   clear c4
   (first | rw [c4b0] | (simp only [i64_w, i32_w]; rw [c4b0]) | skip)
   have H' := Am H
   clear H
   obtain ⟨Ds, Dt, Du, Dv, Dw, Dx, Dy⟩ := bc7 Aa.out
   obtain ⟨Dz, D0, D1, D2, D3, D4, D5⟩ := bf7 Aa.out
   go_wp2
   repeat (go_quiet (fail); try go_wp2)
   go_meet
   case rel => exact ⟨_, (true), (by first | rfl | (simp; done) | (simp [*]; done)), H', ⟨by first | omega | exact Nat.le_refl _⟩, ⟨pK Aa.out⟩, ⟨pE HB.out Ab.out⟩⟩
  rw [if_neg c4] at H
  have c4b0 : decide (a0_0 < 0) = false := decide_eq_false c4
  clear c4
  (first | rw [c4b0] | (simp only [i64_w, i32_w]; rw [c4b0]) | skip)
  by_cases c6 : a0_0 > 2147483647
  ·rw [if_pos c6] at H
   have c6b0 : decide (2147483647 < a0_0) = true := decide_eq_true c6
   clear c6
   have H' := Am H
   clear H
   obtain ⟨D6, D7, D8, D9, Ea, Eb, Ec⟩ := bc7 Aa.out
   obtain ⟨Ed, Ee, Ef, Eg, Eh, Ei, Ej⟩ := bf7 Aa.out
   go_wp2
   repeat (go_quiet (fail); try go_wp2)
   go_meet
   case rel => exact ⟨_, (true), (by first | rfl | (simp; done) | (simp [*]; done)), H', ⟨by first | omega | exact Nat.le_refl _⟩, ⟨pK Aa.out⟩, ⟨pE HB.out Ab.out⟩⟩
  rw [if_neg c6] at H
  have c6b0 : decide (2147483647 < a0_0) = false := decide_eq_false c6
  clear c6
  by_cases c8 : a0_1 < 0
  ·rw [if_pos c8] at H
   have c8b0 : decide (a0_1 < 0) = true := decide_eq_true c8
   clear c8
   have H' := Am H
   clear H
   obtain ⟨Ek, El, Em, En, Eo, Ep, Er⟩ := bc7 Aa.out
   obtain ⟨Es, Et, Eu, Ew, Ex, Ey, Ez⟩ := bf7 Aa.out
   go_wp2
   repeat (go_quiet (fail); try go_wp2)
   go_meet
   case rel => exact ⟨_, (true), (by first | rfl | (simp; done) | (simp [*]; done)), H', ⟨by first | omega | exact Nat.le_refl _⟩, ⟨pK Aa.out⟩, ⟨pE HB.out Ab.out⟩⟩
  rw [if_neg c8] at H
  have c8b0 : decide (a0_1 < 0) = false := decide_eq_false c8
  clear c8
  by_cases c10 : a0_1 > 2147483647
  ·rw [if_pos c10] at H
   have c10b0 : decide (2147483647 < a0_1) = true := decide_eq_true c10
   clear c10
   have H' := Am H
   clear H
   obtain ⟨Bu, Bv, Bw, Bx, By, Bz, B0⟩ := bc7 Aa.out
   obtain ⟨B1, B2, B3, B4, B5, B6, B7⟩ := bf7 Aa.out
   go_wp2
   repeat (go_quiet (fail); try go_wp2)
   go_meet
   case rel => exact ⟨_, (true), (by first | rfl | (simp; done) | (simp [*]; done)), H', ⟨by first | omega | exact Nat.le_refl _⟩, ⟨pK Aa.out⟩, ⟨pE HB.out Ab.out⟩⟩
  rw [if_neg c10] at H
  have c10b0 : decide (2147483647 < a0_1) = false := decide_eq_false c10
  clear c10
  by_cases c12 : ((a0_0 == 0) != (a0_1 == 0)) = true
  ·rw [if_pos c12] at H
   have c12b0 : ((a0_0 == 0) != (a0_1 == 0)) = true := c12
   (try (have c12b1 : decide ((a0_0 == 0) = (a0_1 == 0)) = false := by simpa using c12))
   (try (have c12b2 : ((a0_0 == 0) == (a0_1 == 0)) = false := by simpa using c12))
   (try (have c12b3 : ¬ ((a0_0 == 0) = (a0_1 == 0)) := by simpa using c12))
   clear c12
   have H' := Am H
   clear H
   obtain ⟨B8, B9, Ca, Cb, Cc, Cd, Ce⟩ := bc7 Aa.out
   obtain ⟨Cf, Cg, Ch, Ci, Cj, Ck, Cl⟩ := bf7 Aa.out
   go_wp2
   repeat (go_quiet (fail); try go_wp2)
   go_meet
   case rel => exact ⟨_, (true), (by first | rfl | (simp; done) | (simp [*]; done)), H', ⟨by first | omega | exact Nat.le_refl _⟩, ⟨pK Aa.out⟩, ⟨pE HB.out Ab.out⟩⟩
  rw [if_neg c12] at H
  have c12b0 : ((a0_0 == 0) != (a0_1 == 0)) = false := by simpa using c12
  (try (have c12b1 : decide ((a0_0 == 0) = (a0_1 == 0)) = true := by simpa using c12))
  (try (have c12b2 : ((a0_0 == 0) == (a0_1 == 0)) = true := by simpa using c12))
  clear c12
  by_cases c14 : (l0_2.length : Int) > 1000
  ·rw [if_pos c14] at H
   have c14b0 : decide (1000 < (l0_2.length : Int)) = true := decide_eq_true c14
   have c14b1 : decide (1000 < l0_2.length) = true := decide_eq_true (by omega)
   clear c14
   have H' := Am H
   clear H
   obtain ⟨Cm, Cn, Co, Cp, Cq, Cr, Cs⟩ := bc7 Aa.out
   obtain ⟨Ct, Cu, Cv, Cw, Cx, Cy, Cz⟩ := bf7 Aa.out
   go_wp2
   repeat (go_quiet (fail); try go_wp2)
   go_meet
   case rel => exact ⟨_, (true), (by first | rfl | (simp; done) | (simp [*]; done)), H', ⟨by first | omega | exact Nat.le_refl _⟩, ⟨pK Aa.out⟩, ⟨pE HB.out Ab.out⟩⟩
  rw [if_neg c14] at H
  have c14b0 : decide (1000 < (l0_2.length : Int)) = false := decide_eq_false c14
  have c14b1 : decide (1000 < l0_2.length) = false := decide_eq_false (by omega)
  clear c14
  replace H := Option.bind_eq_some_iff.mp H
  obtain ⟨t290, A160, H⟩ := H
  replace H : (if t290 = true then ((garnerref22_May.f a0_3 a0_4 a0_5).bind fun t291 => (garnerref23_May.j0 k (!t291) a0_0 a0_1 l0_2 a0_3 a0_4 a0_5 a0_6)) else (garnerref23_May.j0 k true a0_0 a0_1 l0_2 a0_3 a0_4 a0_5 a0_6)) = some r := H
  have A16 := Am A160
  clear A160
  by_cases c17 : t290 = true
  rotate_left
  ·replace c17 := Bool.eq_false_iff.mpr c17
   subst c17
   have H1 : (garnerref23_May.j0 k true a0_0 a0_1 l0_2 a0_3 a0_4 a0_5 a0_6) = some r := by rw [if_neg (show ¬ (false = true) by decide)] at H; exact H
   clear H
   have H := H1
   clear H1
   have H' := Am H
   clear H
   obtain ⟨De, Df, Dg, Dh, Di, Dj, Dk⟩ := bc7 Aa.out
   obtain ⟨Dl, Dm, Dn, Do, Dp, Dq, Dr⟩ := bf7 Aa.out
   go_wp2_with (first | (go_at_call 26; (with_reducible refine (garnerref23_Rows.calls k _ _ l0_2 false _ ?Aj ?Ak A16.out).mono ?_); (case Aj => exact pC (Kd.C_below Ag.out HB.out)); (case Ak => exact Az.out); rintro e w24 ⟨rfl, hb⟩; replace Aa := kBa Aa hb; replace HB := Am (below_step (pE HB.out Ab.out) hb); (try clear hb); (try clear hb2); (try clear hk); (try clear hi)))
   repeat (go_quiet (first | (go_at_call 26; (with_reducible refine (garnerref23_Rows.calls k _ _ l0_2 false _ ?Aj ?Ak A16.out).mono ?_); (case Aj => exact pC (Kd.C_below Ag.out HB.out)); (case Ak => exact Az.out); rintro e w24 ⟨rfl, hb⟩; replace Aa := kBa Aa hb; replace HB := Am (below_step (pE HB.out Ab.out) hb); (try clear hb); (try clear hb2); (try clear hk); (try clear hi))); try go_wp2_with (first | (go_at_call 26; (with_reducible refine (garnerref23_Rows.calls k _ _ l0_2 false _ ?Aj ?Ak A16.out).mono ?_); (case Aj => exact pC (Kd.C_below Ag.out HB.out)); (case Ak => exact Az.out); rintro e w24 ⟨rfl, hb⟩; replace Aa := kBa Aa hb; replace HB := Am (below_step (pE HB.out Ab.out) hb); (try clear hb); (try clear hb2); (try clear hk); (try clear hi))))
   go_meet
   case rel => exact ⟨_, (true), (by first | rfl | (simp; done) | (simp [*]; done)), H', ⟨by first | omega | exact Nat.le_refl _⟩, ⟨pK Aa.out⟩, ⟨pE HB.out Ab.out⟩⟩
  subst c17
  have H1 : ((garnerref22_May.f a0_3 a0_4 a0_5).bind fun t291 => (garnerref23_May.j0 k (!t291) a0_0 a0_1 l0_2 a0_3 a0_4 a0_5 a0_6)) = some r := by rw [if_pos rfl] at H; exact H
  clear H
  have H := H1
  clear H1
  replace H := Option.bind_eq_some_iff.mp H
  obtain ⟨t291, A180, H⟩ := H
  replace H : (garnerref23_May.j0 k (!t291) a0_0 a0_1 l0_2 a0_3 a0_4 a0_5 a0_6) = some r := H
  have A18 := Am A180
  clear A180
  have H' := Am H
  clear H
  obtain ⟨C0, C1, C2, C3, C4, C5, C6⟩ := bc7 Aa.out
  obtain ⟨C7, C8, C9, Da, Db, Dc, Dd⟩ := bf7 Aa.out
  go_wp2_with (first | (go_at_call 26; (with_reducible refine (garnerref23_Rows.calls k _ _ l0_2 true _ ?Aj ?Ak A16.out).mono ?_); (case Aj => exact pC (Kd.C_below Ag.out HB.out)); (case Ak => exact Az.out); rintro e w20 ⟨rfl, hb⟩; replace Aa := kBa Aa hb; replace HB := Am (below_step (pE HB.out Ab.out) hb); (try clear hb); (try clear hb2); (try clear hk); (try clear hi); obtain ⟨A2, A3, A4, A5, A6, A7, A8⟩ := bc7 Aa.out; obtain ⟨A9, Ba, Bb, Bc, Bd, Be, Bf⟩ := bf7 Aa.out) | (go_at_call 27; (with_reducible refine (garnerref22_May.calls a0_3 a0_4 a0_5 t291 _ A18.out).mono ?_); rintro e w22 ⟨rfl, hb⟩; replace Aa := kBa Aa hb; replace HB := Am (below_step (pE HB.out Ab.out) hb); (try clear hb); (try clear hb2); (try clear hk); (try clear hi)))
  repeat (go_quiet (first | (go_at_call 26; (with_reducible refine (garnerref23_Rows.calls k _ _ l0_2 true _ ?Aj ?Ak A16.out).mono ?_); (case Aj => exact pC (Kd.C_below Ag.out HB.out)); (case Ak => exact Az.out); rintro e w20 ⟨rfl, hb⟩; replace Aa := kBa Aa hb; replace HB := Am (below_step (pE HB.out Ab.out) hb); (try clear hb); (try clear hb2); (try clear hk); (try clear hi); obtain ⟨A2, A3, A4, A5, A6, A7, A8⟩ := bc7 Aa.out; obtain ⟨A9, Ba, Bb, Bc, Bd, Be, Bf⟩ := bf7 Aa.out) | (go_at_call 27; (with_reducible refine (garnerref22_May.calls a0_3 a0_4 a0_5 t291 _ A18.out).mono ?_); rintro e w22 ⟨rfl, hb⟩; replace Aa := kBa Aa hb; replace HB := Am (below_step (pE HB.out Ab.out) hb); (try clear hb); (try clear hb2); (try clear hk); (try clear hi))); try go_wp2_with (first | (go_at_call 26; (with_reducible refine (garnerref23_Rows.calls k _ _ l0_2 true _ ?Aj ?Ak A16.out).mono ?_); (case Aj => exact pC (Kd.C_below Ag.out HB.out)); (case Ak => exact Az.out); rintro e w20 ⟨rfl, hb⟩; replace Aa := kBa Aa hb; replace HB := Am (below_step (pE HB.out Ab.out) hb); (try clear hb); (try clear hb2); (try clear hk); (try clear hi); obtain ⟨A2, A3, A4, A5, A6, A7, A8⟩ := bc7 Aa.out; obtain ⟨A9, Ba, Bb, Bc, Bd, Be, Bf⟩ := bf7 Aa.out) | (go_at_call 27; (with_reducible refine (garnerref22_May.calls a0_3 a0_4 a0_5 t291 _ A18.out).mono ?_); rintro e w22 ⟨rfl, hb⟩; replace Aa := kBa Aa hb; replace HB := Am (below_step (pE HB.out Ab.out) hb); (try clear hb); (try clear hb2); (try clear hk); (try clear hi))))
  go_meet
  case rel => exact ⟨_, (!t291), (by first | rfl | (simp; done) | (simp [*]; done)), H', ⟨by first | omega | exact Nat.le_refl _⟩, ⟨pK Aa.out⟩, ⟨pE HB.out Ab.out⟩⟩
 case rest =>
  clear HC2
  try clear c1
  try clear p2
  try clear c4
  try clear c4b0
  try clear c6
  try clear c6b0
  try clear c8
  try clear c8b0
  try clear c10
  try clear c10b0
  try clear c12
  try clear c12b0
  try clear c12b1
  try clear c12b2
  try clear c14
  try clear c14b0
  try clear c14b1
  try clear c17
  try clear Bu Bv Bw Bx By Bz B0
  try clear B8 B9 Ca Cb Cc Cd Ce
  try clear Cm Cn Co Cp Cq Cr Cs
  try clear C0 C1 C2 C3 C4 C5 C6
  try clear A2 A3 A4 A5 A6 A7 A8
  try clear De Df Dg Dh Di Dj Dk
  try clear Ds Dt Du Dv Dw Dx Dy
  try clear D6 D7 D8 D9 Ea Eb Ec
  try clear Ek El Em En Eo Ep Er
  try clear B1 B2 B3 B4 B5 B6 B7
  try clear Cf Cg Ch Ci Cj Ck Cl
  try clear Ct Cu Cv Cw Cx Cy Cz
  try clear C7 C8 C9 Da Db Dc Dd
  try clear A9 Ba Bb Bc Bd Be Bf
  try clear Dl Dm Dn Do Dp Dq Dr
  try clear Dz D0 D1 D2 D3 D4 D5
  try clear Ed Ee Ef Eg Eh Ei Ej
  try clear Es Et Eu Ew Ex Ey Ez
  obtain ⟨kq, Bt, rfl, HA, HJ1, Aa, HB⟩ := hcut
  cases kq with
  | zero => exact absurd HA.out (by simp [garnerref23_May.j0])
  | succ kj1 =>
   have H := HA.out
   clear HA
   simp only [garnerref23_May.j0] at H
   by_cases c25 : Bt = true
   ·subst c25
    have H1 : (some false) = some r := by rw [if_pos rfl] at H; exact H
    clear H
    have H := H1
    clear H1
    obtain rfl := Option.some.inj H
    go_wp2
    repeat (go_quiet (fail); try go_wp2)
    go_ret
    exact ⟨pX, pE HB.out Ab.out⟩
   replace c25 := Bool.eq_false_iff.mpr c25
   subst c25
   have H1 : (if (l0_2.length : Int) > 0 then (if 0 < (l0_2.length : Int) then (if (wrap64 (((rd_T55 l0_2 0).f0) - 1)) = a0_0 then (if ((rd_T55 l0_2 0).f1) < a0_1 then (some false) else (if a0_0 ≤ a0_6 then (if a0_6 ≤ a0_5 then (some (decide (a0_5 ≤ (wrap64 (a0_0 + (l0_2.length : Int)))))) else (some false)) else (some false))) else (some false)) else (none)) else (if a0_0 ≤ a0_6 then (if a0_6 ≤ a0_5 then (some (decide (a0_5 ≤ (wrap64 (a0_0 + (l0_2.length : Int)))))) else (some false)) else (some false))) = some r := by rw [if_neg (show ¬ (false = true) by decide)] at H; exact H
   clear H
   have H := H1
   clear H1
   by_cases c26 : (l0_2.length : Int) > 0
   rotate_left
   ·rw [if_neg c26] at H
    have c26b0 : decide (0 < (l0_2.length : Int)) = false := decide_eq_false c26
    have c26b1 : decide (0 < l0_2.length) = false := decide_eq_false (by omega)
    clear c26
    by_cases c37 : a0_0 ≤ a0_6
    rotate_left
    ·rw [if_neg c37] at H
     have c37b0 : decide (a0_0 ≤ a0_6) = false := decide_eq_false c37
     clear c37
     obtain rfl := Option.some.inj H
     obtain ⟨_, _, _, _, _, _, _⟩ := bc7 Aa.out
     obtain ⟨_, _, _, _, _, _, _⟩ := bf7 Aa.out
     go_wp2
     repeat (go_quiet (fail); try go_wp2)
     go_ret
     exact ⟨pX, pE HB.out Ab.out⟩
    rw [if_pos c37] at H
    have c37b0 : decide (a0_0 ≤ a0_6) = true := decide_eq_true c37
    clear c37
    by_cases c38 : a0_6 ≤ a0_5
    ·rw [if_pos c38] at H
     have c38b0 : decide (a0_6 ≤ a0_5) = true := decide_eq_true c38
     clear c38
     obtain rfl := Option.some.inj H
     obtain ⟨_, _, _, _, _, _, _⟩ := bc7 Aa.out
     obtain ⟨_, _, _, _, _, _, _⟩ := bf7 Aa.out
     go_wp2
     repeat (go_quiet (fail); try go_wp2)
     go_ret
     exact ⟨pX, pE HB.out Ab.out⟩
    rw [if_neg c38] at H
    have c38b0 : decide (a0_6 ≤ a0_5) = false := decide_eq_false c38
    clear c38
    obtain rfl := Option.some.inj H
    obtain ⟨_, _, _, _, _, _, _⟩ := bc7 Aa.out
    obtain ⟨_, _, _, _, _, _, _⟩ := bf7 Aa.out
    go_wp2
    repeat (go_quiet (fail); try go_wp2)
    go_ret
    exact ⟨pX, pE HB.out Ab.out⟩
   rw [if_pos c26] at H
   have c26b0 : decide (0 < (l0_2.length : Int)) = true := decide_eq_true c26
   have c26b1 : decide (0 < l0_2.length) = true := decide_eq_true (by omega)
   clear c26
   by_cases c27 : 0 < (l0_2.length : Int)
   rotate_left
   ·rw [if_neg c27] at H
    exact absurd H (by simp)
   rw [if_pos c27] at H
   have c27b0 : decide (0 < (l0_2.length : Int)) = true := decide_eq_true c27
   have c27b1 : decide (0 < l0_2.length) = true := decide_eq_true (by omega)
   clear c27
   by_cases c28 : (wrap64 (((rd_T55 l0_2 0).f0) - 1)) = a0_0
   rotate_left
   ·rw [if_neg c28] at H
    have c28b0 : ((wrap64 (((rd_T55 l0_2 0).f0) - 1)) == a0_0) = false := beq_eq_false_iff_ne.mpr c28
    have c28b1 : ((wrap64 (((rd_T55 l0_2 0).f0) - 1)) != a0_0) = true := bne_iff_ne.mpr c28
    obtain rfl := Option.some.inj H
    obtain ⟨_, _, _, _, _, _, _⟩ := bc7 Aa.out
    obtain ⟨_, _, _, _, _, _, _⟩ := bf7 Aa.out
    have p292 : 0 ≤ (0 : Int) := (by omega)
    have q292 : 0 < (l0_2.length : Int) := of_decide_eq_true pS
    obtain ⟨Al, A1, c292_5, e292, An, Ao, Ap, Aq, Ar, Ah, As, At, Au, Av, Ac, Ad⟩ := at_T55uz Ag.out p292 q292 HB.out
    cases e292
    have qi292 : (0 < l0_2.length) = True := eq_true (by omega)
    have Aw := Am Ad
    have Ax := Am Ac
    clear Ad Ac
    replace p292 := eq_true p292
    replace q292 := eq_true q292
    go_wp2
    repeat (go_quiet (fail); try go_wp2)
    go_ret
    exact ⟨pX, pE HB.out Ab.out⟩
   rw [if_pos c28] at H
   have c28b0 : ((wrap64 (((rd_T55 l0_2 0).f0) - 1)) == a0_0) = true := beq_iff_eq.mpr c28
   have c28b1 : ((wrap64 (((rd_T55 l0_2 0).f0) - 1)) != a0_0) = false := bne_eq_false_iff_eq.mpr c28
   clear c28
   by_cases c29 : ((rd_T55 l0_2 0).f1) < a0_1
   ·rw [if_pos c29] at H
    have c29b0 : decide (((rd_T55 l0_2 0).f1) < a0_1) = true := decide_eq_true c29
    clear c29
    obtain rfl := Option.some.inj H
    obtain ⟨_, _, _, _, _, _, _⟩ := bc7 Aa.out
    obtain ⟨_, _, _, _, _, _, _⟩ := bf7 Aa.out
    have p292 : 0 ≤ (0 : Int) := (by omega)
    have q292 : 0 < (l0_2.length : Int) := of_decide_eq_true pS
    obtain ⟨Al, A1, c292_5, e292, An, Ao, Ap, Aq, Ar, Ah, As, At, Au, Av, Ac, Ad⟩ := at_T55uz Ag.out p292 q292 HB.out
    cases e292
    have qi292 : (0 < l0_2.length) = True := eq_true (by omega)
    have Aw := Am Ad
    have Ax := Am Ac
    clear Ad Ac
    replace p292 := eq_true p292
    replace q292 := eq_true q292
    have p293 : 0 ≤ (0 : Int) := (by omega)
    have q293 : 0 < (l0_2.length : Int) := of_decide_eq_true pS
    obtain ⟨Ay, Bs, c293_5, e293, Bg, Bh, Bi, Bj, Bk, Ai, Bl, Bm, Bn, Bo, Ae, Af⟩ := at_T55uz Ag.out p293 q293 HB.out
    obtain rfl : Al = Ay := (by injection e293)
    have qi293 : (0 < l0_2.length) = True := eq_true (by omega)
    have Bp := Am Af
    have Bq := Am Ae
    clear Af Ae
    replace p293 := eq_true p293
    replace q293 := eq_true q293
    have ea_ := Option.some.inj (Ah.symm.trans Ai)
    injection ea_ with ea_ en_ ec_
    subst ea_
    subst ec_
    clear en_
    go_wp2
    repeat (go_quiet (fail); try go_wp2)
    go_ret
    exact ⟨pX, pE HB.out Ab.out⟩
   rw [if_neg c29] at H
   have c29b0 : decide (((rd_T55 l0_2 0).f1) < a0_1) = false := decide_eq_false c29
   clear c29
   by_cases c31 : a0_0 ≤ a0_6
   rotate_left
   ·rw [if_neg c31] at H
    have c31b0 : decide (a0_0 ≤ a0_6) = false := decide_eq_false c31
    clear c31
    obtain rfl := Option.some.inj H
    obtain ⟨_, _, _, _, _, _, _⟩ := bc7 Aa.out
    obtain ⟨_, _, _, _, _, _, _⟩ := bf7 Aa.out
    have p292 : 0 ≤ (0 : Int) := (by omega)
    have q292 : 0 < (l0_2.length : Int) := of_decide_eq_true pS
    obtain ⟨Al, A1, c292_5, e292, An, Ao, Ap, Aq, Ar, Ah, As, At, Au, Av, Ac, Ad⟩ := at_T55uz Ag.out p292 q292 HB.out
    cases e292
    have qi292 : (0 < l0_2.length) = True := eq_true (by omega)
    have Aw := Am Ad
    have Ax := Am Ac
    clear Ad Ac
    replace p292 := eq_true p292
    replace q292 := eq_true q292
    have p293 : 0 ≤ (0 : Int) := (by omega)
    have q293 : 0 < (l0_2.length : Int) := of_decide_eq_true pS
    obtain ⟨Ay, Bs, c293_5, e293, Bg, Bh, Bi, Bj, Bk, Ai, Bl, Bm, Bn, Bo, Ae, Af⟩ := at_T55uz Ag.out p293 q293 HB.out
    obtain rfl : Al = Ay := (by injection e293)
    have qi293 : (0 < l0_2.length) = True := eq_true (by omega)
    have Bp := Am Af
    have Bq := Am Ae
    clear Af Ae
    replace p293 := eq_true p293
    replace q293 := eq_true q293
    have ea_ := Option.some.inj (Ah.symm.trans Ai)
    injection ea_ with ea_ en_ ec_
    subst ea_
    subst ec_
    clear en_
    go_wp2
    repeat (go_quiet (fail); try go_wp2)
    go_ret
    exact ⟨pX, pE HB.out Ab.out⟩
   rw [if_pos c31] at H
   have c31b0 : decide (a0_0 ≤ a0_6) = true := decide_eq_true c31
   clear c31
   by_cases c32 : a0_6 ≤ a0_5
   ·rw [if_pos c32] at H
    have c32b0 : decide (a0_6 ≤ a0_5) = true := decide_eq_true c32
    clear c32
    obtain rfl := Option.some.inj H
    obtain ⟨_, _, _, _, _, _, _⟩ := bc7 Aa.out
    obtain ⟨_, _, _, _, _, _, _⟩ := bf7 Aa.out
    have p292 : 0 ≤ (0 : Int) := (by omega)
    have q292 : 0 < (l0_2.length : Int) := of_decide_eq_true pS
    obtain ⟨Al, A1, c292_5, e292, An, Ao, Ap, Aq, Ar, Ah, As, At, Au, Av, Ac, Ad⟩ := at_T55uz Ag.out p292 q292 HB.out
    cases e292
    have qi292 : (0 < l0_2.length) = True := eq_true (by omega)
    have Aw := Am Ad
    have Ax := Am Ac
    clear Ad Ac
    replace p292 := eq_true p292
    replace q292 := eq_true q292
    have p293 : 0 ≤ (0 : Int) := (by omega)
    have q293 : 0 < (l0_2.length : Int) := of_decide_eq_true pS
    obtain ⟨Ay, Bs, c293_5, e293, Bg, Bh, Bi, Bj, Bk, Ai, Bl, Bm, Bn, Bo, Ae, Af⟩ := at_T55uz Ag.out p293 q293 HB.out
    obtain rfl : Al = Ay := (by injection e293)
    have qi293 : (0 < l0_2.length) = True := eq_true (by omega)
    have Bp := Am Af
    have Bq := Am Ae
    clear Af Ae
    replace p293 := eq_true p293
    replace q293 := eq_true q293
    have ea_ := Option.some.inj (Ah.symm.trans Ai)
    injection ea_ with ea_ en_ ec_
    subst ea_
    subst ec_
    clear en_
    go_wp2
    repeat (go_quiet (fail); try go_wp2)
    go_ret
    exact ⟨pX, pE HB.out Ab.out⟩
   rw [if_neg c32] at H
   have c32b0 : decide (a0_6 ≤ a0_5) = false := decide_eq_false c32
   clear c32
   obtain rfl := Option.some.inj H
   obtain ⟨_, _, _, _, _, _, _⟩ := bc7 Aa.out
   obtain ⟨_, _, _, _, _, _, _⟩ := bf7 Aa.out
   have p292 : 0 ≤ (0 : Int) := (by omega)
   have q292 : 0 < (l0_2.length : Int) := of_decide_eq_true pS
   obtain ⟨Al, A1, c292_5, e292, An, Ao, Ap, Aq, Ar, Ah, As, At, Au, Av, Ac, Ad⟩ := at_T55uz Ag.out p292 q292 HB.out
   cases e292
   have qi292 : (0 < l0_2.length) = True := eq_true (by omega)
   have Aw := Am Ad
   have Ax := Am Ac
   clear Ad Ac
   replace p292 := eq_true p292
   replace q292 := eq_true q292
   have p293 : 0 ≤ (0 : Int) := (by omega)
   have q293 : 0 < (l0_2.length : Int) := of_decide_eq_true pS
   obtain ⟨Ay, Bs, c293_5, e293, Bg, Bh, Bi, Bj, Bk, Ai, Bl, Bm, Bn, Bo, Ae, Af⟩ := at_T55uz Ag.out p293 q293 HB.out
   obtain rfl : Al = Ay := (by injection e293)
   have qi293 : (0 < l0_2.length) = True := eq_true (by omega)
   have Bp := Am Af
   have Bq := Am Ae
   clear Af Ae
   replace p293 := eq_true p293
   replace q293 := eq_true q293
   have ea_ := Option.some.inj (Ah.symm.trans Ai)
   injection ea_ with ea_ en_ ec_
   subst ea_
   subst ec_
   clear en_
   go_wp2
   repeat (go_quiet (fail); try go_wp2)
   go_ret
   exact ⟨pX, pE HB.out Ab.out⟩
def garnerref02_same.l0 : Nat → List Int → List Int → Int → Option (Bool)
 | 0, _, _, _ => none
 | k + 1, x0, x1, x5 => if x5 < (x0.length : Int) then (if 0 ≤ x5 then (if x5 < (x1.length : Int) then (if (rd x0 x5) = (rd x1 x5) then (garnerref02_same.l0 k x0 x1 (wrap64 (x5 + 1))) else (some false)) else (none)) else (none)) else (some true)
def garnerref02_same.f (k : Nat) (l0 : List Int) (l1 : List Int) : Option (Bool) := if (l0.length : Int) = (l1.length : Int) then (garnerref02_same.l0 k l0 l1 0) else (some false)
theorem garnerref02_same.mono_l : ∀ k, (∀ y0 y1 y2, LeO (garnerref02_same.l0 k y0 y1 y2) (garnerref02_same.l0 (k + 1) y0 y1 y2))
 | 0 => fun _ _ _ r h => by simp [garnerref02_same.l0] at h
 | k + 1 => by
  have ih0 := garnerref02_same.mono_l k
  ·intro y0 y1 y2
   unfold garnerref02_same.l0
   repeat' first
   | (with_reducible exact ih0 _ _ _)
   | (with_reducible exact LeO.refl _)
   | (with_reducible exact LeO.none _)
   | (with_reducible refine LeO.ite ?_ ?_)
   | (with_reducible refine LeO.bind ?_ (fun _ => ?_))
   | exact ih0 _ _ _
   | exact LeO.none _
   | refine LeO.ite ?_ ?_
   | refine LeO.bind ?_ (fun _ => ?_)
theorem garnerref02_same.mono : ∀ a0 a1 k, LeO (garnerref02_same.f k a0 a1) (garnerref02_same.f (k + 1) a0 a1) := by
 intro a0 a1 k
 have ih0 := garnerref02_same.mono_l k
 unfold garnerref02_same.f
 repeat' first
   | (with_reducible exact ih0 _ _ _)
   | (with_reducible exact LeO.refl _)
   | (with_reducible exact LeO.none _)
   | (with_reducible refine LeO.ite ?_ ?_)
   | (with_reducible refine LeO.bind ?_ (fun _ => ?_))
   | exact ih0 _ _ _
   | exact LeO.none _
   | refine LeO.ite ?_ ?_
   | refine LeO.bind ?_ (fun _ => ?_)
set_option maxHeartbeats 8000000 in
set_option maxRecDepth 100000 in
theorem garnerref02_same.calls (k : Nat) (A0 : Option Addr) (c0 : Nat) (l0 : List Int) (A1 : Option Addr) (c1 : Nat) (l1 : List Int) (r : Bool) (w : World) (hr0 : Kd.C (Kd.int .u8) w A0 l0.length l0) (hc0 : l0.length ≤ c0) (hr1 : Kd.C (Kd.int .u8) w A1 l1.length l1) (hc1 : l1.length ≤ c1) (h : garnerref02_same.f k l0 l1 = some r) :
  Calls Try.prog 41 #[.slice A0 l0.length c0, .slice A1 l1.length c1] w fun e w' => e = .returned (.bool r) ∧ Drawn0 w w' := by
 have HR0 := Am hr0
 have HC0 := Am hc0
 clear hr0 hc0
 have HR1 := Am hr1
 have HC1 := Am hc1
 clear hr1 hc1
 have H : (if (l0.length : Int) = (l1.length : Int) then (garnerref02_same.l0 k l0 l1 0) else (some false)) = some r := h
 clear h
 by_cases c3 : (l0.length : Int) = (l1.length : Int)
 rotate_left
 ·rw [if_neg c3] at H
  have c3b0 : ((l0.length : Int) == (l1.length : Int)) = false := beq_eq_false_iff_ne.mpr c3
  have c3b1 : ((l0.length : Int) != (l1.length : Int)) = true := bne_iff_ne.mpr c3
  have c3b2 : (l0.length == l1.length) = false := by first | simpa using c3 | (simp at c3 ⊢; omega)
  obtain rfl := Option.some.inj H
  go_enter Try.func41, Try.ntmps41
  go_wp2
  repeat (go_quiet (fail); try go_wp2)
  go_ret
  exact ⟨by first | rfl | (simp; done) | (simp [*]; done), by repeat (first | exact Drawn0.refl _ | apply Drawn0.step)⟩
 rw [if_pos c3] at H
 have c3b0 : ((l0.length : Int) == (l1.length : Int)) = true := beq_iff_eq.mpr c3
 have c3b1 : ((l0.length : Int) != (l1.length : Int)) = false := bne_eq_false_iff_eq.mpr c3
 have c3b2 : (l0.length == l1.length) = true := by first | simpa using c3 | (simp at c3 ⊢; omega)
 clear c3
 have H' := Am H
 clear H
 go_enter Try.func41, Try.ntmps41
 go_wp2
 repeat (go_quiet (fail); try go_wp2)
 go_loopg [5] k (fun kq v5 w' => ∃ (Aa : Int), v5 = .int .i64 Aa ∧ Aside0 (garnerref02_same.l0 kq l0 l1 Aa = some r) ∧ Aside0 (kq ≤ k) ∧ Drawn0 w w')
 case atStart => exact ⟨(0), (by first | rfl | (simp; done) | (simp [*]; done)), H', ⟨Nat.le_refl _⟩, by repeat (first | exact Drawn0.refl _ | apply Drawn0.step)⟩
 case round =>
  clear H'
  try clear c1
  try clear p2
  try clear c3
  try clear c3b0
  try clear c3b1
  try clear c3b2
  obtain ⟨Aa, rfl, HA, HK1, ⟨m1, rfl⟩⟩ := hrel
  cases gk with
  | zero => exact absurd HA.out (by simp [garnerref02_same.l0])
  | succ k1 =>
   have H := HA.out
   clear HA
   simp only [garnerref02_same.l0] at H
   by_cases c4 : Aa < (l0.length : Int)
   rotate_left
   ·rw [if_neg c4] at H
    have c4b0 : decide (Aa < (l0.length : Int)) = false := decide_eq_false c4
    clear c4
    obtain rfl := Option.some.inj H
    go_wp2
    repeat (go_quiet (fail); try go_wp2)
    go_ret
    exact ⟨by first | rfl | (simp; done) | (simp [*]; done), by repeat (first | exact Drawn0.refl _ | apply Drawn0.step)⟩
   rw [if_pos c4] at H
   have c4b0 : decide (Aa < (l0.length : Int)) = true := decide_eq_true c4
   clear c4
   by_cases c5 : 0 ≤ Aa
   rotate_left
   ·rw [if_neg c5] at H
    exact absurd H (by simp)
   rw [if_pos c5] at H
   have c5b0 : decide (0 ≤ Aa) = true := decide_eq_true c5
   clear c5
   by_cases c6 : Aa < (l1.length : Int)
   rotate_left
   ·rw [if_neg c6] at H
    exact absurd H (by simp)
   rw [if_pos c6] at H
   have c6b0 : decide (Aa < (l1.length : Int)) = true := decide_eq_true c6
   clear c6
   by_cases c7 : (rd l0 Aa) = (rd l1 Aa)
   rotate_left
   ·rw [if_neg c7] at H
    have c7b0 : ((rd l0 Aa) == (rd l1 Aa)) = false := beq_eq_false_iff_ne.mpr c7
    have c7b1 : ((rd l0 Aa) != (rd l1 Aa)) = true := bne_iff_ne.mpr c7
    obtain rfl := Option.some.inj H
    have p294 : 0 ≤ (Aa : Int) := of_decide_eq_true pS
    have q294 : Aa < (l0.length : Int) := of_decide_eq_true pS
    obtain ⟨Ad, e294, Ab⟩ := Kd.at_int HR0.out Aa p294 q294
    cases e294
    replace p294 := eq_true p294
    replace q294 := eq_true q294
    have p295 : 0 ≤ (Aa : Int) := of_decide_eq_true pS
    have q295 : Aa < (l1.length : Int) := of_decide_eq_true pS
    obtain ⟨Ae, e295, Ac⟩ := Kd.at_int HR1.out Aa p295 q295
    cases e295
    replace p295 := eq_true p295
    replace q295 := eq_true q295
    go_wp2
    repeat (go_quiet (fail); try go_wp2)
    go_ret
    exact ⟨by first | rfl | (simp; done) | (simp [*]; done), by repeat (first | exact Drawn0.refl _ | apply Drawn0.step)⟩
   rw [if_pos c7] at H
   have c7b0 : ((rd l0 Aa) == (rd l1 Aa)) = true := beq_iff_eq.mpr c7
   have c7b1 : ((rd l0 Aa) != (rd l1 Aa)) = false := bne_eq_false_iff_eq.mpr c7
   clear c7
   have H' := Am H
   clear H
   have p294 : 0 ≤ (Aa : Int) := of_decide_eq_true pS
   have q294 : Aa < (l0.length : Int) := of_decide_eq_true pS
   obtain ⟨Ad, e294, Ab⟩ := Kd.at_int HR0.out Aa p294 q294
   cases e294
   replace p294 := eq_true p294
   replace q294 := eq_true q294
   have p295 : 0 ≤ (Aa : Int) := of_decide_eq_true pS
   have q295 : Aa < (l1.length : Int) := of_decide_eq_true pS
   obtain ⟨Ae, e295, Ac⟩ := Kd.at_int HR1.out Aa p295 q295
   cases e295
   replace p295 := eq_true p295
   replace q295 := eq_true q295
   go_wp2
   repeat (go_quiet (fail); try go_wp2)
   go_roundg k1
   case measure => have := HK1.out; omega
   case rel => exact ⟨(wrap64 (Aa + 1)), (by first | rfl | (simp; done) | (simp [*]; done)), H', ⟨by have := HK1.out; omega⟩, by repeat (first | exact Drawn0.refl _ | apply Drawn0.step)⟩
def garnerref02_Bytes.f (k : Nat) (l0 : List Int) (l1 : List Int) : Option (Bool) := (garnerref02_same.f k l0 l1).bind fun t296 => (some t296)
theorem garnerref02_Bytes.mono : ∀ a0 a1 k, LeO (garnerref02_Bytes.f k a0 a1) (garnerref02_Bytes.f (k + 1) a0 a1) := by
 intro a0 a1 k
 unfold garnerref02_Bytes.f
 repeat' first
   | (with_reducible exact garnerref02_same.mono _ _ _)
   | (with_reducible exact LeO.refl _)
   | (with_reducible exact LeO.none _)
   | (with_reducible refine LeO.ite ?_ ?_)
   | (with_reducible refine LeO.bind ?_ (fun _ => ?_))
   | exact garnerref02_same.mono _ _ _
   | exact LeO.none _
   | refine LeO.ite ?_ ?_
   | refine LeO.bind ?_ (fun _ => ?_)
set_option maxHeartbeats 8000000 in
set_option maxRecDepth 100000 in
theorem garnerref02_Bytes.calls (k : Nat) (A0 : Option Addr) (c0 : Nat) (l0 : List Int) (A1 : Option Addr) (c1 : Nat) (l1 : List Int) (r : Bool) (w : World) (hr0 : Kd.C (Kd.int .u8) w A0 l0.length l0) (hc0 : l0.length ≤ c0) (hr1 : Kd.C (Kd.int .u8) w A1 l1.length l1) (hc1 : l1.length ≤ c1) (h : garnerref02_Bytes.f k l0 l1 = some r) :
  Calls Try.prog 38 #[.slice A0 l0.length c0, .slice A1 l1.length c1] w fun e w' => e = .returned (.bool r) ∧ Drawn0 w w' := by
 have HR0 := Am hr0
 have HC0 := Am hc0
 clear hr0 hc0
 have HR1 := Am hr1
 have HC1 := Am hc1
 clear hr1 hc1
 have H : ((garnerref02_same.f k l0 l1).bind fun t296 => (some t296)) = some r := h
 clear h
 replace H := Option.bind_eq_some_iff.mp H
 obtain ⟨t296, A30, H⟩ := H
 replace H : (some t296) = some r := H
 have A3 := Am A30
 clear A30
 obtain rfl := Option.some.inj H
 go_enter Try.func38, Try.ntmps38
 go_wp2_with (first | ((with_reducible refine gate_callee (f := 41) rfl ?_); refine goesL_ (some 7) rfl rfl Try.func41 (by kernel_rfl) rfl #[.slice A0 l0.length c0, .slice A1 l1.length c1] rfl pL ?_; (with_reducible refine (garnerref02_same.calls k _ _ l0 _ _ l1 t296 _ ?side1 ?side2 ?side3 ?side4 A3.out).mono ?_); (case side1 => repeat (first | exact HR0.out | (with_reducible refine Kd.C_alloc ?_ _) | (with_reducible refine Kd.C_drewN ?_ _) | (with_reducible refine Kd.C_drew ?_))); (case side2 => exact HC0.out); (case side3 => repeat (first | exact HR1.out | (with_reducible refine Kd.C_alloc ?_ _) | (with_reducible refine Kd.C_drewN ?_ _) | (with_reducible refine Kd.C_drew ?_))); (case side4 => exact HC1.out); rintro e w' ⟨rfl, ⟨nd, rfl⟩⟩; refine ⟨_, rfl, ?_⟩))
 go_ret
 exact ⟨by first | rfl | (simp; done) | (simp [*]; done), by repeat (first | exact Drawn0.refl _ | apply Drawn0.step)⟩
def garnerref05_Same.f (k : Nat) (a0_0 : Bool) (l0_1 : List Int) (a0_2 : Int) (a0_3 : Int) (a0_4 : Int) (a0_5 : Int) (a1_0 : Bool) (l1_1 : List Int) (a1_2 : Int) (a1_3 : Int) (a1_4 : Int) (a1_5 : Int) : Option (Bool) := if (a0_0 == a1_0) = true then (if (a0_2 == a1_2 && (a0_3 == a1_3 && (a0_4 == a1_4 && (a0_5 == a1_5)))) = true then ((garnerref02_Bytes.f k l0_1 l1_1).bind fun t299 => (some t299)) else (some false)) else (some false)
theorem garnerref05_Same.mono : ∀ a0 a1 a2 a3 a4 a5 a6 a7 a8 a9 a10 a11 k, LeO (garnerref05_Same.f k a0 a1 a2 a3 a4 a5 a6 a7 a8 a9 a10 a11) (garnerref05_Same.f (k + 1) a0 a1 a2 a3 a4 a5 a6 a7 a8 a9 a10 a11) := by
 intro a0 a1 a2 a3 a4 a5 a6 a7 a8 a9 a10 a11 k
 unfold garnerref05_Same.f
 repeat' first
   | (with_reducible exact garnerref02_Bytes.mono _ _ _)
   | (with_reducible exact LeO.refl _)
   | (with_reducible exact LeO.none _)
   | (with_reducible refine LeO.ite ?_ ?_)
   | (with_reducible refine LeO.bind ?_ (fun _ => ?_))
   | exact garnerref02_Bytes.mono _ _ _
   | exact LeO.none _
   | refine LeO.ite ?_ ?_
   | refine LeO.bind ?_ (fun _ => ?_)
set_option maxHeartbeats 8000000 in
set_option maxRecDepth 100000 in
theorem garnerref05_Same.calls (k : Nat) (a0_0 : Bool) (A0_1 : Option Addr) (c0_1 : Nat) (l0_1 : List Int) (a0_2 : Int) (a0_3 : Int) (a0_4 : Int) (a0_5 : Int) (a1_0 : Bool) (A1_1 : Option Addr) (c1_1 : Nat) (l1_1 : List Int) (a1_2 : Int) (a1_3 : Int) (a1_4 : Int) (a1_5 : Int) (r : Bool) (w : World) (hr0_1 : Kd.C (Kd.int .u8) w A0_1 l0_1.length l0_1) (hc0_1 : l0_1.length ≤ c0_1) (hr1_1 : Kd.C (Kd.int .u8) w A1_1 l1_1.length l1_1) (hc1_1 : l1_1.length ≤ c1_1) (h : garnerref05_Same.f k a0_0 l0_1 a0_2 a0_3 a0_4 a0_5 a1_0 l1_1 a1_2 a1_3 a1_4 a1_5 = some r) :
  Calls Try.prog 33 #[.agg #[.bool a0_0, .slice A0_1 l0_1.length c0_1, .int .i64 a0_2, .int .i64 a0_3, .int .i64 a0_4, .int .u32 a0_5], .agg #[.bool a1_0, .slice A1_1 l1_1.length c1_1, .int .i64 a1_2, .int .i64 a1_3, .int .i64 a1_4, .int .u32 a1_5]] w fun e w' => e = .returned (.bool r) ∧ Below w.heap.size w w' := by
 have hu53 := Try.underlying53
 have hu51 := Try.underlying51
 have Ak := Am hr0_1
 have Al := Am hc0_1
 clear hr0_1 hc0_1
 have An := Am hr1_1
 have Ao := Am hc1_1
 clear hr1_1 hc1_1
 have HB := Am (Below.refl w.heap.size w)
 have H : (if (a0_0 == a1_0) = true then (if (a0_2 == a1_2 && (a0_3 == a1_3 && (a0_4 == a1_4 && (a0_5 == a1_5)))) = true then ((garnerref02_Bytes.f k l0_1 l1_1).bind fun t299 => (some t299)) else (some false)) else (some false)) = some r := h
 clear h
 by_cases c3 : (a0_0 == a1_0) = true
 rotate_left
 ·rw [if_neg c3] at H
  have c3b0 : (a0_0 == a1_0) = false := by simpa using c3
  (try (have c3b1 : decide (a0_0 = a1_0) = false := by simpa using c3))
  (try (have c3b2 : (a0_0 == a1_0) = false := by simpa using c3))
  (try (have c3b3 : ¬ (a0_0 = a1_0) := by simpa using c3))
  clear c3
  obtain rfl := Option.some.inj H
  go_enter Try.func33, Try.ntmps33
  go_wp2_with (first | ((with_reducible refine gate_dst (N := 2) rfl ?_); refine box_event ?hg (N := 2) ?hd (cs := #[.bool a0_0, .slice A0_1 l0_1.length c0_1, .int .i64 a0_2, .int .i64 a0_3, .int .i64 a0_4, .int .u32 a0_5]) (t := 53) ?hr ?_; (case hd => rfl); (case hg => rfl); (case hr => first | (go_simp; done) | (go_simp; rfl)); intro Ad hg w16 hbox hb; have Aa := Am (hbox); have Ah := Am ((by rw [hg]; exact (below_size (pB HB.out)) : w.heap.size ≤ Ad)); replace HB := Am (below_step (pB HB.out) hb); have Ae := Ah; clear hb hbox hg) | ((with_reducible refine gate_dst (N := 3) rfl ?_); refine box_event ?hg (N := 3) ?hd (cs := #[.bool a1_0, .slice A1_1 l1_1.length c1_1, .int .i64 a1_2, .int .i64 a1_3, .int .i64 a1_4, .int .u32 a1_5]) (t := 53) ?hr ?_; (case hd => rfl); (case hg => rfl); (case hr => first | (go_simp; done) | (go_simp; rfl)); intro Af hg w17 hbox hb; have Ag := Am (hbox); have Ai := Am ((by rw [hg]; exact (below_size (pE HB.out Ae.out)) : w.heap.size ≤ Af)); replace HB := Am (below_step (pE HB.out Ae.out) hb); have Aj := Ai; have Ab := Am ((by rw [hg]; exact Nat.ne_of_lt (kL Aa.out) : Ad ≠ Af)); have Ac := Am ((by rw [hg]; exact Nat.ne_of_gt (kL Aa.out) : Af ≠ Ad)); replace Aa := kBa Aa hb; clear hb hbox hg; have hnb18 := Ab.out; have hnc18 := Ac.out; obtain ⟨_, _, _, _, _, _⟩ := bc6 Aa.out; obtain ⟨_, _, _, _, _, _⟩ := bf6 Aa.out; obtain ⟨_, _, _, _, _, _⟩ := bc6 Ag.out; obtain ⟨_, _, _, _, _, _⟩ := bf6 Ag.out))
  go_ret
  exact ⟨pX, pE2 HB.out Ae.out Aj.out⟩
 rw [if_pos c3] at H
 have c3b0 : (a0_0 == a1_0) = true := c3
 (try (have c3b1 : decide (a0_0 = a1_0) = true := by simpa using c3))
 (try (have c3b2 : (a0_0 == a1_0) = true := by simpa using c3))
 clear c3
 by_cases c4 : (a0_2 == a1_2 && (a0_3 == a1_3 && (a0_4 == a1_4 && (a0_5 == a1_5)))) = true
 rotate_left
 ·rw [if_neg c4] at H
  have c4b0 : (a0_2 == a1_2 && (a0_3 == a1_3 && (a0_4 == a1_4 && (a0_5 == a1_5)))) = false := by simpa using c4
  (try (have c4b1 : decide (a0_2 = a1_2 && (a0_3 == a1_3 && (a0_4 == a1_4 && (a0_5 == a1_5)))) = false := by simpa using c4))
  (try (have c4b2 : (a0_2 == a1_2 && (a0_3 == a1_3 && (a0_4 == a1_4 && (a0_5 == a1_5)))) = false := by simpa using c4))
  (try (have c4b3 : ¬ (a0_2 = a1_2 && (a0_3 == a1_3 && (a0_4 == a1_4 && (a0_5 == a1_5)))) := by simpa using c4))
  clear c4
  obtain rfl := Option.some.inj H
  go_enter Try.func33, Try.ntmps33
  go_wp2_with (first | ((with_reducible refine gate_dst (N := 2) rfl ?_); refine box_event ?hg (N := 2) ?hd (cs := #[.bool a0_0, .slice A0_1 l0_1.length c0_1, .int .i64 a0_2, .int .i64 a0_3, .int .i64 a0_4, .int .u32 a0_5]) (t := 53) ?hr ?_; (case hd => rfl); (case hg => rfl); (case hr => first | (go_simp; done) | (go_simp; rfl)); intro Ad hg w11 hbox hb; have Aa := Am (hbox); have Ah := Am ((by rw [hg]; exact (below_size (pB HB.out)) : w.heap.size ≤ Ad)); replace HB := Am (below_step (pB HB.out) hb); have Ae := Ah; clear hb hbox hg) | ((with_reducible refine gate_dst (N := 3) rfl ?_); refine box_event ?hg (N := 3) ?hd (cs := #[.bool a1_0, .slice A1_1 l1_1.length c1_1, .int .i64 a1_2, .int .i64 a1_3, .int .i64 a1_4, .int .u32 a1_5]) (t := 53) ?hr ?_; (case hd => rfl); (case hg => rfl); (case hr => first | (go_simp; done) | (go_simp; rfl)); intro Af hg w12 hbox hb; have Ag := Am (hbox); have Ai := Am ((by rw [hg]; exact (below_size (pE HB.out Ae.out)) : w.heap.size ≤ Af)); replace HB := Am (below_step (pE HB.out Ae.out) hb); have Aj := Ai; have Ab := Am ((by rw [hg]; exact Nat.ne_of_lt (kL Aa.out) : Ad ≠ Af)); have Ac := Am ((by rw [hg]; exact Nat.ne_of_gt (kL Aa.out) : Af ≠ Ad)); replace Aa := kBa Aa hb; clear hb hbox hg; have hnb13 := Ab.out; have hnc13 := Ac.out; obtain ⟨_, _, _, _, _, _⟩ := bc6 Aa.out; obtain ⟨_, _, _, _, _, _⟩ := bf6 Aa.out; obtain ⟨_, _, _, _, _, _⟩ := bc6 Ag.out; obtain ⟨_, _, _, _, _, _⟩ := bf6 Ag.out))
  go_ret
  exact ⟨pX, pE2 HB.out Ae.out Aj.out⟩
 rw [if_pos c4] at H
 have c4b0 : (a0_2 == a1_2 && (a0_3 == a1_3 && (a0_4 == a1_4 && (a0_5 == a1_5)))) = true := c4
 (try (have c4b1 : decide (a0_2 = a1_2 && (a0_3 == a1_3 && (a0_4 == a1_4 && (a0_5 == a1_5)))) = true := by simpa using c4))
 (try (have c4b2 : (a0_2 == a1_2 && (a0_3 == a1_3 && (a0_4 == a1_4 && (a0_5 == a1_5)))) = true := by simpa using c4))
 clear c4
 replace H := Option.bind_eq_some_iff.mp H
 obtain ⟨t299, A50, H⟩ := H
 replace H : (some t299) = some r := H
 have A5 := Am A50
 clear A50
 obtain rfl := Option.some.inj H
 go_enter Try.func33, Try.ntmps33
 go_wp2_with (first | ((with_reducible refine gate_dst (N := 2) rfl ?_); refine box_event ?hg (N := 2) ?hd (cs := #[.bool a0_0, .slice A0_1 l0_1.length c0_1, .int .i64 a0_2, .int .i64 a0_3, .int .i64 a0_4, .int .u32 a0_5]) (t := 53) ?hr ?_; (case hd => rfl); (case hg => rfl); (case hr => first | (go_simp; done) | (go_simp; rfl)); intro Ad hg w6 hbox hb; have Aa := Am (hbox); have Ah := Am ((by rw [hg]; exact (below_size (pB HB.out)) : w.heap.size ≤ Ad)); replace HB := Am (below_step (pB HB.out) hb); have Ae := Ah; clear hb hbox hg) | ((with_reducible refine gate_dst (N := 3) rfl ?_); refine box_event ?hg (N := 3) ?hd (cs := #[.bool a1_0, .slice A1_1 l1_1.length c1_1, .int .i64 a1_2, .int .i64 a1_3, .int .i64 a1_4, .int .u32 a1_5]) (t := 53) ?hr ?_; (case hd => rfl); (case hg => rfl); (case hr => first | (go_simp; done) | (go_simp; rfl)); intro Af hg w7 hbox hb; have Ag := Am (hbox); have Ai := Am ((by rw [hg]; exact (below_size (pE HB.out Ae.out)) : w.heap.size ≤ Af)); replace HB := Am (below_step (pE HB.out Ae.out) hb); have Aj := Ai; have Ab := Am ((by rw [hg]; exact Nat.ne_of_lt (kL Aa.out) : Ad ≠ Af)); have Ac := Am ((by rw [hg]; exact Nat.ne_of_gt (kL Aa.out) : Af ≠ Ad)); replace Aa := kBa Aa hb; clear hb hbox hg; have hnb8 := Ab.out; have hnc8 := Ac.out; obtain ⟨_, _, _, _, _, _⟩ := bc6 Aa.out; obtain ⟨_, _, _, _, _, _⟩ := bf6 Aa.out; obtain ⟨_, _, _, _, _, _⟩ := bc6 Ag.out; obtain ⟨_, _, _, _, _, _⟩ := bf6 Ag.out) | (go_at_call 38; (with_reducible refine (garnerref02_Bytes.calls k _ _ l0_1 _ _ l1_1 t299 _ ?Ap ?Aq ?Ar ?As A5.out).mono ?_); (case Ap => exact pC (Kd.C_below Ak.out HB.out)); (case Aq => exact Al.out); (case Ar => exact pC (Kd.C_below An.out HB.out)); (case As => exact Ao.out); rintro e w' ⟨rfl, ⟨nd, rfl⟩⟩))
 go_ret
 exact ⟨pX, pE2 HB.out Ae.out Aj.out⟩
end Go.Proofs.Ytangfpcifdpfeaa.PRaftTurns
