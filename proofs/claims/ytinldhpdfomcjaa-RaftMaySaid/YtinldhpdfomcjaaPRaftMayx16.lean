/- What the law reaches, as plain Lean functions, and that the machine's calls answer just that. -/
import Derived.Test.YtinldhpdfomcjaaPRaftMayx0
import Derived.Test.YtinldhpdfomcjaaPRaftMayx14
import Derived.Test.YtinldhpdfomcjaaPRaftMayx15
namespace Go.Proofs.Ytinldhpdfomcjaa.PRaftMay
open Go.RowKit Go.Proofs.YtinldhpdfomcjaaW.PrintWords Go.Proofs.YtinldhpdfomcjaaW.PrintLast Go.Proofs.YtinldhpdfomcjaaW.PrintMore
attribute [local go_sem] max2_int min2_int max_two min_two max_three min_three max_four min_four
set_option linter.unusedVariables false
set_option linter.unusedSimpArgs false
attribute [local go_sem] wrap64_l1 wrap64_l2 wrap64_l3 wrap64_l4 wrap64_l5
def garnerref23_May.j0 : Nat → Bool → Int → Int → List (S46) → Int → Int → Int → Int → Option (Bool)
 | 0, _, _, _, _, _, _, _, _ => none
 | k + 1, x47, x380000, x380001, x380002, x380003, x380004, x380005, x380006 => if x47 = true then (some false) else (if (x380002.length : Int) > 0 then (if 0 < (x380002.length : Int) then (if (wrap64 (((rd_T46 x380002 0).f0) - 1)) = x380000 then (if ((rd_T46 x380002 0).f1) < x380001 then (some false) else (if x380000 ≤ x380006 then (if x380006 ≤ x380005 then (some (decide (x380005 ≤ (wrap64 (x380000 + (x380002.length : Int)))))) else (some false)) else (some false))) else (some false)) else (none)) else (if x380000 ≤ x380006 then (if x380006 ≤ x380005 then (some (decide (x380005 ≤ (wrap64 (x380000 + (x380002.length : Int)))))) else (some false)) else (some false)))
def garnerref23_May.f (k : Nat) (a0_0 : Int) (a0_1 : Int) (l0_2 : List (S46)) (a0_3 : Int) (a0_4 : Int) (a0_5 : Int) (a0_6 : Int) : Option (Bool) := if a0_0 < 0 then (garnerref23_May.j0 k true a0_0 a0_1 l0_2 a0_3 a0_4 a0_5 a0_6) else (if a0_0 > 2147483647 then (garnerref23_May.j0 k true a0_0 a0_1 l0_2 a0_3 a0_4 a0_5 a0_6) else (if a0_1 < 0 then (garnerref23_May.j0 k true a0_0 a0_1 l0_2 a0_3 a0_4 a0_5 a0_6) else (if a0_1 > 2147483647 then (garnerref23_May.j0 k true a0_0 a0_1 l0_2 a0_3 a0_4 a0_5 a0_6) else (if ((a0_0 == 0) != (a0_1 == 0)) = true then (garnerref23_May.j0 k true a0_0 a0_1 l0_2 a0_3 a0_4 a0_5 a0_6) else (if (l0_2.length : Int) > 1000 then (garnerref23_May.j0 k true a0_0 a0_1 l0_2 a0_3 a0_4 a0_5 a0_6) else ((garnerref23_Rows.f k l0_2).bind fun t380 => (if t380 = true then ((garnerref22_May.f a0_3 a0_4 a0_5).bind fun t381 => (garnerref23_May.j0 k (!t381) a0_0 a0_1 l0_2 a0_3 a0_4 a0_5 a0_6)) else (garnerref23_May.j0 k true a0_0 a0_1 l0_2 a0_3 a0_4 a0_5 a0_6))))))))
theorem garnerref23_May.mono_l : ∀ k, (∀ y0 y1 y2 y3 y4 y5 y6 y7, LeO (garnerref23_May.j0 k y0 y1 y2 y3 y4 y5 y6 y7) (garnerref23_May.j0 (k + 1) y0 y1 y2 y3 y4 y5 y6 y7))
 | 0 => fun _ _ _ _ _ _ _ _ r h => by simp [garnerref23_May.j0] at h
 | k + 1 => by
  have ih0 := garnerref23_May.mono_l k
  ·intro y0 y1 y2 y3 y4 y5 y6 y7
   unfold garnerref23_May.j0
   repeat' first
   | (with_reducible exact ih0 _ _ _ _ _ _ _ _)
   | (with_reducible exact garnerref23_Rows.mono _ _)
   | (with_reducible exact LeO.refl _)
   | (with_reducible exact LeO.none _)
   | (with_reducible refine LeO.ite ?_ ?_)
   | (with_reducible refine LeO.bind ?_ (fun _ => ?_))
   | exact ih0 _ _ _ _ _ _ _ _
   | exact garnerref23_Rows.mono _ _
   | exact LeO.none _
   | refine LeO.ite ?_ ?_
   | refine LeO.bind ?_ (fun _ => ?_)
theorem garnerref23_May.mono : ∀ a0 a1 a2 a3 a4 a5 a6 k, LeO (garnerref23_May.f k a0 a1 a2 a3 a4 a5 a6) (garnerref23_May.f (k + 1) a0 a1 a2 a3 a4 a5 a6) := by
 intro a0 a1 a2 a3 a4 a5 a6 k
 have ih0 := garnerref23_May.mono_l k
 unfold garnerref23_May.f
 repeat' first
   | (with_reducible exact ih0 _ _ _ _ _ _ _ _)
   | (with_reducible exact garnerref23_Rows.mono _ _)
   | (with_reducible exact LeO.refl _)
   | (with_reducible exact LeO.none _)
   | (with_reducible refine LeO.ite ?_ ?_)
   | (with_reducible refine LeO.bind ?_ (fun _ => ?_))
   | exact ih0 _ _ _ _ _ _ _ _
   | exact garnerref23_Rows.mono _ _
   | exact LeO.none _
   | refine LeO.ite ?_ ?_
   | refine LeO.bind ?_ (fun _ => ?_)
set_option maxHeartbeats 8000000 in
set_option maxRecDepth 100000 in
theorem garnerref23_May.calls (k : Nat) (a0_0 : Int) (a0_1 : Int) (A0_2 : Option Addr) (c0_2 : Nat) (l0_2 : List (S46)) (a0_3 : Int) (a0_4 : Int) (a0_5 : Int) (a0_6 : Int) (r : Bool) (w : World) (hr0_2 : Kd.C k46 w A0_2 l0_2.length l0_2) (hc0_2 : l0_2.length ≤ c0_2) (h : garnerref23_May.f k a0_0 a0_1 l0_2 a0_3 a0_4 a0_5 a0_6 = some r) :
  Calls Try.prog 14 #[.agg #[.int .i64 a0_0, .int .i64 a0_1, .slice A0_2 l0_2.length c0_2, .int .i64 a0_3, .int .i64 a0_4, .int .i64 a0_5, .int .i64 a0_6]] w fun e w' => e = .returned (.bool r) ∧ Below w.heap.size w w' := by
 have hu26 := Try.underlying26
 have hu24 := Try.underlying24
 have A1 := Am hr0_2
 have A8 := Am hc0_2
 clear hr0_2 hc0_2
 have HB := Am (Below.refl w.heap.size w)
 have H : (if a0_0 < 0 then (garnerref23_May.j0 k true a0_0 a0_1 l0_2 a0_3 a0_4 a0_5 a0_6) else (if a0_0 > 2147483647 then (garnerref23_May.j0 k true a0_0 a0_1 l0_2 a0_3 a0_4 a0_5 a0_6) else (if a0_1 < 0 then (garnerref23_May.j0 k true a0_0 a0_1 l0_2 a0_3 a0_4 a0_5 a0_6) else (if a0_1 > 2147483647 then (garnerref23_May.j0 k true a0_0 a0_1 l0_2 a0_3 a0_4 a0_5 a0_6) else (if ((a0_0 == 0) != (a0_1 == 0)) = true then (garnerref23_May.j0 k true a0_0 a0_1 l0_2 a0_3 a0_4 a0_5 a0_6) else (if (l0_2.length : Int) > 1000 then (garnerref23_May.j0 k true a0_0 a0_1 l0_2 a0_3 a0_4 a0_5 a0_6) else ((garnerref23_Rows.f k l0_2).bind fun t380 => (if t380 = true then ((garnerref22_May.f a0_3 a0_4 a0_5).bind fun t381 => (garnerref23_May.j0 k (!t381) a0_0 a0_1 l0_2 a0_3 a0_4 a0_5 a0_6)) else (garnerref23_May.j0 k true a0_0 a0_1 l0_2 a0_3 a0_4 a0_5 a0_6))))))))) = some r := h
 clear h
 have HC2 := Am H
 clear H
 go_enter Try.func14, Try.ntmps14
 go_upto_region 1 with (first | ((with_reducible refine gate_dst (N := 1) rfl ?_); (try (refine gate_guard (by rfl) ?_; dsimp only)); refine box_event ?hg (N := 1) ?hd (cs := #[.int .i64 a0_0, .int .i64 a0_1, .slice A0_2 l0_2.length c0_2, .int .i64 a0_3, .int .i64 a0_4, .int .i64 a0_5, .int .i64 a0_6]) (t := 26) ?hr ?_; (case hd => rfl); (case hg => rfl); (case hr => first | (go_simp; done) | (go_simp; rfl)); intro A9 hg w3 hbox hb; have Aa := Am (hbox); have Br := Am ((by rw [hg]; exact (below_size (pB HB.out)) : w.heap.size ≤ A9)); replace HB := Am (below_step (pB HB.out) hb); have Aw := Br; clear hb hbox hg))
 repeat (go_quiet (first | ((with_reducible refine gate_dst (N := 1) rfl ?_); (try (refine gate_guard (by rfl) ?_; dsimp only)); refine box_event ?hg (N := 1) ?hd (cs := #[.int .i64 a0_0, .int .i64 a0_1, .slice A0_2 l0_2.length c0_2, .int .i64 a0_3, .int .i64 a0_4, .int .i64 a0_5, .int .i64 a0_6]) (t := 26) ?hr ?_; (case hd => rfl); (case hg => rfl); (case hr => first | (go_simp; done) | (go_simp; rfl)); intro A9 hg w3 hbox hb; have Aa := Am (hbox); have Br := Am ((by rw [hg]; exact (below_size (pB HB.out)) : w.heap.size ≤ A9)); replace HB := Am (below_step (pB HB.out) hb); have Aw := Br; clear hb hbox hg)); go_upto_region 1 with (first | ((with_reducible refine gate_dst (N := 1) rfl ?_); (try (refine gate_guard (by rfl) ?_; dsimp only)); refine box_event ?hg (N := 1) ?hd (cs := #[.int .i64 a0_0, .int .i64 a0_1, .slice A0_2 l0_2.length c0_2, .int .i64 a0_3, .int .i64 a0_4, .int .i64 a0_5, .int .i64 a0_6]) (t := 26) ?hr ?_; (case hd => rfl); (case hg => rfl); (case hr => first | (go_simp; done) | (go_simp; rfl)); intro A9 hg w3 hbox hb; have Aa := Am (hbox); have Br := Am ((by rw [hg]; exact (below_size (pB HB.out)) : w.heap.size ≤ A9)); replace HB := Am (below_step (pB HB.out) hb); have Aw := Br; clear hb hbox hg)))
 (try simp only [Act.put, List.setIfInBounds_toArray, List.set_cons_zero, List.set_cons_succ])
 go_cut [47] (fun v47 wc => ∃ (kq : Nat) (Bt : Bool), v47 = .bool Bt ∧ Aside0 (garnerref23_May.j0 kq Bt a0_0 a0_1 l0_2 a0_3 a0_4 a0_5 a0_6 = some r) ∧ Aside0 (kq ≤ k) ∧ Aside0 (wc.heap[A9]? = some (.cells #[.int .i64 a0_0, .int .i64 a0_1, (.slice A0_2 l0_2.length c0_2), .int .i64 a0_3, .int .i64 a0_4, .int .i64 a0_5, .int .i64 a0_6] 26 (0, 0))) ∧ Aside0 (Below w.heap.size w wc))
 case first =>
  have H := HC2.out
  clear HC2
  by_cases c4 : a0_0 < 0
  ·rw [if_pos c4] at H
   have c4b0 : decide (a0_0 < 0) = true := decide_eq_true c4
   clear c4
   (first | rw [c4b0] | (simp only [i64_w, i32_w]; rw [c4b0]) | skip)
   have H' := Am H
   clear H
   obtain ⟨Ds, Dt, Du, Dv, Dw, Dx, Dy⟩ := bc7 Aa.out
   obtain ⟨Dz, D0, D1, D2, D3, D4, D5⟩ := bf7 Aa.out
   go_wp2
   repeat (go_quiet (fail); try go_wp2)
   go_meet
   case rel => exact ⟨_, (true), (by first | rfl | (simp; done) | (simp [*]; done)), H', ⟨by first | omega | exact Nat.le_refl _⟩, ⟨pK Aa.out⟩, ⟨pE HB.out Aw.out⟩⟩
  rw [if_neg c4] at H
  have c4b0 : decide (a0_0 < 0) = false := decide_eq_false c4
  clear c4
  (first | rw [c4b0] | (simp only [i64_w, i32_w]; rw [c4b0]) | skip)
  by_cases c6 : a0_0 > 2147483647
  ·rw [if_pos c6] at H
   have c6b0 : decide (2147483647 < a0_0) = true := decide_eq_true c6
   clear c6
   have H' := Am H
   clear H
   obtain ⟨D6, D7, D8, D9, Ea, Eb, Ec⟩ := bc7 Aa.out
   obtain ⟨Ed, Ee, Ef, Eg, Eh, Ei, Ej⟩ := bf7 Aa.out
   go_wp2
   repeat (go_quiet (fail); try go_wp2)
   go_meet
   case rel => exact ⟨_, (true), (by first | rfl | (simp; done) | (simp [*]; done)), H', ⟨by first | omega | exact Nat.le_refl _⟩, ⟨pK Aa.out⟩, ⟨pE HB.out Aw.out⟩⟩
  rw [if_neg c6] at H
  have c6b0 : decide (2147483647 < a0_0) = false := decide_eq_false c6
  clear c6
  by_cases c8 : a0_1 < 0
  ·rw [if_pos c8] at H
   have c8b0 : decide (a0_1 < 0) = true := decide_eq_true c8
   clear c8
   have H' := Am H
   clear H
   obtain ⟨Ek, El, Em, En, Eo, Ep, Er⟩ := bc7 Aa.out
   obtain ⟨Es, Et, Eu, Ew, Ex, Ey, Ez⟩ := bf7 Aa.out
   go_wp2
   repeat (go_quiet (fail); try go_wp2)
   go_meet
   case rel => exact ⟨_, (true), (by first | rfl | (simp; done) | (simp [*]; done)), H', ⟨by first | omega | exact Nat.le_refl _⟩, ⟨pK Aa.out⟩, ⟨pE HB.out Aw.out⟩⟩
  rw [if_neg c8] at H
  have c8b0 : decide (a0_1 < 0) = false := decide_eq_false c8
  clear c8
  by_cases c10 : a0_1 > 2147483647
  ·rw [if_pos c10] at H
   have c10b0 : decide (2147483647 < a0_1) = true := decide_eq_true c10
   clear c10
   have H' := Am H
   clear H
   obtain ⟨Bu, Bv, Bw, Bx, By, Bz, B0⟩ := bc7 Aa.out
   obtain ⟨B1, B2, B3, B4, B5, B6, B7⟩ := bf7 Aa.out
   go_wp2
   repeat (go_quiet (fail); try go_wp2)
   go_meet
   case rel => exact ⟨_, (true), (by first | rfl | (simp; done) | (simp [*]; done)), H', ⟨by first | omega | exact Nat.le_refl _⟩, ⟨pK Aa.out⟩, ⟨pE HB.out Aw.out⟩⟩
  rw [if_neg c10] at H
  have c10b0 : decide (2147483647 < a0_1) = false := decide_eq_false c10
  clear c10
  by_cases c12 : ((a0_0 == 0) != (a0_1 == 0)) = true
  ·rw [if_pos c12] at H
   have c12b0 : ((a0_0 == 0) != (a0_1 == 0)) = true := c12
   (try (have c12b1 : decide ((a0_0 == 0) = (a0_1 == 0)) = false := by simpa using c12))
   (try (have c12b2 : ((a0_0 == 0) == (a0_1 == 0)) = false := by simpa using c12))
   (try (have c12b3 : ¬ ((a0_0 == 0) = (a0_1 == 0)) := by simpa using c12))
   clear c12
   have H' := Am H
   clear H
   obtain ⟨B8, B9, Ca, Cb, Cc, Cd, Ce⟩ := bc7 Aa.out
   obtain ⟨Cf, Cg, Ch, Ci, Cj, Ck, Cl⟩ := bf7 Aa.out
   go_wp2
   repeat (go_quiet (fail); try go_wp2)
   go_meet
   case rel => exact ⟨_, (true), (by first | rfl | (simp; done) | (simp [*]; done)), H', ⟨by first | omega | exact Nat.le_refl _⟩, ⟨pK Aa.out⟩, ⟨pE HB.out Aw.out⟩⟩
  rw [if_neg c12] at H
  have c12b0 : ((a0_0 == 0) != (a0_1 == 0)) = false := by simpa using c12
  (try (have c12b1 : decide ((a0_0 == 0) = (a0_1 == 0)) = true := by simpa using c12))
  (try (have c12b2 : ((a0_0 == 0) == (a0_1 == 0)) = true := by simpa using c12))
  clear c12
  by_cases c14 : (l0_2.length : Int) > 1000
  ·rw [if_pos c14] at H
   have c14b0 : decide (1000 < (l0_2.length : Int)) = true := decide_eq_true c14
   have c14b1 : decide (1000 < l0_2.length) = true := decide_eq_true (by omega)
   clear c14
   have H' := Am H
   clear H
   obtain ⟨Cm, Cn, Co, Cp, Cq, Cr, Cs⟩ := bc7 Aa.out
   obtain ⟨Ct, Cu, Cv, Cw, Cx, Cy, Cz⟩ := bf7 Aa.out
   go_wp2
   repeat (go_quiet (fail); try go_wp2)
   go_meet
   case rel => exact ⟨_, (true), (by first | rfl | (simp; done) | (simp [*]; done)), H', ⟨by first | omega | exact Nat.le_refl _⟩, ⟨pK Aa.out⟩, ⟨pE HB.out Aw.out⟩⟩
  rw [if_neg c14] at H
  have c14b0 : decide (1000 < (l0_2.length : Int)) = false := decide_eq_false c14
  have c14b1 : decide (1000 < l0_2.length) = false := decide_eq_false (by omega)
  clear c14
  replace H := Option.bind_eq_some_iff.mp H
  obtain ⟨t380, A160, H⟩ := H
  replace H : (if t380 = true then ((garnerref22_May.f a0_3 a0_4 a0_5).bind fun t381 => (garnerref23_May.j0 k (!t381) a0_0 a0_1 l0_2 a0_3 a0_4 a0_5 a0_6)) else (garnerref23_May.j0 k true a0_0 a0_1 l0_2 a0_3 a0_4 a0_5 a0_6)) = some r := H
  have A16 := Am A160
  clear A160
  by_cases c17 : t380 = true
  rotate_left
  ·replace c17 := Bool.eq_false_iff.mpr c17
   subst c17
   have H1 : (garnerref23_May.j0 k true a0_0 a0_1 l0_2 a0_3 a0_4 a0_5 a0_6) = some r := by rw [if_neg (show ¬ (false = true) by decide)] at H; exact H
   clear H
   have H := H1
   clear H1
   have H' := Am H
   clear H
   obtain ⟨De, Df, Dg, Dh, Di, Dj, Dk⟩ := bc7 Aa.out
   obtain ⟨Dl, Dm, Dn, Do, Dp, Dq, Dr⟩ := bf7 Aa.out
   go_wp2_with (first | (go_at_call 31; (with_reducible refine (garnerref23_Rows.calls k _ _ l0_2 false _ ?A2 ?A3 A16.out).mono ?_); (case A2 => exact pC (Kd.C_below A1.out HB.out)); (case A3 => exact A8.out); rintro e w24 ⟨rfl, hb⟩; replace Aa := kBa Aa hb; replace HB := Am (below_step (pE HB.out Aw.out) hb); (try clear hb); (try clear hb2); (try clear hk); (try clear hi)))
   repeat (go_quiet (first | (go_at_call 31; (with_reducible refine (garnerref23_Rows.calls k _ _ l0_2 false _ ?A2 ?A3 A16.out).mono ?_); (case A2 => exact pC (Kd.C_below A1.out HB.out)); (case A3 => exact A8.out); rintro e w24 ⟨rfl, hb⟩; replace Aa := kBa Aa hb; replace HB := Am (below_step (pE HB.out Aw.out) hb); (try clear hb); (try clear hb2); (try clear hk); (try clear hi))); try go_wp2_with (first | (go_at_call 31; (with_reducible refine (garnerref23_Rows.calls k _ _ l0_2 false _ ?A2 ?A3 A16.out).mono ?_); (case A2 => exact pC (Kd.C_below A1.out HB.out)); (case A3 => exact A8.out); rintro e w24 ⟨rfl, hb⟩; replace Aa := kBa Aa hb; replace HB := Am (below_step (pE HB.out Aw.out) hb); (try clear hb); (try clear hb2); (try clear hk); (try clear hi))))
   go_meet
   case rel => exact ⟨_, (true), (by first | rfl | (simp; done) | (simp [*]; done)), H', ⟨by first | omega | exact Nat.le_refl _⟩, ⟨pK Aa.out⟩, ⟨pE HB.out Aw.out⟩⟩
  subst c17
  have H1 : ((garnerref22_May.f a0_3 a0_4 a0_5).bind fun t381 => (garnerref23_May.j0 k (!t381) a0_0 a0_1 l0_2 a0_3 a0_4 a0_5 a0_6)) = some r := by rw [if_pos rfl] at H; exact H
  clear H
  have H := H1
  clear H1
  replace H := Option.bind_eq_some_iff.mp H
  obtain ⟨t381, A180, H⟩ := H
  replace H : (garnerref23_May.j0 k (!t381) a0_0 a0_1 l0_2 a0_3 a0_4 a0_5 a0_6) = some r := H
  have A18 := Am A180
  clear A180
  have H' := Am H
  clear H
  obtain ⟨C0, C1, C2, C3, C4, C5, C6⟩ := bc7 Aa.out
  obtain ⟨C7, C8, C9, Da, Db, Dc, Dd⟩ := bf7 Aa.out
  go_wp2_with (first | (go_at_call 31; (with_reducible refine (garnerref23_Rows.calls k _ _ l0_2 true _ ?A2 ?A3 A16.out).mono ?_); (case A2 => exact pC (Kd.C_below A1.out HB.out)); (case A3 => exact A8.out); rintro e w20 ⟨rfl, hb⟩; replace Aa := kBa Aa hb; replace HB := Am (below_step (pE HB.out Aw.out) hb); (try clear hb); (try clear hb2); (try clear hk); (try clear hi); obtain ⟨Bb, Bc, Bd, Be, Bf, Bg, Bh⟩ := bc7 Aa.out; obtain ⟨Bi, Bj, Bk, Bl, Bm, Bn, Bo⟩ := bf7 Aa.out) | (go_at_call 32; (with_reducible refine (garnerref22_May.calls a0_3 a0_4 a0_5 t381 _ A18.out).mono ?_); rintro e w22 ⟨rfl, hb⟩; replace Aa := kBa Aa hb; replace HB := Am (below_step (pE HB.out Aw.out) hb); (try clear hb); (try clear hb2); (try clear hk); (try clear hi)))
  repeat (go_quiet (first | (go_at_call 31; (with_reducible refine (garnerref23_Rows.calls k _ _ l0_2 true _ ?A2 ?A3 A16.out).mono ?_); (case A2 => exact pC (Kd.C_below A1.out HB.out)); (case A3 => exact A8.out); rintro e w20 ⟨rfl, hb⟩; replace Aa := kBa Aa hb; replace HB := Am (below_step (pE HB.out Aw.out) hb); (try clear hb); (try clear hb2); (try clear hk); (try clear hi); obtain ⟨Bb, Bc, Bd, Be, Bf, Bg, Bh⟩ := bc7 Aa.out; obtain ⟨Bi, Bj, Bk, Bl, Bm, Bn, Bo⟩ := bf7 Aa.out) | (go_at_call 32; (with_reducible refine (garnerref22_May.calls a0_3 a0_4 a0_5 t381 _ A18.out).mono ?_); rintro e w22 ⟨rfl, hb⟩; replace Aa := kBa Aa hb; replace HB := Am (below_step (pE HB.out Aw.out) hb); (try clear hb); (try clear hb2); (try clear hk); (try clear hi))); try go_wp2_with (first | (go_at_call 31; (with_reducible refine (garnerref23_Rows.calls k _ _ l0_2 true _ ?A2 ?A3 A16.out).mono ?_); (case A2 => exact pC (Kd.C_below A1.out HB.out)); (case A3 => exact A8.out); rintro e w20 ⟨rfl, hb⟩; replace Aa := kBa Aa hb; replace HB := Am (below_step (pE HB.out Aw.out) hb); (try clear hb); (try clear hb2); (try clear hk); (try clear hi); obtain ⟨Bb, Bc, Bd, Be, Bf, Bg, Bh⟩ := bc7 Aa.out; obtain ⟨Bi, Bj, Bk, Bl, Bm, Bn, Bo⟩ := bf7 Aa.out) | (go_at_call 32; (with_reducible refine (garnerref22_May.calls a0_3 a0_4 a0_5 t381 _ A18.out).mono ?_); rintro e w22 ⟨rfl, hb⟩; replace Aa := kBa Aa hb; replace HB := Am (below_step (pE HB.out Aw.out) hb); (try clear hb); (try clear hb2); (try clear hk); (try clear hi))))
  go_meet
  case rel => exact ⟨_, (!t381), (by first | rfl | (simp; done) | (simp [*]; done)), H', ⟨by first | omega | exact Nat.le_refl _⟩, ⟨pK Aa.out⟩, ⟨pE HB.out Aw.out⟩⟩
 case rest =>
  clear HC2
  try clear c1
  try clear p2
  try clear c4
  try clear c4b0
  try clear c6
  try clear c6b0
  try clear c8
  try clear c8b0
  try clear c10
  try clear c10b0
  try clear c12
  try clear c12b0
  try clear c12b1
  try clear c12b2
  try clear c14
  try clear c14b0
  try clear c14b1
  try clear c17
  try clear Bu Bv Bw Bx By Bz B0
  try clear B8 B9 Ca Cb Cc Cd Ce
  try clear Cm Cn Co Cp Cq Cr Cs
  try clear C0 C1 C2 C3 C4 C5 C6
  try clear Bb Bc Bd Be Bf Bg Bh
  try clear De Df Dg Dh Di Dj Dk
  try clear Ds Dt Du Dv Dw Dx Dy
  try clear D6 D7 D8 D9 Ea Eb Ec
  try clear Ek El Em En Eo Ep Er
  try clear B1 B2 B3 B4 B5 B6 B7
  try clear Cf Cg Ch Ci Cj Ck Cl
  try clear Ct Cu Cv Cw Cx Cy Cz
  try clear C7 C8 C9 Da Db Dc Dd
  try clear Bi Bj Bk Bl Bm Bn Bo
  try clear Dl Dm Dn Do Dp Dq Dr
  try clear Dz D0 D1 D2 D3 D4 D5
  try clear Ed Ee Ef Eg Eh Ei Ej
  try clear Es Et Eu Ew Ex Ey Ez
  obtain ⟨kq, Bt, rfl, HA, HJ1, Aa, HB⟩ := hcut
  cases kq with
  | zero => exact absurd HA.out (by simp [garnerref23_May.j0])
  | succ kj1 =>
   have H := HA.out
   clear HA
   simp only [garnerref23_May.j0] at H
   by_cases c25 : Bt = true
   ·subst c25
    have H1 : (some false) = some r := by rw [if_pos rfl] at H; exact H
    clear H
    have H := H1
    clear H1
    obtain rfl := Option.some.inj H
    go_wp2
    repeat (go_quiet (fail); try go_wp2)
    go_ret
    exact ⟨pX, pE HB.out Aw.out⟩
   replace c25 := Bool.eq_false_iff.mpr c25
   subst c25
   have H1 : (if (l0_2.length : Int) > 0 then (if 0 < (l0_2.length : Int) then (if (wrap64 (((rd_T46 l0_2 0).f0) - 1)) = a0_0 then (if ((rd_T46 l0_2 0).f1) < a0_1 then (some false) else (if a0_0 ≤ a0_6 then (if a0_6 ≤ a0_5 then (some (decide (a0_5 ≤ (wrap64 (a0_0 + (l0_2.length : Int)))))) else (some false)) else (some false))) else (some false)) else (none)) else (if a0_0 ≤ a0_6 then (if a0_6 ≤ a0_5 then (some (decide (a0_5 ≤ (wrap64 (a0_0 + (l0_2.length : Int)))))) else (some false)) else (some false))) = some r := by rw [if_neg (show ¬ (false = true) by decide)] at H; exact H
   clear H
   have H := H1
   clear H1
   by_cases c26 : (l0_2.length : Int) > 0
   rotate_left
   ·rw [if_neg c26] at H
    have c26b0 : decide (0 < (l0_2.length : Int)) = false := decide_eq_false c26
    have c26b1 : decide (0 < l0_2.length) = false := decide_eq_false (by omega)
    clear c26
    by_cases c37 : a0_0 ≤ a0_6
    rotate_left
    ·rw [if_neg c37] at H
     have c37b0 : decide (a0_0 ≤ a0_6) = false := decide_eq_false c37
     clear c37
     obtain rfl := Option.some.inj H
     obtain ⟨hcz41_0, hcz41_1, hcz41_2, hcz41_3, hcz41_4, hcz41_5, hcz41_6⟩ := bc7 Aa.out
     obtain ⟨hfz41_0, hfz41_1, hfz41_2, hfz41_3, hfz41_4, hfz41_5, hfz41_6⟩ := bf7 Aa.out
     go_wp2
     repeat (go_quiet (fail); try go_wp2)
     go_ret
     exact ⟨pX, pE HB.out Aw.out⟩
    rw [if_pos c37] at H
    have c37b0 : decide (a0_0 ≤ a0_6) = true := decide_eq_true c37
    clear c37
    by_cases c38 : a0_6 ≤ a0_5
    ·rw [if_pos c38] at H
     have c38b0 : decide (a0_6 ≤ a0_5) = true := decide_eq_true c38
     clear c38
     obtain rfl := Option.some.inj H
     obtain ⟨hcz39_0, hcz39_1, hcz39_2, hcz39_3, hcz39_4, hcz39_5, hcz39_6⟩ := bc7 Aa.out
     obtain ⟨hfz39_0, hfz39_1, hfz39_2, hfz39_3, hfz39_4, hfz39_5, hfz39_6⟩ := bf7 Aa.out
     go_wp2
     repeat (go_quiet (fail); try go_wp2)
     go_ret
     exact ⟨pX, pE HB.out Aw.out⟩
    rw [if_neg c38] at H
    have c38b0 : decide (a0_6 ≤ a0_5) = false := decide_eq_false c38
    clear c38
    obtain rfl := Option.some.inj H
    obtain ⟨hcz40_0, hcz40_1, hcz40_2, hcz40_3, hcz40_4, hcz40_5, hcz40_6⟩ := bc7 Aa.out
    obtain ⟨hfz40_0, hfz40_1, hfz40_2, hfz40_3, hfz40_4, hfz40_5, hfz40_6⟩ := bf7 Aa.out
    go_wp2
    repeat (go_quiet (fail); try go_wp2)
    go_ret
    exact ⟨pX, pE HB.out Aw.out⟩
   rw [if_pos c26] at H
   have c26b0 : decide (0 < (l0_2.length : Int)) = true := decide_eq_true c26
   have c26b1 : decide (0 < l0_2.length) = true := decide_eq_true (by omega)
   clear c26
   by_cases c27 : 0 < (l0_2.length : Int)
   rotate_left
   ·rw [if_neg c27] at H
    exact absurd H (by simp)
   rw [if_pos c27] at H
   have c27b0 : decide (0 < (l0_2.length : Int)) = true := decide_eq_true c27
   have c27b1 : decide (0 < l0_2.length) = true := decide_eq_true (by omega)
   clear c27
   by_cases c28 : (wrap64 (((rd_T46 l0_2 0).f0) - 1)) = a0_0
   rotate_left
   ·rw [if_neg c28] at H
    have c28b0 : ((wrap64 (((rd_T46 l0_2 0).f0) - 1)) == a0_0) = false := beq_eq_false_iff_ne.mpr c28
    have c28b1 : ((wrap64 (((rd_T46 l0_2 0).f0) - 1)) != a0_0) = true := bne_iff_ne.mpr c28
    obtain rfl := Option.some.inj H
    obtain ⟨hcz36_0, hcz36_1, hcz36_2, hcz36_3, hcz36_4, hcz36_5, hcz36_6⟩ := bc7 Aa.out
    obtain ⟨hfz36_0, hfz36_1, hfz36_2, hfz36_3, hfz36_4, hfz36_5, hfz36_6⟩ := bf7 Aa.out
    have p382 : 0 ≤ (0 : Int) := (by omega)
    have q382 : 0 < (l0_2.length : Int) := of_decide_eq_true pS
    obtain ⟨A4, Ba, c382_5, e382, Ac, Ad, Ae, Af, Ag, Ab, Ah, Ai, Aj, Ak, Ax, Ay⟩ := at_T46 A1.out 0 p382 q382
    cases e382
    have qi382 : (0 < l0_2.length) = True := eq_true (by omega)
    (try rw [tz] at Ac)
    (try rw [show 0 * 10 = 0 from rfl] at Ac)
    (try rw [Addr.add_zero'] at Ac)
    (try rw [tz] at Ad)
    (try rw [show 0 * 10 = 0 from rfl] at Ad)
    (try rw [Addr.add_zero'] at Ad)
    (try rw [tz] at Ae)
    (try rw [show 0 * 10 = 0 from rfl] at Ae)
    (try rw [Addr.add_zero'] at Ae)
    (try rw [tz] at Af)
    (try rw [show 0 * 10 = 0 from rfl] at Af)
    (try rw [Addr.add_zero'] at Af)
    (try rw [tz] at Ag)
    (try rw [show 0 * 10 = 0 from rfl] at Ag)
    (try rw [Addr.add_zero'] at Ag)
    (try rw [tz] at Ab)
    (try rw [show 0 * 10 = 0 from rfl] at Ab)
    (try rw [Addr.add_zero'] at Ab)
    (try rw [tz] at Ah)
    (try rw [show 0 * 10 = 0 from rfl] at Ah)
    (try rw [Addr.add_zero'] at Ah)
    (try rw [tz] at Ai)
    (try rw [show 0 * 10 = 0 from rfl] at Ai)
    (try rw [Addr.add_zero'] at Ai)
    (try rw [tz] at Aj)
    (try rw [show 0 * 10 = 0 from rfl] at Aj)
    (try rw [Addr.add_zero'] at Aj)
    (try rw [tz] at Ak)
    (try rw [show 0 * 10 = 0 from rfl] at Ak)
    (try rw [Addr.add_zero'] at Ak)
    replace Ac := cU HB.out Ac
    replace Ad := cU HB.out Ad
    replace Ae := cU HB.out Ae
    replace Af := cU HB.out Af
    replace Ag := cU HB.out Ag
    replace Ab := cU HB.out Ab
    replace Ah := cU HB.out Ah
    replace Ai := cU HB.out Ai
    replace Aj := cU HB.out Aj
    replace Ak := cU HB.out Ak
    have A5 := Am Ay
    have A6 := Am Ax
    clear Ay Ax
    replace p382 := eq_true p382
    replace q382 := eq_true q382
    go_wp2
    repeat (go_quiet (fail); try go_wp2)
    go_ret
    exact ⟨pX, pE HB.out Aw.out⟩
   rw [if_pos c28] at H
   have c28b0 : ((wrap64 (((rd_T46 l0_2 0).f0) - 1)) == a0_0) = true := beq_iff_eq.mpr c28
   have c28b1 : ((wrap64 (((rd_T46 l0_2 0).f0) - 1)) != a0_0) = false := bne_eq_false_iff_eq.mpr c28
   clear c28
   by_cases c29 : ((rd_T46 l0_2 0).f1) < a0_1
   ·rw [if_pos c29] at H
    have c29b0 : decide (((rd_T46 l0_2 0).f1) < a0_1) = true := decide_eq_true c29
    clear c29
    obtain rfl := Option.some.inj H
    obtain ⟨hcz30_0, hcz30_1, hcz30_2, hcz30_3, hcz30_4, hcz30_5, hcz30_6⟩ := bc7 Aa.out
    obtain ⟨hfz30_0, hfz30_1, hfz30_2, hfz30_3, hfz30_4, hfz30_5, hfz30_6⟩ := bf7 Aa.out
    have p382 : 0 ≤ (0 : Int) := (by omega)
    have q382 : 0 < (l0_2.length : Int) := of_decide_eq_true pS
    obtain ⟨A4, Ba, c382_5, e382, Ac, Ad, Ae, Af, Ag, Ab, Ah, Ai, Aj, Ak, Ax, Ay⟩ := at_T46 A1.out 0 p382 q382
    cases e382
    have qi382 : (0 < l0_2.length) = True := eq_true (by omega)
    (try rw [tz] at Ac)
    (try rw [show 0 * 10 = 0 from rfl] at Ac)
    (try rw [Addr.add_zero'] at Ac)
    (try rw [tz] at Ad)
    (try rw [show 0 * 10 = 0 from rfl] at Ad)
    (try rw [Addr.add_zero'] at Ad)
    (try rw [tz] at Ae)
    (try rw [show 0 * 10 = 0 from rfl] at Ae)
    (try rw [Addr.add_zero'] at Ae)
    (try rw [tz] at Af)
    (try rw [show 0 * 10 = 0 from rfl] at Af)
    (try rw [Addr.add_zero'] at Af)
    (try rw [tz] at Ag)
    (try rw [show 0 * 10 = 0 from rfl] at Ag)
    (try rw [Addr.add_zero'] at Ag)
    (try rw [tz] at Ab)
    (try rw [show 0 * 10 = 0 from rfl] at Ab)
    (try rw [Addr.add_zero'] at Ab)
    (try rw [tz] at Ah)
    (try rw [show 0 * 10 = 0 from rfl] at Ah)
    (try rw [Addr.add_zero'] at Ah)
    (try rw [tz] at Ai)
    (try rw [show 0 * 10 = 0 from rfl] at Ai)
    (try rw [Addr.add_zero'] at Ai)
    (try rw [tz] at Aj)
    (try rw [show 0 * 10 = 0 from rfl] at Aj)
    (try rw [Addr.add_zero'] at Aj)
    (try rw [tz] at Ak)
    (try rw [show 0 * 10 = 0 from rfl] at Ak)
    (try rw [Addr.add_zero'] at Ak)
    replace Ac := cU HB.out Ac
    replace Ad := cU HB.out Ad
    replace Ae := cU HB.out Ae
    replace Af := cU HB.out Af
    replace Ag := cU HB.out Ag
    replace Ab := cU HB.out Ab
    replace Ah := cU HB.out Ah
    replace Ai := cU HB.out Ai
    replace Aj := cU HB.out Aj
    replace Ak := cU HB.out Ak
    have A5 := Am Ay
    have A6 := Am Ax
    clear Ay Ax
    replace p382 := eq_true p382
    replace q382 := eq_true q382
    have p383 : 0 ≤ (0 : Int) := (by omega)
    have q383 : 0 < (l0_2.length : Int) := of_decide_eq_true pS
    obtain ⟨A7, Bs, c383_5, e383, An, Ao, Ap, Aq, Ar, Al, As, At, Au, Av, Az, A0⟩ := at_T46 A1.out 0 p383 q383
    obtain rfl : A4 = A7 := (by injection e383)
    have qi383 : (0 < l0_2.length) = True := eq_true (by omega)
    (try rw [tz] at An)
    (try rw [show 0 * 10 = 0 from rfl] at An)
    (try rw [Addr.add_zero'] at An)
    (try rw [tz] at Ao)
    (try rw [show 0 * 10 = 0 from rfl] at Ao)
    (try rw [Addr.add_zero'] at Ao)
    (try rw [tz] at Ap)
    (try rw [show 0 * 10 = 0 from rfl] at Ap)
    (try rw [Addr.add_zero'] at Ap)
    (try rw [tz] at Aq)
    (try rw [show 0 * 10 = 0 from rfl] at Aq)
    (try rw [Addr.add_zero'] at Aq)
    (try rw [tz] at Ar)
    (try rw [show 0 * 10 = 0 from rfl] at Ar)
    (try rw [Addr.add_zero'] at Ar)
    (try rw [tz] at Al)
    (try rw [show 0 * 10 = 0 from rfl] at Al)
    (try rw [Addr.add_zero'] at Al)
    (try rw [tz] at As)
    (try rw [show 0 * 10 = 0 from rfl] at As)
    (try rw [Addr.add_zero'] at As)
    (try rw [tz] at At)
    (try rw [show 0 * 10 = 0 from rfl] at At)
    (try rw [Addr.add_zero'] at At)
    (try rw [tz] at Au)
    (try rw [show 0 * 10 = 0 from rfl] at Au)
    (try rw [Addr.add_zero'] at Au)
    (try rw [tz] at Av)
    (try rw [show 0 * 10 = 0 from rfl] at Av)
    (try rw [Addr.add_zero'] at Av)
    replace An := cU HB.out An
    replace Ao := cU HB.out Ao
    replace Ap := cU HB.out Ap
    replace Aq := cU HB.out Aq
    replace Ar := cU HB.out Ar
    replace Al := cU HB.out Al
    replace As := cU HB.out As
    replace At := cU HB.out At
    replace Au := cU HB.out Au
    replace Av := cU HB.out Av
    have Bp := Am A0
    have Bq := Am Az
    clear A0 Az
    replace p383 := eq_true p383
    replace q383 := eq_true q383
    have ea_ := Option.some.inj (Ab.symm.trans Al)
    injection ea_ with ea_ en_ ec_
    subst ea_
    subst ec_
    clear en_
    go_wp2
    repeat (go_quiet (fail); try go_wp2)
    go_ret
    exact ⟨pX, pE HB.out Aw.out⟩
   rw [if_neg c29] at H
   have c29b0 : decide (((rd_T46 l0_2 0).f1) < a0_1) = false := decide_eq_false c29
   clear c29
   by_cases c31 : a0_0 ≤ a0_6
   rotate_left
   ·rw [if_neg c31] at H
    have c31b0 : decide (a0_0 ≤ a0_6) = false := decide_eq_false c31
    clear c31
    obtain rfl := Option.some.inj H
    obtain ⟨hcz35_0, hcz35_1, hcz35_2, hcz35_3, hcz35_4, hcz35_5, hcz35_6⟩ := bc7 Aa.out
    obtain ⟨hfz35_0, hfz35_1, hfz35_2, hfz35_3, hfz35_4, hfz35_5, hfz35_6⟩ := bf7 Aa.out
    have p382 : 0 ≤ (0 : Int) := (by omega)
    have q382 : 0 < (l0_2.length : Int) := of_decide_eq_true pS
    obtain ⟨A4, Ba, c382_5, e382, Ac, Ad, Ae, Af, Ag, Ab, Ah, Ai, Aj, Ak, Ax, Ay⟩ := at_T46 A1.out 0 p382 q382
    cases e382
    have qi382 : (0 < l0_2.length) = True := eq_true (by omega)
    (try rw [tz] at Ac)
    (try rw [show 0 * 10 = 0 from rfl] at Ac)
    (try rw [Addr.add_zero'] at Ac)
    (try rw [tz] at Ad)
    (try rw [show 0 * 10 = 0 from rfl] at Ad)
    (try rw [Addr.add_zero'] at Ad)
    (try rw [tz] at Ae)
    (try rw [show 0 * 10 = 0 from rfl] at Ae)
    (try rw [Addr.add_zero'] at Ae)
    (try rw [tz] at Af)
    (try rw [show 0 * 10 = 0 from rfl] at Af)
    (try rw [Addr.add_zero'] at Af)
    (try rw [tz] at Ag)
    (try rw [show 0 * 10 = 0 from rfl] at Ag)
    (try rw [Addr.add_zero'] at Ag)
    (try rw [tz] at Ab)
    (try rw [show 0 * 10 = 0 from rfl] at Ab)
    (try rw [Addr.add_zero'] at Ab)
    (try rw [tz] at Ah)
    (try rw [show 0 * 10 = 0 from rfl] at Ah)
    (try rw [Addr.add_zero'] at Ah)
    (try rw [tz] at Ai)
    (try rw [show 0 * 10 = 0 from rfl] at Ai)
    (try rw [Addr.add_zero'] at Ai)
    (try rw [tz] at Aj)
    (try rw [show 0 * 10 = 0 from rfl] at Aj)
    (try rw [Addr.add_zero'] at Aj)
    (try rw [tz] at Ak)
    (try rw [show 0 * 10 = 0 from rfl] at Ak)
    (try rw [Addr.add_zero'] at Ak)
    replace Ac := cU HB.out Ac
    replace Ad := cU HB.out Ad
    replace Ae := cU HB.out Ae
    replace Af := cU HB.out Af
    replace Ag := cU HB.out Ag
    replace Ab := cU HB.out Ab
    replace Ah := cU HB.out Ah
    replace Ai := cU HB.out Ai
    replace Aj := cU HB.out Aj
    replace Ak := cU HB.out Ak
    have A5 := Am Ay
    have A6 := Am Ax
    clear Ay Ax
    replace p382 := eq_true p382
    replace q382 := eq_true q382
    have p383 : 0 ≤ (0 : Int) := (by omega)
    have q383 : 0 < (l0_2.length : Int) := of_decide_eq_true pS
    obtain ⟨A7, Bs, c383_5, e383, An, Ao, Ap, Aq, Ar, Al, As, At, Au, Av, Az, A0⟩ := at_T46 A1.out 0 p383 q383
    obtain rfl : A4 = A7 := (by injection e383)
    have qi383 : (0 < l0_2.length) = True := eq_true (by omega)
    (try rw [tz] at An)
    (try rw [show 0 * 10 = 0 from rfl] at An)
    (try rw [Addr.add_zero'] at An)
    (try rw [tz] at Ao)
    (try rw [show 0 * 10 = 0 from rfl] at Ao)
    (try rw [Addr.add_zero'] at Ao)
    (try rw [tz] at Ap)
    (try rw [show 0 * 10 = 0 from rfl] at Ap)
    (try rw [Addr.add_zero'] at Ap)
    (try rw [tz] at Aq)
    (try rw [show 0 * 10 = 0 from rfl] at Aq)
    (try rw [Addr.add_zero'] at Aq)
    (try rw [tz] at Ar)
    (try rw [show 0 * 10 = 0 from rfl] at Ar)
    (try rw [Addr.add_zero'] at Ar)
    (try rw [tz] at Al)
    (try rw [show 0 * 10 = 0 from rfl] at Al)
    (try rw [Addr.add_zero'] at Al)
    (try rw [tz] at As)
    (try rw [show 0 * 10 = 0 from rfl] at As)
    (try rw [Addr.add_zero'] at As)
    (try rw [tz] at At)
    (try rw [show 0 * 10 = 0 from rfl] at At)
    (try rw [Addr.add_zero'] at At)
    (try rw [tz] at Au)
    (try rw [show 0 * 10 = 0 from rfl] at Au)
    (try rw [Addr.add_zero'] at Au)
    (try rw [tz] at Av)
    (try rw [show 0 * 10 = 0 from rfl] at Av)
    (try rw [Addr.add_zero'] at Av)
    replace An := cU HB.out An
    replace Ao := cU HB.out Ao
    replace Ap := cU HB.out Ap
    replace Aq := cU HB.out Aq
    replace Ar := cU HB.out Ar
    replace Al := cU HB.out Al
    replace As := cU HB.out As
    replace At := cU HB.out At
    replace Au := cU HB.out Au
    replace Av := cU HB.out Av
    have Bp := Am A0
    have Bq := Am Az
    clear A0 Az
    replace p383 := eq_true p383
    replace q383 := eq_true q383
    have ea_ := Option.some.inj (Ab.symm.trans Al)
    injection ea_ with ea_ en_ ec_
    subst ea_
    subst ec_
    clear en_
    go_wp2
    repeat (go_quiet (fail); try go_wp2)
    go_ret
    exact ⟨pX, pE HB.out Aw.out⟩
   rw [if_pos c31] at H
   have c31b0 : decide (a0_0 ≤ a0_6) = true := decide_eq_true c31
   clear c31
   by_cases c32 : a0_6 ≤ a0_5
   ·rw [if_pos c32] at H
    have c32b0 : decide (a0_6 ≤ a0_5) = true := decide_eq_true c32
    clear c32
    obtain rfl := Option.some.inj H
    obtain ⟨hcz33_0, hcz33_1, hcz33_2, hcz33_3, hcz33_4, hcz33_5, hcz33_6⟩ := bc7 Aa.out
    obtain ⟨hfz33_0, hfz33_1, hfz33_2, hfz33_3, hfz33_4, hfz33_5, hfz33_6⟩ := bf7 Aa.out
    have p382 : 0 ≤ (0 : Int) := (by omega)
    have q382 : 0 < (l0_2.length : Int) := of_decide_eq_true pS
    obtain ⟨A4, Ba, c382_5, e382, Ac, Ad, Ae, Af, Ag, Ab, Ah, Ai, Aj, Ak, Ax, Ay⟩ := at_T46 A1.out 0 p382 q382
    cases e382
    have qi382 : (0 < l0_2.length) = True := eq_true (by omega)
    (try rw [tz] at Ac)
    (try rw [show 0 * 10 = 0 from rfl] at Ac)
    (try rw [Addr.add_zero'] at Ac)
    (try rw [tz] at Ad)
    (try rw [show 0 * 10 = 0 from rfl] at Ad)
    (try rw [Addr.add_zero'] at Ad)
    (try rw [tz] at Ae)
    (try rw [show 0 * 10 = 0 from rfl] at Ae)
    (try rw [Addr.add_zero'] at Ae)
    (try rw [tz] at Af)
    (try rw [show 0 * 10 = 0 from rfl] at Af)
    (try rw [Addr.add_zero'] at Af)
    (try rw [tz] at Ag)
    (try rw [show 0 * 10 = 0 from rfl] at Ag)
    (try rw [Addr.add_zero'] at Ag)
    (try rw [tz] at Ab)
    (try rw [show 0 * 10 = 0 from rfl] at Ab)
    (try rw [Addr.add_zero'] at Ab)
    (try rw [tz] at Ah)
    (try rw [show 0 * 10 = 0 from rfl] at Ah)
    (try rw [Addr.add_zero'] at Ah)
    (try rw [tz] at Ai)
    (try rw [show 0 * 10 = 0 from rfl] at Ai)
    (try rw [Addr.add_zero'] at Ai)
    (try rw [tz] at Aj)
    (try rw [show 0 * 10 = 0 from rfl] at Aj)
    (try rw [Addr.add_zero'] at Aj)
    (try rw [tz] at Ak)
    (try rw [show 0 * 10 = 0 from rfl] at Ak)
    (try rw [Addr.add_zero'] at Ak)
    replace Ac := cU HB.out Ac
    replace Ad := cU HB.out Ad
    replace Ae := cU HB.out Ae
    replace Af := cU HB.out Af
    replace Ag := cU HB.out Ag
    replace Ab := cU HB.out Ab
    replace Ah := cU HB.out Ah
    replace Ai := cU HB.out Ai
    replace Aj := cU HB.out Aj
    replace Ak := cU HB.out Ak
    have A5 := Am Ay
    have A6 := Am Ax
    clear Ay Ax
    replace p382 := eq_true p382
    replace q382 := eq_true q382
    have p383 : 0 ≤ (0 : Int) := (by omega)
    have q383 : 0 < (l0_2.length : Int) := of_decide_eq_true pS
    obtain ⟨A7, Bs, c383_5, e383, An, Ao, Ap, Aq, Ar, Al, As, At, Au, Av, Az, A0⟩ := at_T46 A1.out 0 p383 q383
    obtain rfl : A4 = A7 := (by injection e383)
    have qi383 : (0 < l0_2.length) = True := eq_true (by omega)
    (try rw [tz] at An)
    (try rw [show 0 * 10 = 0 from rfl] at An)
    (try rw [Addr.add_zero'] at An)
    (try rw [tz] at Ao)
    (try rw [show 0 * 10 = 0 from rfl] at Ao)
    (try rw [Addr.add_zero'] at Ao)
    (try rw [tz] at Ap)
    (try rw [show 0 * 10 = 0 from rfl] at Ap)
    (try rw [Addr.add_zero'] at Ap)
    (try rw [tz] at Aq)
    (try rw [show 0 * 10 = 0 from rfl] at Aq)
    (try rw [Addr.add_zero'] at Aq)
    (try rw [tz] at Ar)
    (try rw [show 0 * 10 = 0 from rfl] at Ar)
    (try rw [Addr.add_zero'] at Ar)
    (try rw [tz] at Al)
    (try rw [show 0 * 10 = 0 from rfl] at Al)
    (try rw [Addr.add_zero'] at Al)
    (try rw [tz] at As)
    (try rw [show 0 * 10 = 0 from rfl] at As)
    (try rw [Addr.add_zero'] at As)
    (try rw [tz] at At)
    (try rw [show 0 * 10 = 0 from rfl] at At)
    (try rw [Addr.add_zero'] at At)
    (try rw [tz] at Au)
    (try rw [show 0 * 10 = 0 from rfl] at Au)
    (try rw [Addr.add_zero'] at Au)
    (try rw [tz] at Av)
    (try rw [show 0 * 10 = 0 from rfl] at Av)
    (try rw [Addr.add_zero'] at Av)
    replace An := cU HB.out An
    replace Ao := cU HB.out Ao
    replace Ap := cU HB.out Ap
    replace Aq := cU HB.out Aq
    replace Ar := cU HB.out Ar
    replace Al := cU HB.out Al
    replace As := cU HB.out As
    replace At := cU HB.out At
    replace Au := cU HB.out Au
    replace Av := cU HB.out Av
    have Bp := Am A0
    have Bq := Am Az
    clear A0 Az
    replace p383 := eq_true p383
    replace q383 := eq_true q383
    have ea_ := Option.some.inj (Ab.symm.trans Al)
    injection ea_ with ea_ en_ ec_
    subst ea_
    subst ec_
    clear en_
    go_wp2
    repeat (go_quiet (fail); try go_wp2)
    go_ret
    exact ⟨pX, pE HB.out Aw.out⟩
   rw [if_neg c32] at H
   have c32b0 : decide (a0_6 ≤ a0_5) = false := decide_eq_false c32
   clear c32
   obtain rfl := Option.some.inj H
   obtain ⟨hcz34_0, hcz34_1, hcz34_2, hcz34_3, hcz34_4, hcz34_5, hcz34_6⟩ := bc7 Aa.out
   obtain ⟨hfz34_0, hfz34_1, hfz34_2, hfz34_3, hfz34_4, hfz34_5, hfz34_6⟩ := bf7 Aa.out
   have p382 : 0 ≤ (0 : Int) := (by omega)
   have q382 : 0 < (l0_2.length : Int) := of_decide_eq_true pS
   obtain ⟨A4, Ba, c382_5, e382, Ac, Ad, Ae, Af, Ag, Ab, Ah, Ai, Aj, Ak, Ax, Ay⟩ := at_T46 A1.out 0 p382 q382
   cases e382
   have qi382 : (0 < l0_2.length) = True := eq_true (by omega)
   (try rw [tz] at Ac)
   (try rw [show 0 * 10 = 0 from rfl] at Ac)
   (try rw [Addr.add_zero'] at Ac)
   (try rw [tz] at Ad)
   (try rw [show 0 * 10 = 0 from rfl] at Ad)
   (try rw [Addr.add_zero'] at Ad)
   (try rw [tz] at Ae)
   (try rw [show 0 * 10 = 0 from rfl] at Ae)
   (try rw [Addr.add_zero'] at Ae)
   (try rw [tz] at Af)
   (try rw [show 0 * 10 = 0 from rfl] at Af)
   (try rw [Addr.add_zero'] at Af)
   (try rw [tz] at Ag)
   (try rw [show 0 * 10 = 0 from rfl] at Ag)
   (try rw [Addr.add_zero'] at Ag)
   (try rw [tz] at Ab)
   (try rw [show 0 * 10 = 0 from rfl] at Ab)
   (try rw [Addr.add_zero'] at Ab)
   (try rw [tz] at Ah)
   (try rw [show 0 * 10 = 0 from rfl] at Ah)
   (try rw [Addr.add_zero'] at Ah)
   (try rw [tz] at Ai)
   (try rw [show 0 * 10 = 0 from rfl] at Ai)
   (try rw [Addr.add_zero'] at Ai)
   (try rw [tz] at Aj)
   (try rw [show 0 * 10 = 0 from rfl] at Aj)
   (try rw [Addr.add_zero'] at Aj)
   (try rw [tz] at Ak)
   (try rw [show 0 * 10 = 0 from rfl] at Ak)
   (try rw [Addr.add_zero'] at Ak)
   replace Ac := cU HB.out Ac
   replace Ad := cU HB.out Ad
   replace Ae := cU HB.out Ae
   replace Af := cU HB.out Af
   replace Ag := cU HB.out Ag
   replace Ab := cU HB.out Ab
   replace Ah := cU HB.out Ah
   replace Ai := cU HB.out Ai
   replace Aj := cU HB.out Aj
   replace Ak := cU HB.out Ak
   have A5 := Am Ay
   have A6 := Am Ax
   clear Ay Ax
   replace p382 := eq_true p382
   replace q382 := eq_true q382
   have p383 : 0 ≤ (0 : Int) := (by omega)
   have q383 : 0 < (l0_2.length : Int) := of_decide_eq_true pS
   obtain ⟨A7, Bs, c383_5, e383, An, Ao, Ap, Aq, Ar, Al, As, At, Au, Av, Az, A0⟩ := at_T46 A1.out 0 p383 q383
   obtain rfl : A4 = A7 := (by injection e383)
   have qi383 : (0 < l0_2.length) = True := eq_true (by omega)
   (try rw [tz] at An)
   (try rw [show 0 * 10 = 0 from rfl] at An)
   (try rw [Addr.add_zero'] at An)
   (try rw [tz] at Ao)
   (try rw [show 0 * 10 = 0 from rfl] at Ao)
   (try rw [Addr.add_zero'] at Ao)
   (try rw [tz] at Ap)
   (try rw [show 0 * 10 = 0 from rfl] at Ap)
   (try rw [Addr.add_zero'] at Ap)
   (try rw [tz] at Aq)
   (try rw [show 0 * 10 = 0 from rfl] at Aq)
   (try rw [Addr.add_zero'] at Aq)
   (try rw [tz] at Ar)
   (try rw [show 0 * 10 = 0 from rfl] at Ar)
   (try rw [Addr.add_zero'] at Ar)
   (try rw [tz] at Al)
   (try rw [show 0 * 10 = 0 from rfl] at Al)
   (try rw [Addr.add_zero'] at Al)
   (try rw [tz] at As)
   (try rw [show 0 * 10 = 0 from rfl] at As)
   (try rw [Addr.add_zero'] at As)
   (try rw [tz] at At)
   (try rw [show 0 * 10 = 0 from rfl] at At)
   (try rw [Addr.add_zero'] at At)
   (try rw [tz] at Au)
   (try rw [show 0 * 10 = 0 from rfl] at Au)
   (try rw [Addr.add_zero'] at Au)
   (try rw [tz] at Av)
   (try rw [show 0 * 10 = 0 from rfl] at Av)
   (try rw [Addr.add_zero'] at Av)
   replace An := cU HB.out An
   replace Ao := cU HB.out Ao
   replace Ap := cU HB.out Ap
   replace Aq := cU HB.out Aq
   replace Ar := cU HB.out Ar
   replace Al := cU HB.out Al
   replace As := cU HB.out As
   replace At := cU HB.out At
   replace Au := cU HB.out Au
   replace Av := cU HB.out Av
   have Bp := Am A0
   have Bq := Am Az
   clear A0 Az
   replace p383 := eq_true p383
   replace q383 := eq_true q383
   have ea_ := Option.some.inj (Ab.symm.trans Al)
   injection ea_ with ea_ en_ ec_
   subst ea_
   subst ec_
   clear en_
   go_wp2
   repeat (go_quiet (fail); try go_wp2)
   go_ret
   exact ⟨pX, pE HB.out Aw.out⟩
end Go.Proofs.Ytinldhpdfomcjaa.PRaftMay
