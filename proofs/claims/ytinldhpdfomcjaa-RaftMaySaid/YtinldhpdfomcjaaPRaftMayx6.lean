/- What the law reaches, as plain Lean functions, and that the machine's calls answer just that. -/
import Derived.Test.YtinldhpdfomcjaaPRaftMayx0
import Derived.Test.YtinldhpdfomcjaaPRaftMayx5
namespace Go.Proofs.Ytinldhpdfomcjaa.PRaftMay
open Go.RowKit Go.Proofs.YtinldhpdfomcjaaW.PrintWords Go.Proofs.YtinldhpdfomcjaaW.PrintLast Go.Proofs.YtinldhpdfomcjaaW.PrintMore
attribute [local go_sem] max2_int min2_int max_two min_two max_three min_three max_four min_four
set_option linter.unusedVariables false
set_option linter.unusedSimpArgs false
attribute [local go_sem] wrap64_l1 wrap64_l2 wrap64_l3 wrap64_l4 wrap64_l5
def raft_Last.f (k : Nat) (a0_0 : Int) (a0_1 : Int) (l0_2 : List (S46)) (a0_3 : Int) (a0_4 : Int) (a0_5 : Int) (a0_6 : Int) : Option (Int × Int) := (raft_Check.f k a0_0 a0_1 l0_2 a0_3 a0_4 a0_5 a0_6).bind fun t127 => (if t127 = 0 then (if (l0_2.length : Int) > 0 then (if 0 ≤ (wrap64 ((l0_2.length : Int) - 1)) then (if (wrap64 ((l0_2.length : Int) - 1)) < (l0_2.length : Int) then (some ((rd_T46 l0_2 (wrap64 ((l0_2.length : Int) - 1))).f0, (rd_T46 l0_2 (wrap64 ((l0_2.length : Int) - 1))).f1)) else (none)) else (none)) else (some (a0_0, a0_1))) else (some (0, 0)))
theorem raft_Last.mono : ∀ a0 a1 a2 a3 a4 a5 a6 k, LeO (raft_Last.f k a0 a1 a2 a3 a4 a5 a6) (raft_Last.f (k + 1) a0 a1 a2 a3 a4 a5 a6) := by
 intro a0 a1 a2 a3 a4 a5 a6 k
 unfold raft_Last.f
 repeat' first
   | (with_reducible exact raft_Check.mono _ _ _ _ _ _ _ _)
   | (with_reducible exact LeO.refl _)
   | (with_reducible exact LeO.none _)
   | (with_reducible refine LeO.ite ?_ ?_)
   | (with_reducible refine LeO.bind ?_ (fun _ => ?_))
   | exact raft_Check.mono _ _ _ _ _ _ _ _
   | exact LeO.none _
   | refine LeO.ite ?_ ?_
   | refine LeO.bind ?_ (fun _ => ?_)
set_option maxHeartbeats 8000000 in
set_option maxRecDepth 100000 in
theorem raft_Last.calls (k : Nat) (a0_0 : Int) (a0_1 : Int) (A0_2 : Option Addr) (c0_2 : Nat) (l0_2 : List (S46)) (a0_3 : Int) (a0_4 : Int) (a0_5 : Int) (a0_6 : Int) (r1 : Int) (r2 : Int) (w : World) (hr0_2 : Kd.C k46 w A0_2 l0_2.length l0_2) (hc0_2 : l0_2.length ≤ c0_2) (h : raft_Last.f k a0_0 a0_1 l0_2 a0_3 a0_4 a0_5 a0_6 = some (r1, r2)) :
  Calls Try.prog 24 #[.agg #[.int .i64 a0_0, .int .i64 a0_1, .slice A0_2 l0_2.length c0_2, .int .i64 a0_3, .int .i64 a0_4, .int .i64 a0_5, .int .i64 a0_6]] w fun e w' => e = .returned (.tuple #[.int .i64 r1, .int .i64 r2]) ∧ Below w.heap.size w w' := by
 have hu26 := Try.underlying26
 have Ai := Am hr0_2
 have A7 := Am hc0_2
 clear hr0_2 hc0_2
 have HB := Am (Below.refl w.heap.size w)
 have H : ((raft_Check.f k a0_0 a0_1 l0_2 a0_3 a0_4 a0_5 a0_6).bind fun t127 => (if t127 = 0 then (if (l0_2.length : Int) > 0 then (if 0 ≤ (wrap64 ((l0_2.length : Int) - 1)) then (if (wrap64 ((l0_2.length : Int) - 1)) < (l0_2.length : Int) then (some ((rd_T46 l0_2 (wrap64 ((l0_2.length : Int) - 1))).f0, (rd_T46 l0_2 (wrap64 ((l0_2.length : Int) - 1))).f1)) else (none)) else (none)) else (some (a0_0, a0_1))) else (some (0, 0)))) = some (r1, r2) := h
 clear h
 replace H := Option.bind_eq_some_iff.mp H
 obtain ⟨t127, A20, H⟩ := H
 replace H : (if t127 = 0 then (if (l0_2.length : Int) > 0 then (if 0 ≤ (wrap64 ((l0_2.length : Int) - 1)) then (if (wrap64 ((l0_2.length : Int) - 1)) < (l0_2.length : Int) then (some ((rd_T46 l0_2 (wrap64 ((l0_2.length : Int) - 1))).f0, (rd_T46 l0_2 (wrap64 ((l0_2.length : Int) - 1))).f1)) else (none)) else (none)) else (some (a0_0, a0_1))) else (some (0, 0))) = some (r1, r2) := H
 have A2 := Am A20
 clear A20
 by_cases c3 : t127 = 0
 rotate_left
 ·rw [if_neg c3] at H
  have c3b0 : (t127 == 0) = false := beq_eq_false_iff_ne.mpr c3
  have c3b1 : (t127 != 0) = true := bne_iff_ne.mpr c3
  simp only [Option.some.injEq, Prod.mk.injEq] at H
  obtain ⟨rfl, rfl⟩ := H
  go_enter Try.func24, Try.ntmps24
  go_wp2_with (first | ((with_reducible refine gate_dst (N := 1) rfl ?_); refine box_event ?hg (N := 1) ?hd (cs := #[.int .i64 a0_0, .int .i64 a0_1, .slice A0_2 l0_2.length c0_2, .int .i64 a0_3, .int .i64 a0_4, .int .i64 a0_5, .int .i64 a0_6]) (t := 26) ?hr ?_; (case hd => rfl); (case hg => rfl); (case hr => first | (go_simp; done) | (go_simp; rfl)); intro Ae hg w16 hbox hb; have Aa := Am (hbox); have Af := Am ((by rw [hg]; exact (below_size (pB HB.out)) : w.heap.size ≤ Ae)); replace HB := Am (below_step (pB HB.out) hb); have Ab := Af; clear hb hbox hg; obtain ⟨Ck, Cl, Cm, Cn, Co, Cp, Cq⟩ := bc7 Aa.out; obtain ⟨Cr, Cs, Ct, Cu, Cv, Cw, Cx⟩ := bf7 Aa.out) | (go_at_call 25; (with_reducible refine (raft_Check.calls k a0_0 a0_1 _ _ l0_2 a0_3 a0_4 a0_5 a0_6 t127 _ ?Ag ?Ah A2.out).mono ?_); (case Ag => exact pC (Kd.C_below Ai.out HB.out)); (case Ah => exact A7.out); rintro e w18 ⟨rfl, hb⟩; replace Aa := kBa Aa hb; replace HB := Am (below_step (pE HB.out Ab.out) hb); (try clear hb); (try clear hb2); (try clear hk); (try clear hi)))
  repeat (go_quiet (first | ((with_reducible refine gate_dst (N := 1) rfl ?_); refine box_event ?hg (N := 1) ?hd (cs := #[.int .i64 a0_0, .int .i64 a0_1, .slice A0_2 l0_2.length c0_2, .int .i64 a0_3, .int .i64 a0_4, .int .i64 a0_5, .int .i64 a0_6]) (t := 26) ?hr ?_; (case hd => rfl); (case hg => rfl); (case hr => first | (go_simp; done) | (go_simp; rfl)); intro Ae hg w16 hbox hb; have Aa := Am (hbox); have Af := Am ((by rw [hg]; exact (below_size (pB HB.out)) : w.heap.size ≤ Ae)); replace HB := Am (below_step (pB HB.out) hb); have Ab := Af; clear hb hbox hg; obtain ⟨Ck, Cl, Cm, Cn, Co, Cp, Cq⟩ := bc7 Aa.out; obtain ⟨Cr, Cs, Ct, Cu, Cv, Cw, Cx⟩ := bf7 Aa.out) | (go_at_call 25; (with_reducible refine (raft_Check.calls k a0_0 a0_1 _ _ l0_2 a0_3 a0_4 a0_5 a0_6 t127 _ ?Ag ?Ah A2.out).mono ?_); (case Ag => exact pC (Kd.C_below Ai.out HB.out)); (case Ah => exact A7.out); rintro e w18 ⟨rfl, hb⟩; replace Aa := kBa Aa hb; replace HB := Am (below_step (pE HB.out Ab.out) hb); (try clear hb); (try clear hb2); (try clear hk); (try clear hi))); try go_wp2_with (first | ((with_reducible refine gate_dst (N := 1) rfl ?_); refine box_event ?hg (N := 1) ?hd (cs := #[.int .i64 a0_0, .int .i64 a0_1, .slice A0_2 l0_2.length c0_2, .int .i64 a0_3, .int .i64 a0_4, .int .i64 a0_5, .int .i64 a0_6]) (t := 26) ?hr ?_; (case hd => rfl); (case hg => rfl); (case hr => first | (go_simp; done) | (go_simp; rfl)); intro Ae hg w16 hbox hb; have Aa := Am (hbox); have Af := Am ((by rw [hg]; exact (below_size (pB HB.out)) : w.heap.size ≤ Ae)); replace HB := Am (below_step (pB HB.out) hb); have Ab := Af; clear hb hbox hg; obtain ⟨Ck, Cl, Cm, Cn, Co, Cp, Cq⟩ := bc7 Aa.out; obtain ⟨Cr, Cs, Ct, Cu, Cv, Cw, Cx⟩ := bf7 Aa.out) | (go_at_call 25; (with_reducible refine (raft_Check.calls k a0_0 a0_1 _ _ l0_2 a0_3 a0_4 a0_5 a0_6 t127 _ ?Ag ?Ah A2.out).mono ?_); (case Ag => exact pC (Kd.C_below Ai.out HB.out)); (case Ah => exact A7.out); rintro e w18 ⟨rfl, hb⟩; replace Aa := kBa Aa hb; replace HB := Am (below_step (pE HB.out Ab.out) hb); (try clear hb); (try clear hb2); (try clear hk); (try clear hi))))
  go_ret2
  exact ⟨pX, pE HB.out Ab.out⟩
 rw [if_pos c3] at H
 have c3b0 : (t127 == 0) = true := beq_iff_eq.mpr c3
 have c3b1 : (t127 != 0) = false := bne_eq_false_iff_eq.mpr c3
 clear c3
 by_cases c4 : (l0_2.length : Int) > 0
 rotate_left
 ·rw [if_neg c4] at H
  have c4b0 : decide (0 < (l0_2.length : Int)) = false := decide_eq_false c4
  have c4b1 : decide (0 < l0_2.length) = false := decide_eq_false (by omega)
  clear c4
  simp only [Option.some.injEq, Prod.mk.injEq] at H
  obtain ⟨rfl, rfl⟩ := H
  go_enter Try.func24, Try.ntmps24
  go_wp2_with (first | ((with_reducible refine gate_dst (N := 1) rfl ?_); refine box_event ?hg (N := 1) ?hd (cs := #[.int .i64 a0_0, .int .i64 a0_1, .slice A0_2 l0_2.length c0_2, .int .i64 a0_3, .int .i64 a0_4, .int .i64 a0_5, .int .i64 a0_6]) (t := 26) ?hr ?_; (case hd => rfl); (case hg => rfl); (case hr => first | (go_simp; done) | (go_simp; rfl)); intro Ae hg w12 hbox hb; have Aa := Am (hbox); have Af := Am ((by rw [hg]; exact (below_size (pB HB.out)) : w.heap.size ≤ Ae)); replace HB := Am (below_step (pB HB.out) hb); have Ab := Af; clear hb hbox hg; obtain ⟨Bs, Bt, Bu, Bv, Bw, Bx, By⟩ := bc7 Aa.out; obtain ⟨Bz, B0, B1, B2, B3, B4, B5⟩ := bf7 Aa.out) | (go_at_call 25; (with_reducible refine (raft_Check.calls k a0_0 a0_1 _ _ l0_2 a0_3 a0_4 a0_5 a0_6 t127 _ ?Ag ?Ah A2.out).mono ?_); (case Ag => exact pC (Kd.C_below Ai.out HB.out)); (case Ah => exact A7.out); rintro e w14 ⟨rfl, hb⟩; replace Aa := kBa Aa hb; replace HB := Am (below_step (pE HB.out Ab.out) hb); (try clear hb); (try clear hb2); (try clear hk); (try clear hi); obtain ⟨B6, B7, B8, B9, Ca, Cb, Cc⟩ := bc7 Aa.out; obtain ⟨Cd, Ce, Cf, Cg, Ch, Ci, Cj⟩ := bf7 Aa.out))
  repeat (go_quiet (first | ((with_reducible refine gate_dst (N := 1) rfl ?_); refine box_event ?hg (N := 1) ?hd (cs := #[.int .i64 a0_0, .int .i64 a0_1, .slice A0_2 l0_2.length c0_2, .int .i64 a0_3, .int .i64 a0_4, .int .i64 a0_5, .int .i64 a0_6]) (t := 26) ?hr ?_; (case hd => rfl); (case hg => rfl); (case hr => first | (go_simp; done) | (go_simp; rfl)); intro Ae hg w12 hbox hb; have Aa := Am (hbox); have Af := Am ((by rw [hg]; exact (below_size (pB HB.out)) : w.heap.size ≤ Ae)); replace HB := Am (below_step (pB HB.out) hb); have Ab := Af; clear hb hbox hg; obtain ⟨Bs, Bt, Bu, Bv, Bw, Bx, By⟩ := bc7 Aa.out; obtain ⟨Bz, B0, B1, B2, B3, B4, B5⟩ := bf7 Aa.out) | (go_at_call 25; (with_reducible refine (raft_Check.calls k a0_0 a0_1 _ _ l0_2 a0_3 a0_4 a0_5 a0_6 t127 _ ?Ag ?Ah A2.out).mono ?_); (case Ag => exact pC (Kd.C_below Ai.out HB.out)); (case Ah => exact A7.out); rintro e w14 ⟨rfl, hb⟩; replace Aa := kBa Aa hb; replace HB := Am (below_step (pE HB.out Ab.out) hb); (try clear hb); (try clear hb2); (try clear hk); (try clear hi); obtain ⟨B6, B7, B8, B9, Ca, Cb, Cc⟩ := bc7 Aa.out; obtain ⟨Cd, Ce, Cf, Cg, Ch, Ci, Cj⟩ := bf7 Aa.out)); try go_wp2_with (first | ((with_reducible refine gate_dst (N := 1) rfl ?_); refine box_event ?hg (N := 1) ?hd (cs := #[.int .i64 a0_0, .int .i64 a0_1, .slice A0_2 l0_2.length c0_2, .int .i64 a0_3, .int .i64 a0_4, .int .i64 a0_5, .int .i64 a0_6]) (t := 26) ?hr ?_; (case hd => rfl); (case hg => rfl); (case hr => first | (go_simp; done) | (go_simp; rfl)); intro Ae hg w12 hbox hb; have Aa := Am (hbox); have Af := Am ((by rw [hg]; exact (below_size (pB HB.out)) : w.heap.size ≤ Ae)); replace HB := Am (below_step (pB HB.out) hb); have Ab := Af; clear hb hbox hg; obtain ⟨Bs, Bt, Bu, Bv, Bw, Bx, By⟩ := bc7 Aa.out; obtain ⟨Bz, B0, B1, B2, B3, B4, B5⟩ := bf7 Aa.out) | (go_at_call 25; (with_reducible refine (raft_Check.calls k a0_0 a0_1 _ _ l0_2 a0_3 a0_4 a0_5 a0_6 t127 _ ?Ag ?Ah A2.out).mono ?_); (case Ag => exact pC (Kd.C_below Ai.out HB.out)); (case Ah => exact A7.out); rintro e w14 ⟨rfl, hb⟩; replace Aa := kBa Aa hb; replace HB := Am (below_step (pE HB.out Ab.out) hb); (try clear hb); (try clear hb2); (try clear hk); (try clear hi); obtain ⟨B6, B7, B8, B9, Ca, Cb, Cc⟩ := bc7 Aa.out; obtain ⟨Cd, Ce, Cf, Cg, Ch, Ci, Cj⟩ := bf7 Aa.out)))
  go_ret2
  exact ⟨pX, pE HB.out Ab.out⟩
 rw [if_pos c4] at H
 have c4b0 : decide (0 < (l0_2.length : Int)) = true := decide_eq_true c4
 have c4b1 : decide (0 < l0_2.length) = true := decide_eq_true (by omega)
 clear c4
 obtain ⟨ji5, hji5⟩ : ∃ j_ : Int, (wrap64 ((l0_2.length : Int) - 1)) = j_ := ⟨_, rfl⟩
 replace H : (if 0 ≤ (ji5) then (if (ji5) < (l0_2.length : Int) then (some ((rd_T46 l0_2 (ji5)).f0, (rd_T46 l0_2 (ji5)).f1)) else (none)) else (none)) = some (r1, r2) := by first | (rw [hji5] at H; exact H) | (simp only [hji5] at H ⊢; exact H)
 (try rw [hji5] at A2)
 have hji5w : (IntKind.i64.wrap ((l0_2.length : Int) - 1)) = ji5 := (i64_w _).trans hji5
 by_cases c6 : 0 ≤ (ji5)
 rotate_left
 ·rw [if_neg c6] at H
  exact absurd H (by simp)
 rw [if_pos c6] at H
 have c6b0 : decide (0 ≤ (ji5)) = true := decide_eq_true c6
 clear c6
 by_cases c7 : (ji5) < (l0_2.length : Int)
 rotate_left
 ·rw [if_neg c7] at H
  exact absurd H (by simp)
 rw [if_pos c7] at H
 have c7b0 : decide ((ji5) < (l0_2.length : Int)) = true := decide_eq_true c7
 clear c7
 simp only [Option.some.injEq, Prod.mk.injEq] at H
 obtain ⟨rfl, rfl⟩ := H
 go_enter Try.func24, Try.ntmps24
 go_wp2_with (first | ((with_reducible refine gate_dst (N := 1) rfl ?_); refine box_event ?hg (N := 1) ?hd (cs := #[.int .i64 a0_0, .int .i64 a0_1, .slice A0_2 l0_2.length c0_2, .int .i64 a0_3, .int .i64 a0_4, .int .i64 a0_5, .int .i64 a0_6]) (t := 26) ?hr ?_; (case hd => rfl); (case hg => rfl); (case hr => first | (go_simp; done) | (go_simp; rfl)); intro Ae hg w8 hbox hb; have Aa := Am (hbox); have Af := Am ((by rw [hg]; exact (below_size (pB HB.out)) : w.heap.size ≤ Ae)); replace HB := Am (below_step (pB HB.out) hb); have Ab := Af; clear hb hbox hg; obtain ⟨Cy, Cz, C0, C1, C2, C3, C4⟩ := bc7 Aa.out; obtain ⟨C5, C6, C7, C8, C9, Da, Db⟩ := bf7 Aa.out) | (go_at_call 25; (with_reducible refine (raft_Check.calls k a0_0 a0_1 _ _ l0_2 a0_3 a0_4 a0_5 a0_6 t127 _ ?Ag ?Ah A2.out).mono ?_); (case Ag => exact pC (Kd.C_below Ai.out HB.out)); (case Ah => exact A7.out); rintro e w10 ⟨rfl, hb⟩; replace Aa := kBa Aa hb; replace HB := Am (below_step (pE HB.out Ab.out) hb); (try clear hb); (try clear hb2); (try clear hk); (try clear hi); obtain ⟨Ba, Bb, Bc, Bd, Be, Bf, Bg⟩ := bc7 Aa.out; obtain ⟨Bh, Bi, Bj, Bk, Bl, Bm, Bn⟩ := bf7 Aa.out; have p128 : 0 ≤ ((ji5) : Int) := of_decide_eq_true pS; have q128 : (ji5) < (l0_2.length : Int) := of_decide_eq_true pS; obtain ⟨A8, Dc, c128_5, e128, Aj, Ak, Al, An, Ao, Ac, Ap, Aq, Ar, As, At, Au⟩ := at_T46 Ai.out (ji5) p128 q128; cases e128; replace Aj := cU HB.out Aj; replace Ak := cU HB.out Ak; replace Al := cU HB.out Al; replace An := cU HB.out An; replace Ao := cU HB.out Ao; replace Ac := cU HB.out Ac; replace Ap := cU HB.out Ap; replace Aq := cU HB.out Aq; replace Ar := cU HB.out Ar; replace As := cU HB.out As; have Bo := Am Au; have Bp := Am At; clear Au At; replace p128 := eq_true p128; replace q128 := eq_true q128; have p129 : 0 ≤ ((ji5) : Int) := of_decide_eq_true pS; have q129 : (ji5) < (l0_2.length : Int) := of_decide_eq_true pS; obtain ⟨A9, Dd, c129_5, e129, Av, Aw, Ax, Ay, Az, Ad, A0, A1, A3, A4, A5, A6⟩ := at_T46 Ai.out (ji5) p129 q129; obtain rfl : A8 = A9 := (by injection e129); replace Av := cU HB.out Av; replace Aw := cU HB.out Aw; replace Ax := cU HB.out Ax; replace Ay := cU HB.out Ay; replace Az := cU HB.out Az; replace Ad := cU HB.out Ad; replace A0 := cU HB.out A0; replace A1 := cU HB.out A1; replace A3 := cU HB.out A3; replace A4 := cU HB.out A4; have Bq := Am A6; have Br := Am A5; clear A6 A5; replace p129 := eq_true p129; replace q129 := eq_true q129; have ea_ := Option.some.inj (Ac.symm.trans Ad); injection ea_ with ea_ en_ ec_; subst ea_; subst ec_; clear en_))
 repeat (go_quiet (first | ((with_reducible refine gate_dst (N := 1) rfl ?_); refine box_event ?hg (N := 1) ?hd (cs := #[.int .i64 a0_0, .int .i64 a0_1, .slice A0_2 l0_2.length c0_2, .int .i64 a0_3, .int .i64 a0_4, .int .i64 a0_5, .int .i64 a0_6]) (t := 26) ?hr ?_; (case hd => rfl); (case hg => rfl); (case hr => first | (go_simp; done) | (go_simp; rfl)); intro Ae hg w8 hbox hb; have Aa := Am (hbox); have Af := Am ((by rw [hg]; exact (below_size (pB HB.out)) : w.heap.size ≤ Ae)); replace HB := Am (below_step (pB HB.out) hb); have Ab := Af; clear hb hbox hg; obtain ⟨Cy, Cz, C0, C1, C2, C3, C4⟩ := bc7 Aa.out; obtain ⟨C5, C6, C7, C8, C9, Da, Db⟩ := bf7 Aa.out) | (go_at_call 25; (with_reducible refine (raft_Check.calls k a0_0 a0_1 _ _ l0_2 a0_3 a0_4 a0_5 a0_6 t127 _ ?Ag ?Ah A2.out).mono ?_); (case Ag => exact pC (Kd.C_below Ai.out HB.out)); (case Ah => exact A7.out); rintro e w10 ⟨rfl, hb⟩; replace Aa := kBa Aa hb; replace HB := Am (below_step (pE HB.out Ab.out) hb); (try clear hb); (try clear hb2); (try clear hk); (try clear hi); obtain ⟨Ba, Bb, Bc, Bd, Be, Bf, Bg⟩ := bc7 Aa.out; obtain ⟨Bh, Bi, Bj, Bk, Bl, Bm, Bn⟩ := bf7 Aa.out; have p128 : 0 ≤ ((ji5) : Int) := of_decide_eq_true pS; have q128 : (ji5) < (l0_2.length : Int) := of_decide_eq_true pS; obtain ⟨A8, Dc, c128_5, e128, Aj, Ak, Al, An, Ao, Ac, Ap, Aq, Ar, As, At, Au⟩ := at_T46 Ai.out (ji5) p128 q128; cases e128; replace Aj := cU HB.out Aj; replace Ak := cU HB.out Ak; replace Al := cU HB.out Al; replace An := cU HB.out An; replace Ao := cU HB.out Ao; replace Ac := cU HB.out Ac; replace Ap := cU HB.out Ap; replace Aq := cU HB.out Aq; replace Ar := cU HB.out Ar; replace As := cU HB.out As; have Bo := Am Au; have Bp := Am At; clear Au At; replace p128 := eq_true p128; replace q128 := eq_true q128; have p129 : 0 ≤ ((ji5) : Int) := of_decide_eq_true pS; have q129 : (ji5) < (l0_2.length : Int) := of_decide_eq_true pS; obtain ⟨A9, Dd, c129_5, e129, Av, Aw, Ax, Ay, Az, Ad, A0, A1, A3, A4, A5, A6⟩ := at_T46 Ai.out (ji5) p129 q129; obtain rfl : A8 = A9 := (by injection e129); replace Av := cU HB.out Av; replace Aw := cU HB.out Aw; replace Ax := cU HB.out Ax; replace Ay := cU HB.out Ay; replace Az := cU HB.out Az; replace Ad := cU HB.out Ad; replace A0 := cU HB.out A0; replace A1 := cU HB.out A1; replace A3 := cU HB.out A3; replace A4 := cU HB.out A4; have Bq := Am A6; have Br := Am A5; clear A6 A5; replace p129 := eq_true p129; replace q129 := eq_true q129; have ea_ := Option.some.inj (Ac.symm.trans Ad); injection ea_ with ea_ en_ ec_; subst ea_; subst ec_; clear en_)); try go_wp2_with (first | ((with_reducible refine gate_dst (N := 1) rfl ?_); refine box_event ?hg (N := 1) ?hd (cs := #[.int .i64 a0_0, .int .i64 a0_1, .slice A0_2 l0_2.length c0_2, .int .i64 a0_3, .int .i64 a0_4, .int .i64 a0_5, .int .i64 a0_6]) (t := 26) ?hr ?_; (case hd => rfl); (case hg => rfl); (case hr => first | (go_simp; done) | (go_simp; rfl)); intro Ae hg w8 hbox hb; have Aa := Am (hbox); have Af := Am ((by rw [hg]; exact (below_size (pB HB.out)) : w.heap.size ≤ Ae)); replace HB := Am (below_step (pB HB.out) hb); have Ab := Af; clear hb hbox hg; obtain ⟨Cy, Cz, C0, C1, C2, C3, C4⟩ := bc7 Aa.out; obtain ⟨C5, C6, C7, C8, C9, Da, Db⟩ := bf7 Aa.out) | (go_at_call 25; (with_reducible refine (raft_Check.calls k a0_0 a0_1 _ _ l0_2 a0_3 a0_4 a0_5 a0_6 t127 _ ?Ag ?Ah A2.out).mono ?_); (case Ag => exact pC (Kd.C_below Ai.out HB.out)); (case Ah => exact A7.out); rintro e w10 ⟨rfl, hb⟩; replace Aa := kBa Aa hb; replace HB := Am (below_step (pE HB.out Ab.out) hb); (try clear hb); (try clear hb2); (try clear hk); (try clear hi); obtain ⟨Ba, Bb, Bc, Bd, Be, Bf, Bg⟩ := bc7 Aa.out; obtain ⟨Bh, Bi, Bj, Bk, Bl, Bm, Bn⟩ := bf7 Aa.out; have p128 : 0 ≤ ((ji5) : Int) := of_decide_eq_true pS; have q128 : (ji5) < (l0_2.length : Int) := of_decide_eq_true pS; obtain ⟨A8, Dc, c128_5, e128, Aj, Ak, Al, An, Ao, Ac, Ap, Aq, Ar, As, At, Au⟩ := at_T46 Ai.out (ji5) p128 q128; cases e128; replace Aj := cU HB.out Aj; replace Ak := cU HB.out Ak; replace Al := cU HB.out Al; replace An := cU HB.out An; replace Ao := cU HB.out Ao; replace Ac := cU HB.out Ac; replace Ap := cU HB.out Ap; replace Aq := cU HB.out Aq; replace Ar := cU HB.out Ar; replace As := cU HB.out As; have Bo := Am Au; have Bp := Am At; clear Au At; replace p128 := eq_true p128; replace q128 := eq_true q128; have p129 : 0 ≤ ((ji5) : Int) := of_decide_eq_true pS; have q129 : (ji5) < (l0_2.length : Int) := of_decide_eq_true pS; obtain ⟨A9, Dd, c129_5, e129, Av, Aw, Ax, Ay, Az, Ad, A0, A1, A3, A4, A5, A6⟩ := at_T46 Ai.out (ji5) p129 q129; obtain rfl : A8 = A9 := (by injection e129); replace Av := cU HB.out Av; replace Aw := cU HB.out Aw; replace Ax := cU HB.out Ax; replace Ay := cU HB.out Ay; replace Az := cU HB.out Az; replace Ad := cU HB.out Ad; replace A0 := cU HB.out A0; replace A1 := cU HB.out A1; replace A3 := cU HB.out A3; replace A4 := cU HB.out A4; have Bq := Am A6; have Br := Am A5; clear A6 A5; replace p129 := eq_true p129; replace q129 := eq_true q129; have ea_ := Option.some.inj (Ac.symm.trans Ad); injection ea_ with ea_ en_ ec_; subst ea_; subst ec_; clear en_)))
 go_ret2
 exact ⟨by first | rfl | (simp [errW_none, errW_some] <;> rfl) | (simp only [← hji5]; first | rfl | (simp [errW_none, errW_some] <;> rfl)) | (simp [*, errW_none, errW_some] <;> rfl), pE HB.out Ab.out⟩
def raft_Term.f (k : Nat) (a0_0 : Int) (a0_1 : Int) (l0_2 : List (S46)) (a0_3 : Int) (a0_4 : Int) (a0_5 : Int) (a0_6 : Int) (a1 : Int) : Option (Int × Int) := (raft_Last.f k a0_0 a0_1 l0_2 a0_3 a0_4 a0_5 a0_6).bind fun bt131 => ((raft_Check.f k a0_0 a0_1 l0_2 a0_3 a0_4 a0_5 a0_6).bind fun t133 => (if t133 = 0 then (if a1 < a0_0 then (some (0, 4)) else (if a1 > bt131.1 then (some (0, 3)) else (if a1 = a0_0 then (some (a0_1, 0)) else (if 0 ≤ (wrap64 ((wrap64 (a1 - a0_0)) - 1)) then (if (wrap64 ((wrap64 (a1 - a0_0)) - 1)) < (l0_2.length : Int) then (some ((rd_T46 l0_2 (wrap64 ((wrap64 (a1 - a0_0)) - 1))).f1, 0)) else (none)) else (none))))) else (some (0, 1))))
theorem raft_Term.mono : ∀ a0 a1 a2 a3 a4 a5 a6 a7 k, LeO (raft_Term.f k a0 a1 a2 a3 a4 a5 a6 a7) (raft_Term.f (k + 1) a0 a1 a2 a3 a4 a5 a6 a7) := by
 intro a0 a1 a2 a3 a4 a5 a6 a7 k
 unfold raft_Term.f
 repeat' first
   | (with_reducible exact raft_Check.mono _ _ _ _ _ _ _ _)
   | (with_reducible exact raft_Last.mono _ _ _ _ _ _ _ _)
   | (with_reducible exact LeO.refl _)
   | (with_reducible exact LeO.none _)
   | (with_reducible refine LeO.ite ?_ ?_)
   | (with_reducible refine LeO.bind ?_ (fun _ => ?_))
   | exact raft_Check.mono _ _ _ _ _ _ _ _
   | exact raft_Last.mono _ _ _ _ _ _ _ _
   | exact LeO.none _
   | refine LeO.ite ?_ ?_
   | refine LeO.bind ?_ (fun _ => ?_)
set_option maxHeartbeats 8000000 in
set_option maxRecDepth 100000 in
theorem raft_Term.calls (k : Nat) (a0_0 : Int) (a0_1 : Int) (A0_2 : Option Addr) (c0_2 : Nat) (l0_2 : List (S46)) (a0_3 : Int) (a0_4 : Int) (a0_5 : Int) (a0_6 : Int) (a1 : Int) (r1 : Int) (r2 : Int) (w : World) (hr0_2 : Kd.C k46 w A0_2 l0_2.length l0_2) (hc0_2 : l0_2.length ≤ c0_2) (h : raft_Term.f k a0_0 a0_1 l0_2 a0_3 a0_4 a0_5 a0_6 a1 = some (r1, r2)) :
  Calls Try.prog 27 #[.agg #[.int .i64 a0_0, .int .i64 a0_1, .slice A0_2 l0_2.length c0_2, .int .i64 a0_3, .int .i64 a0_4, .int .i64 a0_5, .int .i64 a0_6], .int .i64 a1] w fun e w' => e = .returned (.tuple #[.int .i64 r1, .int .i64 r2]) ∧ Below w.heap.size w w' := by
 have hu26 := Try.underlying26
 have Ae := Am hr0_2
 have Af := Am hc0_2
 clear hr0_2 hc0_2
 have HB := Am (Below.refl w.heap.size w)
 have H : ((raft_Last.f k a0_0 a0_1 l0_2 a0_3 a0_4 a0_5 a0_6).bind fun bt131 => ((raft_Check.f k a0_0 a0_1 l0_2 a0_3 a0_4 a0_5 a0_6).bind fun t133 => (if t133 = 0 then (if a1 < a0_0 then (some (0, 4)) else (if a1 > bt131.1 then (some (0, 3)) else (if a1 = a0_0 then (some (a0_1, 0)) else (if 0 ≤ (wrap64 ((wrap64 (a1 - a0_0)) - 1)) then (if (wrap64 ((wrap64 (a1 - a0_0)) - 1)) < (l0_2.length : Int) then (some ((rd_T46 l0_2 (wrap64 ((wrap64 (a1 - a0_0)) - 1))).f1, 0)) else (none)) else (none))))) else (some (0, 1))))) = some (r1, r2) := h
 clear h
 replace H := Option.bind_eq_some_iff.mp H
 obtain ⟨⟨t131, t132⟩, A30, H⟩ := H
 replace H : ((raft_Check.f k a0_0 a0_1 l0_2 a0_3 a0_4 a0_5 a0_6).bind fun t133 => (if t133 = 0 then (if a1 < a0_0 then (some (0, 4)) else (if a1 > t131 then (some (0, 3)) else (if a1 = a0_0 then (some (a0_1, 0)) else (if 0 ≤ (wrap64 ((wrap64 (a1 - a0_0)) - 1)) then (if (wrap64 ((wrap64 (a1 - a0_0)) - 1)) < (l0_2.length : Int) then (some ((rd_T46 l0_2 (wrap64 ((wrap64 (a1 - a0_0)) - 1))).f1, 0)) else (none)) else (none))))) else (some (0, 1)))) = some (r1, r2) := H
 have A3 := Am A30
 clear A30
 replace H := Option.bind_eq_some_iff.mp H
 obtain ⟨t133, A40, H⟩ := H
 replace H : (if t133 = 0 then (if a1 < a0_0 then (some (0, 4)) else (if a1 > t131 then (some (0, 3)) else (if a1 = a0_0 then (some (a0_1, 0)) else (if 0 ≤ (wrap64 ((wrap64 (a1 - a0_0)) - 1)) then (if (wrap64 ((wrap64 (a1 - a0_0)) - 1)) < (l0_2.length : Int) then (some ((rd_T46 l0_2 (wrap64 ((wrap64 (a1 - a0_0)) - 1))).f1, 0)) else (none)) else (none))))) else (some (0, 1))) = some (r1, r2) := H
 have A4 := Am A40
 clear A40
 by_cases c5 : t133 = 0
 rotate_left
 ·rw [if_neg c5] at H
  have c5b0 : (t133 == 0) = false := beq_eq_false_iff_ne.mpr c5
  have c5b1 : (t133 != 0) = true := bne_iff_ne.mpr c5
  simp only [Option.some.injEq, Prod.mk.injEq] at H
  obtain ⟨rfl, rfl⟩ := H
  go_enter Try.func27, Try.ntmps27
  go_wp2_with (first | ((with_reducible refine gate_dst (N := 2) rfl ?_); refine box_event ?hg (N := 2) ?hd (cs := #[.int .i64 a0_0, .int .i64 a0_1, .slice A0_2 l0_2.length c0_2, .int .i64 a0_3, .int .i64 a0_4, .int .i64 a0_5, .int .i64 a0_6]) (t := 26) ?hr ?_; (case hd => rfl); (case hg => rfl); (case hr => first | (go_simp; done) | (go_simp; rfl)); intro Ag hg w36 hbox hb; have Aa := Am (hbox); have Ah := Am ((by rw [hg]; exact (below_size (pB HB.out)) : w.heap.size ≤ Ag)); replace HB := Am (below_step (pB HB.out) hb); have Ab := Ah; clear hb hbox hg; obtain ⟨hcz37_0, hcz37_1, hcz37_2, hcz37_3, hcz37_4, hcz37_5, hcz37_6⟩ := bc7 Aa.out; obtain ⟨hfz37_0, hfz37_1, hfz37_2, hfz37_3, hfz37_4, hfz37_5, hfz37_6⟩ := bf7 Aa.out) | ((with_reducible refine gate_callee (f := 24) rfl ?_); refine goesL_ (some 10) rfl rfl Try.func24 (by kernel_rfl) rfl #[.agg #[.int .i64 a0_0, .int .i64 a0_1, .slice A0_2 l0_2.length c0_2, .int .i64 a0_3, .int .i64 a0_4, .int .i64 a0_5, .int .i64 a0_6]] rfl pL ?_; (with_reducible refine (raft_Last.calls k a0_0 a0_1 _ _ l0_2 a0_3 a0_4 a0_5 a0_6 t131 t132 _ ?Ac ?Ad A3.out).mono ?_); (case Ac => exact pC (Kd.C_below Ae.out HB.out)); (case Ad => exact Af.out); rintro e w38 ⟨rfl, hb⟩; refine ⟨_, rfl, ?_⟩; replace Aa := kBa Aa hb; replace HB := Am (below_step (pE HB.out Ab.out) hb); (try clear hb); (try clear hb2); (try clear hk); (try clear hi); obtain ⟨hcz39_0, hcz39_1, hcz39_2, hcz39_3, hcz39_4, hcz39_5, hcz39_6⟩ := bc7 Aa.out; obtain ⟨hfz39_0, hfz39_1, hfz39_2, hfz39_3, hfz39_4, hfz39_5, hfz39_6⟩ := bf7 Aa.out) | ((with_reducible refine gate_callee (f := 25) rfl ?_); refine goesL_ (some 15) rfl rfl Try.func25 (by kernel_rfl) rfl #[.agg #[.int .i64 a0_0, .int .i64 a0_1, .slice A0_2 l0_2.length c0_2, .int .i64 a0_3, .int .i64 a0_4, .int .i64 a0_5, .int .i64 a0_6]] rfl pL ?_; (with_reducible refine (raft_Check.calls k a0_0 a0_1 _ _ l0_2 a0_3 a0_4 a0_5 a0_6 t133 _ ?Ac ?Ad A4.out).mono ?_); (case Ac => exact pC (Kd.C_below Ae.out HB.out)); (case Ad => exact Af.out); rintro e w40 ⟨rfl, hb⟩; refine ⟨_, rfl, ?_⟩; replace Aa := kBa Aa hb; replace HB := Am (below_step (pE HB.out Ab.out) hb); (try clear hb); (try clear hb2); (try clear hk); (try clear hi)))
  go_ret2
  exact ⟨pX, pE HB.out Ab.out⟩
 rw [if_pos c5] at H
 have c5b0 : (t133 == 0) = true := beq_iff_eq.mpr c5
 have c5b1 : (t133 != 0) = false := bne_eq_false_iff_eq.mpr c5
 clear c5
 by_cases c6 : a1 < a0_0
 ·rw [if_pos c6] at H
  have c6b0 : decide (a1 < a0_0) = true := decide_eq_true c6
  clear c6
  simp only [Option.some.injEq, Prod.mk.injEq] at H
  obtain ⟨rfl, rfl⟩ := H
  go_enter Try.func27, Try.ntmps27
  go_wp2_with (first | ((with_reducible refine gate_dst (N := 2) rfl ?_); refine box_event ?hg (N := 2) ?hd (cs := #[.int .i64 a0_0, .int .i64 a0_1, .slice A0_2 l0_2.length c0_2, .int .i64 a0_3, .int .i64 a0_4, .int .i64 a0_5, .int .i64 a0_6]) (t := 26) ?hr ?_; (case hd => rfl); (case hg => rfl); (case hr => first | (go_simp; done) | (go_simp; rfl)); intro Ag hg w7 hbox hb; have Aa := Am (hbox); have Ah := Am ((by rw [hg]; exact (below_size (pB HB.out)) : w.heap.size ≤ Ag)); replace HB := Am (below_step (pB HB.out) hb); have Ab := Ah; clear hb hbox hg; obtain ⟨hcz8_0, hcz8_1, hcz8_2, hcz8_3, hcz8_4, hcz8_5, hcz8_6⟩ := bc7 Aa.out; obtain ⟨hfz8_0, hfz8_1, hfz8_2, hfz8_3, hfz8_4, hfz8_5, hfz8_6⟩ := bf7 Aa.out) | ((with_reducible refine gate_callee (f := 24) rfl ?_); refine goesL_ (some 10) rfl rfl Try.func24 (by kernel_rfl) rfl #[.agg #[.int .i64 a0_0, .int .i64 a0_1, .slice A0_2 l0_2.length c0_2, .int .i64 a0_3, .int .i64 a0_4, .int .i64 a0_5, .int .i64 a0_6]] rfl pL ?_; (with_reducible refine (raft_Last.calls k a0_0 a0_1 _ _ l0_2 a0_3 a0_4 a0_5 a0_6 t131 t132 _ ?Ac ?Ad A3.out).mono ?_); (case Ac => exact pC (Kd.C_below Ae.out HB.out)); (case Ad => exact Af.out); rintro e w9 ⟨rfl, hb⟩; refine ⟨_, rfl, ?_⟩; replace Aa := kBa Aa hb; replace HB := Am (below_step (pE HB.out Ab.out) hb); (try clear hb); (try clear hb2); (try clear hk); (try clear hi); obtain ⟨hcz10_0, hcz10_1, hcz10_2, hcz10_3, hcz10_4, hcz10_5, hcz10_6⟩ := bc7 Aa.out; obtain ⟨hfz10_0, hfz10_1, hfz10_2, hfz10_3, hfz10_4, hfz10_5, hfz10_6⟩ := bf7 Aa.out) | ((with_reducible refine gate_callee (f := 25) rfl ?_); refine goesL_ (some 15) rfl rfl Try.func25 (by kernel_rfl) rfl #[.agg #[.int .i64 a0_0, .int .i64 a0_1, .slice A0_2 l0_2.length c0_2, .int .i64 a0_3, .int .i64 a0_4, .int .i64 a0_5, .int .i64 a0_6]] rfl pL ?_; (with_reducible refine (raft_Check.calls k a0_0 a0_1 _ _ l0_2 a0_3 a0_4 a0_5 a0_6 t133 _ ?Ac ?Ad A4.out).mono ?_); (case Ac => exact pC (Kd.C_below Ae.out HB.out)); (case Ad => exact Af.out); rintro e w11 ⟨rfl, hb⟩; refine ⟨_, rfl, ?_⟩; replace Aa := kBa Aa hb; replace HB := Am (below_step (pE HB.out Ab.out) hb); (try clear hb); (try clear hb2); (try clear hk); (try clear hi); obtain ⟨hcz12_0, hcz12_1, hcz12_2, hcz12_3, hcz12_4, hcz12_5, hcz12_6⟩ := bc7 Aa.out; obtain ⟨hfz12_0, hfz12_1, hfz12_2, hfz12_3, hfz12_4, hfz12_5, hfz12_6⟩ := bf7 Aa.out))
  go_ret2
  exact ⟨pX, pE HB.out Ab.out⟩
 rw [if_neg c6] at H
 have c6b0 : decide (a1 < a0_0) = false := decide_eq_false c6
 clear c6
 by_cases c13 : a1 > t131
 ·rw [if_pos c13] at H
  have c13b0 : decide (t131 < a1) = true := decide_eq_true c13
  clear c13
  simp only [Option.some.injEq, Prod.mk.injEq] at H
  obtain ⟨rfl, rfl⟩ := H
  go_enter Try.func27, Try.ntmps27
  go_wp2_with (first | ((with_reducible refine gate_dst (N := 2) rfl ?_); refine box_event ?hg (N := 2) ?hd (cs := #[.int .i64 a0_0, .int .i64 a0_1, .slice A0_2 l0_2.length c0_2, .int .i64 a0_3, .int .i64 a0_4, .int .i64 a0_5, .int .i64 a0_6]) (t := 26) ?hr ?_; (case hd => rfl); (case hg => rfl); (case hr => first | (go_simp; done) | (go_simp; rfl)); intro Ag hg w14 hbox hb; have Aa := Am (hbox); have Ah := Am ((by rw [hg]; exact (below_size (pB HB.out)) : w.heap.size ≤ Ag)); replace HB := Am (below_step (pB HB.out) hb); have Ab := Ah; clear hb hbox hg; obtain ⟨hcz15_0, hcz15_1, hcz15_2, hcz15_3, hcz15_4, hcz15_5, hcz15_6⟩ := bc7 Aa.out; obtain ⟨hfz15_0, hfz15_1, hfz15_2, hfz15_3, hfz15_4, hfz15_5, hfz15_6⟩ := bf7 Aa.out) | ((with_reducible refine gate_callee (f := 24) rfl ?_); refine goesL_ (some 10) rfl rfl Try.func24 (by kernel_rfl) rfl #[.agg #[.int .i64 a0_0, .int .i64 a0_1, .slice A0_2 l0_2.length c0_2, .int .i64 a0_3, .int .i64 a0_4, .int .i64 a0_5, .int .i64 a0_6]] rfl pL ?_; (with_reducible refine (raft_Last.calls k a0_0 a0_1 _ _ l0_2 a0_3 a0_4 a0_5 a0_6 t131 t132 _ ?Ac ?Ad A3.out).mono ?_); (case Ac => exact pC (Kd.C_below Ae.out HB.out)); (case Ad => exact Af.out); rintro e w16 ⟨rfl, hb⟩; refine ⟨_, rfl, ?_⟩; replace Aa := kBa Aa hb; replace HB := Am (below_step (pE HB.out Ab.out) hb); (try clear hb); (try clear hb2); (try clear hk); (try clear hi); obtain ⟨hcz17_0, hcz17_1, hcz17_2, hcz17_3, hcz17_4, hcz17_5, hcz17_6⟩ := bc7 Aa.out; obtain ⟨hfz17_0, hfz17_1, hfz17_2, hfz17_3, hfz17_4, hfz17_5, hfz17_6⟩ := bf7 Aa.out) | ((with_reducible refine gate_callee (f := 25) rfl ?_); refine goesL_ (some 15) rfl rfl Try.func25 (by kernel_rfl) rfl #[.agg #[.int .i64 a0_0, .int .i64 a0_1, .slice A0_2 l0_2.length c0_2, .int .i64 a0_3, .int .i64 a0_4, .int .i64 a0_5, .int .i64 a0_6]] rfl pL ?_; (with_reducible refine (raft_Check.calls k a0_0 a0_1 _ _ l0_2 a0_3 a0_4 a0_5 a0_6 t133 _ ?Ac ?Ad A4.out).mono ?_); (case Ac => exact pC (Kd.C_below Ae.out HB.out)); (case Ad => exact Af.out); rintro e w18 ⟨rfl, hb⟩; refine ⟨_, rfl, ?_⟩; replace Aa := kBa Aa hb; replace HB := Am (below_step (pE HB.out Ab.out) hb); (try clear hb); (try clear hb2); (try clear hk); (try clear hi); obtain ⟨hcz19_0, hcz19_1, hcz19_2, hcz19_3, hcz19_4, hcz19_5, hcz19_6⟩ := bc7 Aa.out; obtain ⟨hfz19_0, hfz19_1, hfz19_2, hfz19_3, hfz19_4, hfz19_5, hfz19_6⟩ := bf7 Aa.out))
  go_ret2
  exact ⟨pX, pE HB.out Ab.out⟩
 rw [if_neg c13] at H
 have c13b0 : decide (t131 < a1) = false := decide_eq_false c13
 clear c13
 by_cases c20 : a1 = a0_0
 ·rw [if_pos c20] at H
  have c20b0 : (a1 == a0_0) = true := beq_iff_eq.mpr c20
  have c20b1 : (a1 != a0_0) = false := bne_eq_false_iff_eq.mpr c20
  clear c20
  simp only [Option.some.injEq, Prod.mk.injEq] at H
  obtain ⟨rfl, rfl⟩ := H
  go_enter Try.func27, Try.ntmps27
  go_wp2_with (first | ((with_reducible refine gate_dst (N := 2) rfl ?_); refine box_event ?hg (N := 2) ?hd (cs := #[.int .i64 a0_0, .int .i64 a0_1, .slice A0_2 l0_2.length c0_2, .int .i64 a0_3, .int .i64 a0_4, .int .i64 a0_5, .int .i64 a0_6]) (t := 26) ?hr ?_; (case hd => rfl); (case hg => rfl); (case hr => first | (go_simp; done) | (go_simp; rfl)); intro Ag hg w21 hbox hb; have Aa := Am (hbox); have Ah := Am ((by rw [hg]; exact (below_size (pB HB.out)) : w.heap.size ≤ Ag)); replace HB := Am (below_step (pB HB.out) hb); have Ab := Ah; clear hb hbox hg; obtain ⟨hcz22_0, hcz22_1, hcz22_2, hcz22_3, hcz22_4, hcz22_5, hcz22_6⟩ := bc7 Aa.out; obtain ⟨hfz22_0, hfz22_1, hfz22_2, hfz22_3, hfz22_4, hfz22_5, hfz22_6⟩ := bf7 Aa.out) | ((with_reducible refine gate_callee (f := 24) rfl ?_); refine goesL_ (some 10) rfl rfl Try.func24 (by kernel_rfl) rfl #[.agg #[.int .i64 a0_0, .int .i64 a0_1, .slice A0_2 l0_2.length c0_2, .int .i64 a0_3, .int .i64 a0_4, .int .i64 a0_5, .int .i64 a0_6]] rfl pL ?_; (with_reducible refine (raft_Last.calls k a0_0 a0_1 _ _ l0_2 a0_3 a0_4 a0_5 a0_6 t131 t132 _ ?Ac ?Ad A3.out).mono ?_); (case Ac => exact pC (Kd.C_below Ae.out HB.out)); (case Ad => exact Af.out); rintro e w23 ⟨rfl, hb⟩; refine ⟨_, rfl, ?_⟩; replace Aa := kBa Aa hb; replace HB := Am (below_step (pE HB.out Ab.out) hb); (try clear hb); (try clear hb2); (try clear hk); (try clear hi); obtain ⟨hcz24_0, hcz24_1, hcz24_2, hcz24_3, hcz24_4, hcz24_5, hcz24_6⟩ := bc7 Aa.out; obtain ⟨hfz24_0, hfz24_1, hfz24_2, hfz24_3, hfz24_4, hfz24_5, hfz24_6⟩ := bf7 Aa.out) | ((with_reducible refine gate_callee (f := 25) rfl ?_); refine goesL_ (some 15) rfl rfl Try.func25 (by kernel_rfl) rfl #[.agg #[.int .i64 a0_0, .int .i64 a0_1, .slice A0_2 l0_2.length c0_2, .int .i64 a0_3, .int .i64 a0_4, .int .i64 a0_5, .int .i64 a0_6]] rfl pL ?_; (with_reducible refine (raft_Check.calls k a0_0 a0_1 _ _ l0_2 a0_3 a0_4 a0_5 a0_6 t133 _ ?Ac ?Ad A4.out).mono ?_); (case Ac => exact pC (Kd.C_below Ae.out HB.out)); (case Ad => exact Af.out); rintro e w25 ⟨rfl, hb⟩; refine ⟨_, rfl, ?_⟩; replace Aa := kBa Aa hb; replace HB := Am (below_step (pE HB.out Ab.out) hb); (try clear hb); (try clear hb2); (try clear hk); (try clear hi); obtain ⟨hcz26_0, hcz26_1, hcz26_2, hcz26_3, hcz26_4, hcz26_5, hcz26_6⟩ := bc7 Aa.out; obtain ⟨hfz26_0, hfz26_1, hfz26_2, hfz26_3, hfz26_4, hfz26_5, hfz26_6⟩ := bf7 Aa.out))
  go_ret2
  exact ⟨pX, pE HB.out Ab.out⟩
 rw [if_neg c20] at H
 have c20b0 : (a1 == a0_0) = false := beq_eq_false_iff_ne.mpr c20
 have c20b1 : (a1 != a0_0) = true := bne_iff_ne.mpr c20
 obtain ⟨ji27, hji27⟩ : ∃ j_ : Int, (wrap64 ((wrap64 (a1 - a0_0)) - 1)) = j_ := ⟨_, rfl⟩
 replace H : (if 0 ≤ (ji27) then (if (ji27) < (l0_2.length : Int) then (some ((rd_T46 l0_2 (ji27)).f1, 0)) else (none)) else (none)) = some (r1, r2) := by first | (rw [hji27] at H; exact H) | (simp only [hji27] at H ⊢; exact H)
 (try rw [hji27] at A3)
 (try rw [hji27] at A4)
 have hji27w : (IntKind.i64.wrap ((wrap64 (a1 - a0_0)) - 1)) = ji27 := (i64_w _).trans hji27
 by_cases c28 : 0 ≤ (ji27)
 rotate_left
 ·rw [if_neg c28] at H
  exact absurd H (by simp)
 rw [if_pos c28] at H
 have c28b0 : decide (0 ≤ (ji27)) = true := decide_eq_true c28
 clear c28
 by_cases c29 : (ji27) < (l0_2.length : Int)
 rotate_left
 ·rw [if_neg c29] at H
  exact absurd H (by simp)
 rw [if_pos c29] at H
 have c29b0 : decide ((ji27) < (l0_2.length : Int)) = true := decide_eq_true c29
 clear c29
 simp only [Option.some.injEq, Prod.mk.injEq] at H
 obtain ⟨rfl, rfl⟩ := H
 go_enter Try.func27, Try.ntmps27
 go_wp2_with (first | ((with_reducible refine gate_dst (N := 2) rfl ?_); refine box_event ?hg (N := 2) ?hd (cs := #[.int .i64 a0_0, .int .i64 a0_1, .slice A0_2 l0_2.length c0_2, .int .i64 a0_3, .int .i64 a0_4, .int .i64 a0_5, .int .i64 a0_6]) (t := 26) ?hr ?_; (case hd => rfl); (case hg => rfl); (case hr => first | (go_simp; done) | (go_simp; rfl)); intro Ag hg w30 hbox hb; have Aa := Am (hbox); have Ah := Am ((by rw [hg]; exact (below_size (pB HB.out)) : w.heap.size ≤ Ag)); replace HB := Am (below_step (pB HB.out) hb); have Ab := Ah; clear hb hbox hg; obtain ⟨hcz31_0, hcz31_1, hcz31_2, hcz31_3, hcz31_4, hcz31_5, hcz31_6⟩ := bc7 Aa.out; obtain ⟨hfz31_0, hfz31_1, hfz31_2, hfz31_3, hfz31_4, hfz31_5, hfz31_6⟩ := bf7 Aa.out) | ((with_reducible refine gate_callee (f := 24) rfl ?_); refine goesL_ (some 10) rfl rfl Try.func24 (by kernel_rfl) rfl #[.agg #[.int .i64 a0_0, .int .i64 a0_1, .slice A0_2 l0_2.length c0_2, .int .i64 a0_3, .int .i64 a0_4, .int .i64 a0_5, .int .i64 a0_6]] rfl pL ?_; (with_reducible refine (raft_Last.calls k a0_0 a0_1 _ _ l0_2 a0_3 a0_4 a0_5 a0_6 t131 t132 _ ?Ac ?Ad A3.out).mono ?_); (case Ac => exact pC (Kd.C_below Ae.out HB.out)); (case Ad => exact Af.out); rintro e w32 ⟨rfl, hb⟩; refine ⟨_, rfl, ?_⟩; replace Aa := kBa Aa hb; replace HB := Am (below_step (pE HB.out Ab.out) hb); (try clear hb); (try clear hb2); (try clear hk); (try clear hi); obtain ⟨hcz33_0, hcz33_1, hcz33_2, hcz33_3, hcz33_4, hcz33_5, hcz33_6⟩ := bc7 Aa.out; obtain ⟨hfz33_0, hfz33_1, hfz33_2, hfz33_3, hfz33_4, hfz33_5, hfz33_6⟩ := bf7 Aa.out) | ((with_reducible refine gate_callee (f := 25) rfl ?_); refine goesL_ (some 15) rfl rfl Try.func25 (by kernel_rfl) rfl #[.agg #[.int .i64 a0_0, .int .i64 a0_1, .slice A0_2 l0_2.length c0_2, .int .i64 a0_3, .int .i64 a0_4, .int .i64 a0_5, .int .i64 a0_6]] rfl pL ?_; (with_reducible refine (raft_Check.calls k a0_0 a0_1 _ _ l0_2 a0_3 a0_4 a0_5 a0_6 t133 _ ?Ac ?Ad A4.out).mono ?_); (case Ac => exact pC (Kd.C_below Ae.out HB.out)); (case Ad => exact Af.out); rintro e w34 ⟨rfl, hb⟩; refine ⟨_, rfl, ?_⟩; replace Aa := kBa Aa hb; replace HB := Am (below_step (pE HB.out Ab.out) hb); (try clear hb); (try clear hb2); (try clear hk); (try clear hi); obtain ⟨hcz35_0, hcz35_1, hcz35_2, hcz35_3, hcz35_4, hcz35_5, hcz35_6⟩ := bc7 Aa.out; obtain ⟨hfz35_0, hfz35_1, hfz35_2, hfz35_3, hfz35_4, hfz35_5, hfz35_6⟩ := bf7 Aa.out; have p134 : 0 ≤ ((ji27) : Int) := of_decide_eq_true pS; have q134 : (ji27) < (l0_2.length : Int) := of_decide_eq_true pS; obtain ⟨ad134, A134_5, c134_5, e134, Ai, Aj, Ak, Al, An, Ao, Ap, Aq, Ar, As, At, Au⟩ := at_T46 Ae.out (ji27) p134 q134; cases e134; replace Ai := cU HB.out Ai; replace Aj := cU HB.out Aj; replace Ak := cU HB.out Ak; replace Al := cU HB.out Al; replace An := cU HB.out An; replace Ao := cU HB.out Ao; replace Ap := cU HB.out Ap; replace Aq := cU HB.out Aq; replace Ar := cU HB.out Ar; replace As := cU HB.out As; have HR134_5 := Am Au; have HC134_5 := Am At; clear Au At; replace p134 := eq_true p134; replace q134 := eq_true q134))
 go_ret2
 exact ⟨by first | rfl | (simp [errW_none, errW_some] <;> rfl) | (simp only [← hji27]; first | rfl | (simp [errW_none, errW_some] <;> rfl)) | (simp [*, errW_none, errW_some] <;> rfl), pE HB.out Ab.out⟩
def slices_Clone_byte_byte.f (l0 : List Int) : Option (List Int) := if l0.length < 140737488355328 then some l0 else none
set_option maxHeartbeats 4000000 in
set_option maxRecDepth 100000 in
theorem slices_Clone_byte_byte.calls (A0 : Option Addr) (c0 : Nat) (l0 : List Int) (r : List Int) (w : World) (hr0 : Kd.C (Kd.int .u8) w A0 l0.length l0) (hc0 : l0.length ≤ c0) (h : slices_Clone_byte_byte.f l0 = some r) :
  Calls Try.prog 41 #[.slice A0 l0.length c0] w fun e w' => ∃ v0_ : Value, e = .returned (v0_) ∧ Kd.R (Kd.int .u8) 5 w' w.heap.size (fun _ => True) v0_ r ∧ Below w.heap.size w w' := by
 unfold slices_Clone_byte_byte.f at h
 by_cases hl : l0.length < 140737488355328
 rotate_left
 ·rw [if_neg hl] at h
  cases h
 rw [if_pos hl] at h
 obtain rfl := Option.some.inj h
 have HR0 := Am hr0
 have HC0 := Am hc0
 have LM := Am hl
 clear hr0 hc0 hl h
 have HB := Am (Below.refl w.heap.size w)
 have heq := fun (W : World) (a : Option Addr) (n c : Nat) => Lib.run_eql_slice_nil (P := Try.prog) W 39 5 a n c 0 0 Try.underlying39
 cases A0 with
 | none =>
  have e0 : l0 = [] := by
   cases l0 with
   | nil => rfl
   | cons x y =>
    obtain ⟨ad, had, _⟩ := HR0.out.2.2 (by simp)
    cases had
  subst e0
  go_enter Try.func41, Try.ntmps41
  go_wp2
  go_ret
  exact ⟨_, rfl, Kd.R_nil _ _ _ _ _, HB.out⟩
 | some ad =>
  go_enter Try.func41, Try.ntmps41
  go_wp2_with (first | ((with_reducible refine gate_dst (N := 5) rfl ?_); refine Kd.R_lit (Kd.int .u8) _ 5 ?hg (N := 5) ?hd (xs := ([] : List Int)) (inner := []) (ok := fun _ => True) (okp := fun _ => True) ?hr ?hp (fun _ hk => hk) trivial (Below.refl _ _) (Nat.le_refl _) (by simp) ?_; (case hd => rfl); (case hg => rfl); (case hr => first | (go_simp; done) | (go_simp; rfl)); (case hp => exact (Reps.none _ _)); intro v182 w12 ho13 hb hg_ hnew_; clear hg_ hnew_; have Aa := Am (Kd.R_lower ho13 (below_size (by repeat (first | (with_reducible first | exact HB.out | apply below_alloc | apply pw_below_drewN | apply below_drew1) | exact HB.out)))); replace HB := Am (below_step (by repeat (first | (with_reducible first | exact HB.out | apply below_alloc | apply pw_below_drewN | apply below_drew1) | exact HB.out)) hb); clear hb ho13) | ((with_reducible refine gate_builtin (b := .append) (xs := #[.tmp 5, .tmp 6]) rfl ?_); at_builtin; refine Kd.R_append_rows (Kd.int .u8) (w0 := w) w.heap.size rfl (.tmp 5) (.tmp 6) 39 5 (.int .u8 0) 1 rfl Try.underlying39 info5 rfl (by decide) (by omega) v182 [] l0 _ _ _ (fun _ => True) (fun _ => False) rfl rfl ?aO ?aR (fun _ _ h => h) (fun _ h => h.elim) ?aF ?aB ?aS ?aL ?_; (case aR => repeat (first | exact (Kd.C_below HR0.out HB.out) | (with_reducible refine Kd.C_alloc ?_ _) | (with_reducible refine Kd.C_drewN ?_ _) | (with_reducible refine Kd.C_drew ?_))); (case aB => exact (by repeat (first | (with_reducible first | exact HB.out | apply below_alloc | apply pw_below_drewN | apply below_drew1) | exact HB.out))); (case aF => exact (fun _ _ => trivial)); (case aO => exact (by (with_reducible repeat (first | apply Kd.R_alloc | apply Kd.R_drewN | apply Kd.R_drew)); exact Aa.out)); (case aS => exact (below_size (by repeat (first | (with_reducible first | exact HB.out | apply below_alloc | apply pw_below_drewN | apply below_drew1) | exact HB.out)))); (case aL => have := LM.out; simp only [List.length_nil]; omega); intro v185 w14 ho hb hg hat; replace HB := Am (hb); have Ab := Am (ho); clear Aa; clear ho hb hg hat))
  go_ret
  exact ⟨_, rfl, Ab.out, HB.out⟩
def raft_own.f (a0_0 : Int) (a0_1 : Int) (a0_2 : Int) (a0_3 : ByteArray) (a0_4 : Bool) (l0_5 : List Int) (a0_6 : Int) (a0_7 : Int) (a0_8 : Int) (a0_9 : Int) : Option (Int × Int × Int × ByteArray × Bool × List Int × Int × Int × Int × Int) := (slices_Clone_byte_byte.f l0_5).bind fun t137 => (some (a0_0, a0_1, a0_2, a0_3, a0_4, t137, a0_6, a0_7, a0_8, a0_9))
set_option maxHeartbeats 8000000 in
set_option maxRecDepth 100000 in
theorem raft_own.calls (a0_0 : Int) (a0_1 : Int) (a0_2 : Int) (a0_3 : ByteArray) (a0_4 : Bool) (A0_5 : Option Addr) (c0_5 : Nat) (l0_5 : List Int) (a0_6 : Int) (a0_7 : Int) (a0_8 : Int) (a0_9 : Int) (r1 : Int) (r2 : Int) (r3 : Int) (r4 : ByteArray) (r5 : Bool) (r6 : List Int) (r7 : Int) (r8 : Int) (r9 : Int) (r10 : Int) (w : World) (hr0_5 : Kd.C (Kd.int .u8) w A0_5 l0_5.length l0_5) (hc0_5 : l0_5.length ≤ c0_5) (h : raft_own.f a0_0 a0_1 a0_2 a0_3 a0_4 l0_5 a0_6 a0_7 a0_8 a0_9 = some (r1, r2, r3, r4, r5, r6, r7, r8, r9, r10)) :
  Calls Try.prog 29 #[.agg #[.int .i64 a0_0, .int .i64 a0_1, .int .i64 a0_2, .string a0_3, .bool a0_4, .slice A0_5 l0_5.length c0_5, .int .i64 a0_6, .int .i64 a0_7, .int .i64 a0_8, .int .u32 a0_9]] w fun e w' => ∃ v5_ : Value, e = .returned (.agg #[.int .i64 r1, .int .i64 r2, .int .i64 r3, .string r4, .bool r5, v5_, .int .i64 r7, .int .i64 r8, .int .i64 r9, .int .u32 r10]) ∧ Kd.R (Kd.int .u8) 5 w' w.heap.size (fun _ => True) v5_ r6 ∧ Below w.heap.size w w' := by
 have hu46 := Try.underlying46
 have Aj := Am hr0_5
 have Ak := Am hc0_5
 clear hr0_5 hc0_5
 have HB := Am (Below.refl w.heap.size w)
 have H : ((slices_Clone_byte_byte.f l0_5).bind fun t137 => (some (a0_0, a0_1, a0_2, a0_3, a0_4, t137, a0_6, a0_7, a0_8, a0_9))) = some (r1, r2, r3, r4, r5, r6, r7, r8, r9, r10) := h
 clear h
 replace H := Option.bind_eq_some_iff.mp H
 obtain ⟨t137, A20, H⟩ := H
 replace H : (some (a0_0, a0_1, a0_2, a0_3, a0_4, t137, a0_6, a0_7, a0_8, a0_9)) = some (r1, r2, r3, r4, r5, r6, r7, r8, r9, r10) := H
 have A2 := Am A20
 clear A20
 simp only [Option.some.injEq, Prod.mk.injEq] at H
 obtain ⟨rfl, rfl, rfl, rfl, rfl, rfl, rfl, rfl, rfl, rfl⟩ := H
 go_enter Try.func29, Try.ntmps29
 go_wp2_with (first | ((with_reducible refine gate_dst (N := 1) rfl ?_); refine box_event ?hg (N := 1) ?hd (cs := #[.int .i64 a0_0, .int .i64 a0_1, .int .i64 a0_2, .string a0_3, .bool a0_4, .slice A0_5 l0_5.length c0_5, .int .i64 a0_6, .int .i64 a0_7, .int .i64 a0_8, .int .u32 a0_9]) (t := 46) ?hr ?_; (case hd => rfl); (case hg => rfl); (case hr => first | (go_simp; done) | (go_simp; rfl)); intro Af hg w3 hbox hb; have Aa := Am (hbox); have Al := Am ((by rw [hg]; exact (below_size (pB HB.out)) : w.heap.size ≤ Af)); replace HB := Am (below_step (pB HB.out) hb); have Ad := Al; clear hb hbox hg) | ((with_reducible refine gate_dst (N := 2) rfl ?_); refine box_event ?hg (N := 2) ?hd (cs := #[.int .i64 0, .int .i64 0, .int .i64 0, .string (⟨#[]⟩ : ByteArray), .bool false, .slice none 0 0, .int .i64 0, .int .i64 0, .int .i64 0, .int .u32 0]) (t := 46) ?hr ?_; (case hd => rfl); (case hg => rfl); (case hr => first | (go_simp; done) | (go_simp; rfl)); intro Ae hg w4 hbox hb; have Ab := Am (hbox); have An := Am ((by rw [hg]; exact (below_size (pE HB.out Ad.out)) : w.heap.size ≤ Ae)); replace HB := Am (below_step (pE HB.out Ad.out) hb); have Ah := An; have Ag := Am ((by rw [hg]; exact Nat.ne_of_lt (kL Aa.out) : Af ≠ Ae)); have Ac := Am ((by rw [hg]; exact Nat.ne_of_gt (kL Aa.out) : Ae ≠ Af)); replace Aa := kBa Aa hb; clear hb hbox hg; have hnb5 := Ag.out; have hnc5 := Ac.out; obtain ⟨hcz6_0, hcz6_1, hcz6_2, hcz6_3, hcz6_4, hcz6_5, hcz6_6, hcz6_7, hcz6_8, hcz6_9⟩ := bc10 Aa.out; obtain ⟨hfz6_0, hfz6_1, hfz6_2, hfz6_3, hfz6_4, hfz6_5, hfz6_6, hfz6_7, hfz6_8, hfz6_9⟩ := bf10 Aa.out) | ((with_reducible refine gate_callee (f := 41) rfl ?_); refine goesL_ (some 6) rfl rfl Try.func41 (by kernel_rfl) rfl #[.slice A0_5 l0_5.length c0_5] rfl pL ?_; (with_reducible refine (slices_Clone_byte_byte.calls _ _ l0_5 t137 _ ?Ao ?Ap A2.out).mono ?_); (case Ao => exact pC (Kd.C_below Aj.out HB.out)); (case Ap => exact Ak.out); rintro e w7 ⟨v138, rfl, ho0, hb⟩; refine ⟨_, rfl, ?_⟩; have Ai := Am (Kd.R_lower ho0 (below_size (pE2 HB.out Ad.out Ah.out))); replace Aa := kBa Aa hb; replace Ab := kBa Ab hb; replace HB := Am (below_step (pE2 HB.out Ad.out Ah.out) hb); (try clear hb); (try clear hb2); (try clear hk); (try clear hi); (try clear ho0); obtain ⟨Aq, Ar, As⟩ := Kd.R_slice Ai.out; subst As; obtain ⟨hcz9_0, hcz9_1, hcz9_2, hcz9_3, hcz9_4, hcz9_5, hcz9_6, hcz9_7, hcz9_8, hcz9_9⟩ := bc10 Aa.out; obtain ⟨hfz9_0, hfz9_1, hfz9_2, hfz9_3, hfz9_4, hfz9_5, hfz9_6, hfz9_7, hfz9_8, hfz9_9⟩ := bf10 Aa.out; obtain ⟨hcz10_0, hcz10_1, hcz10_2, hcz10_3, hcz10_4, hcz10_5, hcz10_6, hcz10_7, hcz10_8, hcz10_9⟩ := bc10 Ab.out; obtain ⟨hfz10_0, hfz10_1, hfz10_2, hfz10_3, hfz10_4, hfz10_5, hfz10_6, hfz10_7, hfz10_8, hfz10_9⟩ := bf10 Ab.out))
 refine bodyPost_ret (results_cell_row rfl _ _ Ae 46 #[.int .i64 a0_0, .int .i64 a0_1, .int .i64 a0_2, .string a0_3, .bool a0_4, .slice Aq t137.length Ar, .int .i64 a0_6, .int .i64 a0_7, .int .i64 a0_8, .int .u32 a0_9] (0, 0) _ rfl (kX1 Ab.out Ac.out) Try.underlying46 rfl (by kernel_rfl)) rfl ?_
 exact ⟨_, pX, by (with_reducible repeat (first | apply Kd.R_alloc | apply Kd.R_drewN | apply Kd.R_drew)); exact Kd.R_mono (Rf10 (g := Ae) (Kd.R_far (p := ⟨Af, 5, none⟩) (Kd.R_types (Kd.R_types Ai.out Aa.out (by decide)) Ab.out (by decide)) (fun _ hk => hk.1.2) (.slice Aq t137.length Ar)) (fun _ hk => hk.2)) (fun _ hk => trivial), pE2 HB.out Ad.out Ah.out⟩
def raft_owns.l0 : Nat → List (S46) → List (S46) → Int → Int → Option ((List (S46)))
 | 0, _, _, _, _ => none
 | k + 1, x3, x6, x7, x8 => if x8 < x7 then (if 0 ≤ x8 then (if x8 < (x6.length : Int) then ((raft_own.f ((rd_T46 x6 x8).f0) ((rd_T46 x6 x8).f1) ((rd_T46 x6 x8).f2) ((rd_T46 x6 x8).f3) ((rd_T46 x6 x8).f4.f0) ((rd_T46 x6 x8).f4.f1) ((rd_T46 x6 x8).f4.f2.f0) ((rd_T46 x6 x8).f4.f2.f1) ((rd_T46 x6 x8).f4.f2.f2) ((rd_T46 x6 x8).f4.f2.f3)).bind fun bt142 => (if x3.length < 1353245080339 then (raft_owns.l0 k (x3 ++ [(⟨bt142.1, bt142.2.1, bt142.2.2.1, bt142.2.2.2.1, (⟨bt142.2.2.2.2.1, bt142.2.2.2.2.2.1, (⟨bt142.2.2.2.2.2.2.1, bt142.2.2.2.2.2.2.2.1, bt142.2.2.2.2.2.2.2.2.1, bt142.2.2.2.2.2.2.2.2.2⟩ : S42)⟩ : S44)⟩ : S46)]) x6 x7 (wrap64 (x8 + 1))) else (none))) else (none)) else (none)) else (some x3)
def raft_owns.f (k : Nat) (l0 : List (S46)) : Option ((List (S46))) := raft_owns.l0 k ([] : List (S46)) l0 (l0.length : Int) 0
theorem raft_owns.mono_l : ∀ k, (∀ y0 y1 y2 y3, LeO (raft_owns.l0 k y0 y1 y2 y3) (raft_owns.l0 (k + 1) y0 y1 y2 y3))
 | 0 => fun _ _ _ _ r h => by simp [raft_owns.l0] at h
 | k + 1 => by
  have ih0 := raft_owns.mono_l k
  ·intro y0 y1 y2 y3
   unfold raft_owns.l0
   repeat' first
   | (with_reducible exact ih0 _ _ _ _)
   | (with_reducible exact LeO.refl _)
   | (with_reducible exact LeO.none _)
   | (with_reducible refine LeO.ite ?_ ?_)
   | (with_reducible refine LeO.bind ?_ (fun _ => ?_))
   | exact ih0 _ _ _ _
   | exact LeO.none _
   | refine LeO.ite ?_ ?_
   | refine LeO.bind ?_ (fun _ => ?_)
theorem raft_owns.mono : ∀ a0 k, LeO (raft_owns.f k a0) (raft_owns.f (k + 1) a0) := by
 intro a0 k
 have ih0 := raft_owns.mono_l k
 unfold raft_owns.f
 repeat' first
   | (with_reducible exact ih0 _ _ _ _)
   | (with_reducible exact LeO.refl _)
   | (with_reducible exact LeO.none _)
   | (with_reducible refine LeO.ite ?_ ?_)
   | (with_reducible refine LeO.bind ?_ (fun _ => ?_))
   | exact ih0 _ _ _ _
   | exact LeO.none _
   | refine LeO.ite ?_ ?_
   | refine LeO.bind ?_ (fun _ => ?_)
set_option maxHeartbeats 8000000 in
set_option maxRecDepth 100000 in
theorem raft_owns.calls (k : Nat) (A0 : Option Addr) (c0 : Nat) (l0 : List (S46)) (r : List (S46)) (w : World) (hr0 : Kd.C k46 w A0 l0.length l0) (hc0 : l0.length ≤ c0) (h : raft_owns.f k l0 = some r) :
  Calls Try.prog 28 #[.slice A0 l0.length c0] w fun e w' => ∃ v0_ : Value, e = .returned (v0_) ∧ Kd.S k46 46 w' w.heap.size (fun _ => True) v0_ r ∧ Below w.heap.size w w' := by
 have hu46 := Try.underlying46
 have HR0 := Am hr0
 have HC0 := Am hc0
 clear hr0 hc0
 have HB := Am (Below.refl w.heap.size w)
 have H : (raft_owns.l0 k ([] : List (S46)) l0 (l0.length : Int) 0) = some r := h
 clear h
 have H' := Am H
 clear H
 go_enter Try.func28, Try.ntmps28
 go_wp2
 go_loopg [3, 8] k (fun kq v3 v8 w' => ∃ (Af : List (S46)) (Aa : Int), v8 = .int .i64 Aa ∧ Aside0 (raft_owns.l0 kq Af l0 (l0.length : Int) Aa = some r) ∧ Aside0 (kq ≤ k) ∧ Aside0 (Kd.S k46 46 w' w.heap.size (fun _ => True) v3 Af) ∧ Aside0 (Below w.heap.size w w'))
 case atStart => exact ⟨(([] : List (S46))), (0), (by first | rfl | (simp; done) | (simp [*]; done)), H', ⟨Nat.le_refl _⟩, ⟨by first | exact Kd.S_nil _ _ _ _ _ | exact Kd.N_nil _ _ _ _ _ | exact Kd.V_nil _ _ _ _ _ | exact Kd.Q_nil _ _ _ _ _ | exact Kd.R_nil _ _ _ _ _⟩, ⟨pB HB.out⟩⟩
 case round =>
  clear H'
  obtain ⟨Af, Aa, rfl, HA, HK1, Ad, HB⟩ := hrel
  cases gk with
  | zero => exact absurd HA.out (by simp [raft_owns.l0])
  | succ k1 =>
   have H := HA.out
   clear HA
   simp only [raft_owns.l0] at H
   by_cases c2 : Aa < (l0.length : Int)
   rotate_left
   ·rw [if_neg c2] at H
    have c2b0 : decide (Aa < (l0.length : Int)) = false := decide_eq_false c2
    clear c2
    obtain rfl := Option.some.inj H
    go_wp2
    go_ret
    exact ⟨_, pX, by (with_reducible repeat (first | apply Kd.S_alloc | apply Kd.S_drewN | apply Kd.S_drew)); exact Ad.out, pB HB.out⟩
   rw [if_pos c2] at H
   have c2b0 : decide (Aa < (l0.length : Int)) = true := decide_eq_true c2
   clear c2
   by_cases c3 : 0 ≤ Aa
   rotate_left
   ·rw [if_neg c3] at H
    exact absurd H (by simp)
   rw [if_pos c3] at H
   have c3b0 : decide (0 ≤ Aa) = true := decide_eq_true c3
   clear c3
   by_cases c4 : Aa < (l0.length : Int)
   rotate_left
   ·rw [if_neg c4] at H
    exact absurd H (by simp)
   rw [if_pos c4] at H
   have c4b0 : decide (Aa < (l0.length : Int)) = true := decide_eq_true c4
   clear c4
   replace H := Option.bind_eq_some_iff.mp H
   obtain ⟨⟨t142, t143, t144, t145, t146, t147, t150, t151, t152, t153⟩, A50, H⟩ := H
   replace H : (if Af.length < 1353245080339 then (raft_owns.l0 k1 (Af ++ [(⟨t142, t143, t144, t145, (⟨t146, t147, (⟨t150, t151, t152, t153⟩ : S42)⟩ : S44)⟩ : S46)]) l0 (l0.length : Int) (wrap64 (Aa + 1))) else (none)) = some r := H
   have A5 := Am A50
   clear A50
   by_cases c6 : Af.length < 1353245080339
   rotate_left
   ·rw [if_neg c6] at H
    exact absurd H (by simp)
   rw [if_pos c6] at H
   have LMc6 := Am c6
   clear c6
   obtain ⟨y154, hy154⟩ : ∃ y_ : List (S46), y_ = (Af ++ [(⟨t142, t143, t144, t145, (⟨t146, t147, (⟨t150, t151, t152, t153⟩ : S42)⟩ : S44)⟩ : S46)]) := ⟨_, rfl⟩
   replace H : (raft_owns.l0 k1 y154 l0 (l0.length : Int) (wrap64 (Aa + 1))) = some r := by first | (rw [hy154]; with_reducible exact H) | (have H2_ := (Option.bind_some _ _).symm.trans H; rw [hy154]; with_reducible exact H2_) | (have H2_ := (Option.bind_some _ _).symm.trans H; with_reducible exact H2_) | with_reducible exact H | (rw [hy154]; exact H) | exact H
   have Ny154 := Am hy154
   clear hy154
   have H' := Am H
   clear H
   have p140 : 0 ≤ (Aa : Int) := of_decide_eq_true pS
   have q140 : Aa < (l0.length : Int) := of_decide_eq_true pS
   obtain ⟨ad140, Aj, c140_5, e140, hx140_0, hx140_1, hx140_2, hx140_3, hx140_4, hx140_5, hx140_6, hx140_7, hx140_8, hx140_9, Ah, Ai⟩ := at_T46u HR0.out Aa p140 q140 HB.out
   cases e140
   have Ak := Am Ai
   have Al := Am Ah
   clear Ai Ah
   replace p140 := eq_true p140
   replace q140 := eq_true q140
   go_wp2_with (first | ((with_reducible refine gate_dst (N := 5) rfl ?_); refine box_event ?hg (N := 5) ?hd (cs := #[.int .i64 0, .int .i64 0, .int .i64 0, .string (⟨#[]⟩ : ByteArray), .bool false, .slice none 0 0, .int .i64 0, .int .i64 0, .int .i64 0, .int .u32 0]) (t := 46) ?hr ?_; (case hd => rfl); (case hg => rfl); (case hr => first | (go_simp; done) | (go_simp; rfl)); intro Ab hg w7 hbox hb; replace Ad := Am (Kd.S_below (Kd.S_elderB (by (with_reducible repeat (first | apply Kd.S_alloc | apply Kd.S_drewN | apply Kd.S_drew)); exact Ad.out) Ab (Nat.le_of_eq hg.symm)) hb); have Ac := Am (hbox); have Ap := Am ((by rw [hg]; exact (below_size (pB HB.out)) : w.heap.size ≤ Ab)); replace HB := Am (below_step (pB HB.out) hb); have Ae := Ap; clear hb hbox hg; obtain ⟨hcz8_0, hcz8_1, hcz8_2, hcz8_3, hcz8_4, hcz8_5, hcz8_6, hcz8_7, hcz8_8, hcz8_9⟩ := bc10 Ac.out; obtain ⟨hfz8_0, hfz8_1, hfz8_2, hfz8_3, hfz8_4, hfz8_5, hfz8_6, hfz8_7, hfz8_8, hfz8_9⟩ := bf10 Ac.out) | ((with_reducible refine gate_callee (f := 29) rfl ?_); refine goesL_ (some 14) rfl rfl Try.func29 (by kernel_rfl) rfl #[.agg #[.int .i64 ((rd_T46 l0 Aa).f0), .int .i64 ((rd_T46 l0 Aa).f1), .int .i64 ((rd_T46 l0 Aa).f2), .string ((rd_T46 l0 Aa).f3), .bool ((rd_T46 l0 Aa).f4.f0), .slice Aj ((rd_T46 l0 Aa).f4.f1).length c140_5, .int .i64 ((rd_T46 l0 Aa).f4.f2.f0), .int .i64 ((rd_T46 l0 Aa).f4.f2.f1), .int .i64 ((rd_T46 l0 Aa).f4.f2.f2), .int .u32 ((rd_T46 l0 Aa).f4.f2.f3)]] rfl pL ?_; (with_reducible refine (raft_own.calls ((rd_T46 l0 Aa).f0) ((rd_T46 l0 Aa).f1) ((rd_T46 l0 Aa).f2) ((rd_T46 l0 Aa).f3) ((rd_T46 l0 Aa).f4.f0) _ _ ((rd_T46 l0 Aa).f4.f1) ((rd_T46 l0 Aa).f4.f2.f0) ((rd_T46 l0 Aa).f4.f2.f1) ((rd_T46 l0 Aa).f4.f2.f2) ((rd_T46 l0 Aa).f4.f2.f3) t142 t143 t144 t145 t146 t147 t150 t151 t152 t153 _ ?Aq ?Ar A5.out).mono ?_); (case Aq => exact Kd.C_below Ak.out (pE HB.out Ae.out)); (case Ar => exact Al.out); rintro e w9 ⟨v148, rfl, ho0, hb⟩; refine ⟨_, rfl, ?_⟩; replace Ad := Am (Kd.S_elder' (by (with_reducible repeat (first | apply Kd.S_alloc | apply Kd.S_drewN | apply Kd.S_drew)); exact (Kd.S_mono (Sf10 (g := Ab) (Kd.S_mono Ad.out (fun k_ hk => (⟨hk, hk.2⟩ : _ ∧ k_ ≠ Ab))) (fun _ hk => hk.2)) (fun _ h_ => h_.1))) (Kd.R_base ho0) hb); have Ag := Am (Kd.R_lower ho0 (below_size (pE HB.out Ae.out))); replace Ac := Am (blk_below (g := Ab) (kX0 Ac.out) hb); replace HB := Am (below_step (pE HB.out Ae.out) hb); (try clear hb); (try clear hb2); (try clear hk); (try clear hi); (try clear ho0); obtain ⟨An, Ao, At⟩ := Kd.R_slice Ag.out; subst At) | ((with_reducible refine gate_builtin (b := .append) (xs := #[.tmp 12, .tmp 15]) rfl ?_); at_builtin; refine Kd.S_append k46 (w0 := w) w.heap.size rfl (.tmp 12) (.tmp 15) 22 46 (.agg #[(.int .i64 0), (.int .i64 0), (.int .i64 0), (.string ⟨#[]⟩), (.bool false), (.slice none 0 0), (.int .i64 0), (.int .i64 0), (.int .i64 0), (.int .u32 0)]) 104 rfl Try.underlying22 info46 rfl (by decide) (by omega) u3 Af (⟨t142, t143, t144, t145, (⟨t146, t147, (⟨t150, t151, t152, t153⟩ : S42)⟩ : S44)⟩ : S46) [.int .i64 t142, .int .i64 t143, .int .i64 t144, .string t145, .bool t146, .slice An t147.length Ao, .int .i64 t150, .int .i64 t151, .int .i64 t152, .int .u32 t153] (fun k_ => k_ ≠ Ab) (fun k_ => some k_ = (.slice An t147.length Ao : Value).ownBlock) rfl rfl ?aP (fun k_ hk_ => ((Kd.R_mono (ok' := fun k_ => ((fun k_ => k_ ≠ Ab)) k_ ∧ some k_ ≠ (u3 : Value).ownBlock) (Kd.R_types (Kd.R_apart' (Ag.out) (Kd.S_typed Ad.out) (by decide)) Ac.out (by decide)) (fun k_ hk => ⟨hk.2, hk.1.2⟩))).1 k_ hk_.symm) ?aF ?aO ?aB ?aS ?aL ?_; (case aP => exact k46_mkM _ _ _ (⟨t142, t143, t144, t145, (⟨t146, t147, (⟨t150, t151, t152, t153⟩ : S42)⟩ : S44)⟩ : S46) (Kd.R_mono (Kd.R_tight rfl (Kd.R_mono (ok' := fun k_ => ((fun k_ => k_ ≠ Ab)) k_ ∧ some k_ ≠ (u3 : Value).ownBlock) (Kd.R_types (Kd.R_apart' (Ag.out) (Kd.S_typed Ad.out) (by decide)) Ac.out (by decide)) (fun k_ hk => ⟨hk.2, hk.1.2⟩))) (fun _ h_ => h_))); (case aB => exact (pE HB.out Ae.out)); (case aF => exact (fun k_ hk => kF Ac.out k_ hk)); (case aO => exact (by (with_reducible repeat (first | apply Kd.S_alloc | apply Kd.S_drewN | apply Kd.S_drew)); exact Kd.S_mono Ad.out (fun k_ hk => ⟨hk.1.2, fun e_ => hk.2 e_⟩))); (case aS => exact (below_size (pE HB.out Ae.out))); (case aL => have := LMc6.out; omega); intro v155 w10 ho hb hg hat; rw [← Ny154.out] at ho; replace Ac := Am (blk_grown (g := Ab) (o := .cells #[.int .i64 ((rd_T46 l0 Aa).f0), .int .i64 ((rd_T46 l0 Aa).f1), .int .i64 ((rd_T46 l0 Aa).f2), .string ((rd_T46 l0 Aa).f3), .bool ((rd_T46 l0 Aa).f4.f0), .slice Aj ((rd_T46 l0 Aa).f4.f1).length c140_5, .int .i64 ((rd_T46 l0 Aa).f4.f2.f0), .int .i64 ((rd_T46 l0 Aa).f4.f2.f1), .int .i64 ((rd_T46 l0 Aa).f4.f2.f2), .int .u32 ((rd_T46 l0 Aa).f4.f2.f3)] 46 (0, 0)) (pK Ac.out) hg (Kd.S_away Ad.out (fun _ hk => hk.1.2))); replace HB := Am (hb); have As := Am (ho); clear Ad Ag ho hb hg hat))
   go_roundg k1
   case measure => have := HK1.out; omega
   case rel => exact ⟨(y154), (wrap64 (Aa + 1)), (by first | rfl | (simp; done) | (simp [*]; done)), H', ⟨by have := HK1.out; omega⟩, ⟨by (with_reducible repeat (first | apply Kd.S_alloc | apply Kd.S_drewN | apply Kd.S_drew)); exact Kd.S_mono As.out (fun _ hk => trivial)⟩, ⟨pE HB.out Ae.out⟩⟩
end Go.Proofs.Ytinldhpdfomcjaa.PRaftMay
