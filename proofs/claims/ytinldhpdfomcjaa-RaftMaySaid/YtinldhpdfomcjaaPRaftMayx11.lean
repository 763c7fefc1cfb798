/- What the law reaches, as plain Lean functions, and that the machine's calls answer just that. -/
import Derived.Test.YtinldhpdfomcjaaPRaftMayx0
import Derived.Test.YtinldhpdfomcjaaPRaftMayx1
import Derived.Test.YtinldhpdfomcjaaPRaftMayx5
import Derived.Test.YtinldhpdfomcjaaPRaftMayx6
import Derived.Test.YtinldhpdfomcjaaPRaftMayx7
import Derived.Test.YtinldhpdfomcjaaPRaftMayx9
import Derived.Test.YtinldhpdfomcjaaPRaftMayx10
namespace Go.Proofs.Ytinldhpdfomcjaa.PRaftMay
open Go.RowKit Go.Proofs.YtinldhpdfomcjaaW.PrintWords Go.Proofs.YtinldhpdfomcjaaW.PrintLast Go.Proofs.YtinldhpdfomcjaaW.PrintMore
attribute [local go_sem] max2_int min2_int max_two min_two max_three min_three max_four min_four
set_option linter.unusedVariables false
set_option linter.unusedSimpArgs false
attribute [local go_sem] wrap64_l1 wrap64_l2 wrap64_l3 wrap64_l4 wrap64_l5
attribute [local go_sem high] eqA42
def garnerlaw23_act.f (k : Nat) (a0_0 : Int) (a0_1 : Int) (l0_2 : List (S46)) (a0_3 : Int) (a0_4 : Int) (a0_5 : Int) (a0_6 : Int) (a1_0 : Int) (l1_1 : List (S46)) (a1_2 : Int) (a1_3 : Int) (a1_4 : Int) (a1_5 : Int) (a1_6 : Int) : Option (Int × Int × (List (S46)) × Int × Int × Int × Int × Int) := if a1_0 = 0 then ((raft_Put.f k a0_0 a0_1 l0_2 a0_3 a0_4 a0_5 a0_6 l1_1).bind fun bt281 => (some (bt281.1, bt281.2.1, bt281.2.2.1, bt281.2.2.2.1, bt281.2.2.2.2.1, bt281.2.2.2.2.2.1, bt281.2.2.2.2.2.2.1, bt281.2.2.2.2.2.2.2))) else (if a1_0 = 1 then ((raft_Vote.f k a0_0 a0_1 l0_2 a0_3 a0_4 a0_5 a0_6 a1_2 a1_3 a1_4).bind fun bt291 => (some (bt291.1, bt291.2.1, bt291.2.2.1, bt291.2.2.2.1, bt291.2.2.2.2.1, bt291.2.2.2.2.2.1, bt291.2.2.2.2.2.2.1, bt291.2.2.2.2.2.2.2))) else (if a1_0 = 2 then ((raft_Apply.f k a0_0 a0_1 l0_2 a0_3 a0_4 a0_5 a0_6 a1_5).bind fun bt301 => (some (bt301.1, bt301.2.1, bt301.2.2.1, bt301.2.2.2.1, bt301.2.2.2.2.1, bt301.2.2.2.2.2.1, bt301.2.2.2.2.2.2.1, bt301.2.2.2.2.2.2.2.2))) else (if a1_0 = 3 then ((raft_Compact.f k a0_0 a0_1 l0_2 a0_3 a0_4 a0_5 a0_6 a1_5).bind fun bt315 => (some (bt315.1, bt315.2.1, bt315.2.2.1, bt315.2.2.2.1, bt315.2.2.2.2.1, bt315.2.2.2.2.2.1, bt315.2.2.2.2.2.2.1, bt315.2.2.2.2.2.2.2))) else (if a1_0 = 4 then ((raft_Reset.f k a0_0 a0_1 l0_2 a0_3 a0_4 a0_5 a0_6 a1_5 a1_6).bind fun bt325 => (some (bt325.1, bt325.2.1, bt325.2.2.1, bt325.2.2.2.1, bt325.2.2.2.2.1, bt325.2.2.2.2.2.1, bt325.2.2.2.2.2.2.1, bt325.2.2.2.2.2.2.2))) else (some (a0_0, a0_1, l0_2, a0_3, a0_4, a0_5, a0_6, 1))))))
theorem garnerlaw23_act.mono : ∀ a0 a1 a2 a3 a4 a5 a6 a7 a8 a9 a10 a11 a12 a13 k, LeO (garnerlaw23_act.f k a0 a1 a2 a3 a4 a5 a6 a7 a8 a9 a10 a11 a12 a13) (garnerlaw23_act.f (k + 1) a0 a1 a2 a3 a4 a5 a6 a7 a8 a9 a10 a11 a12 a13) := by
 intro a0 a1 a2 a3 a4 a5 a6 a7 a8 a9 a10 a11 a12 a13 k
 unfold garnerlaw23_act.f
 repeat' first
   | (with_reducible exact raft_Apply.mono _ _ _ _ _ _ _ _ _)
   | (with_reducible exact raft_Compact.mono _ _ _ _ _ _ _ _ _)
   | (with_reducible exact raft_Put.mono _ _ _ _ _ _ _ _ _)
   | (with_reducible exact raft_Reset.mono _ _ _ _ _ _ _ _ _ _)
   | (with_reducible exact raft_Vote.mono _ _ _ _ _ _ _ _ _ _ _)
   | (with_reducible exact LeO.refl _)
   | (with_reducible exact LeO.none _)
   | (with_reducible refine LeO.ite ?_ ?_)
   | (with_reducible refine LeO.bind ?_ (fun _ => ?_))
   | exact raft_Apply.mono _ _ _ _ _ _ _ _ _
   | exact raft_Compact.mono _ _ _ _ _ _ _ _ _
   | exact raft_Put.mono _ _ _ _ _ _ _ _ _
   | exact raft_Reset.mono _ _ _ _ _ _ _ _ _ _
   | exact raft_Vote.mono _ _ _ _ _ _ _ _ _ _ _
   | exact LeO.none _
   | refine LeO.ite ?_ ?_
   | refine LeO.bind ?_ (fun _ => ?_)
set_option maxHeartbeats 8000000 in
set_option maxRecDepth 100000 in
theorem garnerlaw23_act.calls (k : Nat) (a0_0 : Int) (a0_1 : Int) (P0_2_ : Nat → Prop) (A0_2 : Option Addr) (c0_2 : Nat) (l0_2 : List (S46)) (a0_3 : Int) (a0_4 : Int) (a0_5 : Int) (a0_6 : Int) (a1_0 : Int) (A1_1 : Option Addr) (c1_1 : Nat) (l1_1 : List (S46)) (a1_2 : Int) (a1_3 : Int) (a1_4 : Int) (a1_5 : Int) (a1_6 : Int) (r1 : Int) (r2 : Int) (r3 : List (S46)) (r4 : Int) (r5 : Int) (r6 : Int) (r7 : Int) (r8 : Int) (w : World) (hs0_2 : Kd.V k46 46 w w.heap.size (fun k_ => P0_2_ k_) (.slice A0_2 l0_2.length c0_2) l0_2) (hr1_1 : Kd.C k46 w A1_1 l1_1.length l1_1) (hc1_1 : l1_1.length ≤ c1_1) (h : garnerlaw23_act.f k a0_0 a0_1 l0_2 a0_3 a0_4 a0_5 a0_6 a1_0 l1_1 a1_2 a1_3 a1_4 a1_5 a1_6 = some (r1, r2, r3, r4, r5, r6, r7, r8)) :
  Calls Try.prog 11 #[.agg #[.int .i64 a0_0, .int .i64 a0_1, .slice A0_2 l0_2.length c0_2, .int .i64 a0_3, .int .i64 a0_4, .int .i64 a0_5, .int .i64 a0_6], .agg #[.int .i64 a1_0, .slice A1_1 l1_1.length c1_1, .int .i64 a1_2, .int .i64 a1_3, .int .i64 a1_4, .int .i64 a1_5, .int .i64 a1_6]] w fun e w' => ∃ v2_ : Value, e = .returned (.tuple #[.agg #[.int .i64 r1, .int .i64 r2, v2_, .int .i64 r4, .int .i64 r5, .int .i64 r6, .int .i64 r7], .int .i64 r8]) ∧ Kd.V k46 46 w' w.heap.size (fun k_ => (P0_2_ k_ ∨ w.heap.size ≤ k_)) v2_ r3 ∧ Below w.heap.size w w' := by
 have hu26 := Try.underlying26
 have hu37 := Try.underlying37
 have hu24 := Try.underlying24
 have HO0_2 := Am (show Kd.V k46 46 w w.heap.size (fun k_ => (P0_2_ k_ ∨ w.heap.size ≤ k_)) (.slice A0_2 l0_2.length c0_2) l0_2 from Kd.V_mono hs0_2 (fun k_ hk => .inl hk))
 have Bc := Am hr1_1
 have Bd := Am hc1_1
 clear hr1_1 hc1_1
 have HB := Am (Below.refl w.heap.size w)
 have H : (if a1_0 = 0 then ((raft_Put.f k a0_0 a0_1 l0_2 a0_3 a0_4 a0_5 a0_6 l1_1).bind fun bt281 => (some (bt281.1, bt281.2.1, bt281.2.2.1, bt281.2.2.2.1, bt281.2.2.2.2.1, bt281.2.2.2.2.2.1, bt281.2.2.2.2.2.2.1, bt281.2.2.2.2.2.2.2))) else (if a1_0 = 1 then ((raft_Vote.f k a0_0 a0_1 l0_2 a0_3 a0_4 a0_5 a0_6 a1_2 a1_3 a1_4).bind fun bt291 => (some (bt291.1, bt291.2.1, bt291.2.2.1, bt291.2.2.2.1, bt291.2.2.2.2.1, bt291.2.2.2.2.2.1, bt291.2.2.2.2.2.2.1, bt291.2.2.2.2.2.2.2))) else (if a1_0 = 2 then ((raft_Apply.f k a0_0 a0_1 l0_2 a0_3 a0_4 a0_5 a0_6 a1_5).bind fun bt301 => (some (bt301.1, bt301.2.1, bt301.2.2.1, bt301.2.2.2.1, bt301.2.2.2.2.1, bt301.2.2.2.2.2.1, bt301.2.2.2.2.2.2.1, bt301.2.2.2.2.2.2.2.2))) else (if a1_0 = 3 then ((raft_Compact.f k a0_0 a0_1 l0_2 a0_3 a0_4 a0_5 a0_6 a1_5).bind fun bt315 => (some (bt315.1, bt315.2.1, bt315.2.2.1, bt315.2.2.2.1, bt315.2.2.2.2.1, bt315.2.2.2.2.2.1, bt315.2.2.2.2.2.2.1, bt315.2.2.2.2.2.2.2))) else (if a1_0 = 4 then ((raft_Reset.f k a0_0 a0_1 l0_2 a0_3 a0_4 a0_5 a0_6 a1_5 a1_6).bind fun bt325 => (some (bt325.1, bt325.2.1, bt325.2.2.1, bt325.2.2.2.1, bt325.2.2.2.2.1, bt325.2.2.2.2.2.1, bt325.2.2.2.2.2.2.1, bt325.2.2.2.2.2.2.2))) else (some (a0_0, a0_1, l0_2, a0_3, a0_4, a0_5, a0_6, 1))))))) = some (r1, r2, r3, r4, r5, r6, r7, r8) := h
 clear h
 by_cases c3 : a1_0 = 0
 ·rw [if_pos c3] at H
  have c3b0 : (a1_0 == 0) = true := beq_iff_eq.mpr c3
  have c3b1 : (a1_0 != 0) = false := bne_eq_false_iff_eq.mpr c3
  clear c3
  replace H := Option.bind_eq_some_iff.mp H
  obtain ⟨⟨t281, t282, t283, t286, t287, t288, t289, t290⟩, A40, H⟩ := H
  replace H : (some (t281, t282, t283, t286, t287, t288, t289, t290)) = some (r1, r2, r3, r4, r5, r6, r7, r8) := H
  have A4 := Am A40
  clear A40
  simp only [Option.some.injEq, Prod.mk.injEq] at H
  obtain ⟨rfl, rfl, rfl, rfl, rfl, rfl, rfl, rfl⟩ := H
  go_enter Try.func11, Try.ntmps11
  go_wp2_with (first | ((with_reducible refine gate_dst (N := 2) rfl ?_); refine box_event ?hg (N := 2) ?hd (cs := #[.int .i64 a0_0, .int .i64 a0_1, .slice A0_2 l0_2.length c0_2, .int .i64 a0_3, .int .i64 a0_4, .int .i64 a0_5, .int .i64 a0_6]) (t := 26) ?hr ?_; (case hd => rfl); (case hg => rfl); (case hr => first | (go_simp; done) | (go_simp; rfl)); intro Ae hg w5 hbox hb; replace HO0_2 := Am (Kd.V_below (Kd.V_elderB (pV HO0_2.out) Ae (Nat.le_of_eq hg.symm)) hb); have Aa := Am (hbox); have Ar := Am ((by rw [hg]; exact (below_size (pB HB.out)) : w.heap.size ≤ Ae)); replace HB := Am (below_step (pB HB.out) hb); have Ad := Ar; clear hb hbox hg) | ((with_reducible refine gate_dst (N := 3) rfl ?_); refine box_event ?hg (N := 3) ?hd (cs := #[.int .i64 a1_0, .slice A1_1 l1_1.length c1_1, .int .i64 a1_2, .int .i64 a1_3, .int .i64 a1_4, .int .i64 a1_5, .int .i64 a1_6]) (t := 37) ?hr ?_; (case hd => rfl); (case hg => rfl); (case hr => first | (go_simp; done) | (go_simp; rfl)); intro Af hg w6 hbox hb; replace HO0_2 := Am (Kd.V_below (Kd.V_elderB (pV HO0_2.out) Af (Nat.le_of_eq hg.symm)) hb); have Ac := Am (hbox); have As := Am ((by rw [hg]; exact (below_size (pE HB.out Ad.out)) : w.heap.size ≤ Af)); replace HB := Am (below_step (pE HB.out Ad.out) hb); have Ah := As; have Aj := Am ((by rw [hg]; exact Nat.ne_of_lt (kL Aa.out) : Ae ≠ Af)); have Ak := Am ((by rw [hg]; exact Nat.ne_of_gt (kL Aa.out) : Af ≠ Ae)); replace Aa := kBa Aa hb; clear hb hbox hg) | ((with_reducible refine gate_dst (N := 4) rfl ?_); refine box_event ?hg (N := 4) ?hd (cs := #[.int .i64 0, .int .i64 0, .slice none 0 0, .int .i64 0, .int .i64 0, .int .i64 0, .int .i64 0]) (t := 26) ?hr ?_; (case hd => rfl); (case hg => rfl); (case hr => first | (go_simp; done) | (go_simp; rfl)); intro Ab hg w7 hbox hb; replace HO0_2 := Am (Kd.V_below (Kd.V_elderB (pV HO0_2.out) Ab (Nat.le_of_eq hg.symm)) hb); have Ag := Am (hbox); have At := Am ((by rw [hg]; exact (below_size (pE2 HB.out Ad.out Ah.out)) : w.heap.size ≤ Ab)); replace HB := Am (below_step (pE2 HB.out Ad.out Ah.out) hb); have Ai := At; have Al := Am ((by rw [hg]; exact Nat.ne_of_lt (kL Aa.out) : Ae ≠ Ab)); have An := Am ((by rw [hg]; exact Nat.ne_of_gt (kL Aa.out) : Ab ≠ Ae)); replace Aa := kBa Aa hb; have Ao := Am ((by rw [hg]; exact Nat.ne_of_lt (kL Ac.out) : Af ≠ Ab)); have Ap := Am ((by rw [hg]; exact Nat.ne_of_gt (kL Ac.out) : Ab ≠ Af)); replace Ac := kBa Ac hb; clear hb hbox hg; have hnb8 := Ak.out; have hnc8 := Aj.out; have hnb9 := Ao.out; have hnc9 := Ap.out; obtain ⟨hcz10_0, hcz10_1, hcz10_2, hcz10_3, hcz10_4, hcz10_5, hcz10_6⟩ := bc7 Ac.out; obtain ⟨hfz10_0, hfz10_1, hfz10_2, hfz10_3, hfz10_4, hfz10_5, hfz10_6⟩ := bf7 Ac.out; have hnb11 := Al.out; have hnc11 := An.out; obtain ⟨hcz12_0, hcz12_1, hcz12_2, hcz12_3, hcz12_4, hcz12_5, hcz12_6⟩ := bc7 Aa.out; obtain ⟨hfz12_0, hfz12_1, hfz12_2, hfz12_3, hfz12_4, hfz12_5, hfz12_6⟩ := bf7 Aa.out) | ((with_reducible refine gate_callee (f := 9) rfl ?_); refine goesL_ (some 16) rfl rfl Try.func9 (by kernel_rfl) rfl #[.agg #[.int .i64 a0_0, .int .i64 a0_1, .slice A0_2 l0_2.length c0_2, .int .i64 a0_3, .int .i64 a0_4, .int .i64 a0_5, .int .i64 a0_6], .slice A1_1 l1_1.length c1_1] rfl pL ?_; (with_reducible refine (raft_Put.calls k a0_0 a0_1 _ _ l0_2 a0_3 a0_4 a0_5 a0_6 _ _ l1_1 t281 t282 t283 t286 t287 t288 t289 t290 _ ?Au ?Av ?Be ?Bf A4.out).mono ?_); (case Au => exact pC (Kd.V_reads' HO0_2.out).2.2); (case Av => exact (Kd.V_reads' HO0_2.out).2.1); (case Be => exact pC (Kd.C_below Bc.out HB.out)); (case Bf => exact Bd.out); rintro e w13 ⟨v284, rfl, ho0, hb⟩; refine ⟨_, rfl, ?_⟩; replace HO0_2 := Am (Kd.V_elder' (pV HO0_2.out) (Kd.N_base ho0) hb); have A3 := Am (Kd.N_lower (Kd.N_mono (ok' := fun k_ => (P0_2_ k_ ∨ w.heap.size ≤ k_) ∧ k_ ≠ Ae ∧ k_ ≠ Af ∧ k_ ≠ Ab) ho0 (fun k_ hk_ => ⟨(.inr (Nat.le_trans (below_size (pE3 HB.out Ad.out Ah.out Ai.out)) hk_)), (kF Aa.out k_ hk_), (kF Ac.out k_ hk_), (kF Ag.out k_ hk_)⟩)) (below_size (pE3 HB.out Ad.out Ah.out Ai.out))); replace Aa := kBa Aa hb; replace Ac := kBa Ac hb; replace Ag := kBa Ag hb; replace HB := Am (below_step (pE3 HB.out Ad.out Ah.out Ai.out) hb); (try clear hb); (try clear hb2); (try clear hk); (try clear hi); (try clear ho0); obtain ⟨hcz14_0, hcz14_1, hcz14_2, hcz14_3, hcz14_4, hcz14_5, hcz14_6⟩ := bc7 Ag.out; obtain ⟨hfz14_0, hfz14_1, hfz14_2, hfz14_3, hfz14_4, hfz14_5, hfz14_6⟩ := bf7 Ag.out; obtain ⟨Bi, Bj, Bk⟩ := Kd.N_slice A3.out; subst Bk))
  refine bodyPost_ret (results_ct rfl _ _ Ab 26 #[.int .i64 t281, .int .i64 t282, .slice Bi t283.length Bj, .int .i64 t286, .int .i64 t287, .int .i64 t288, .int .i64 t289] (0, 0) _ rfl (kX0 Ag.out) Try.underlying26 rfl (by kernel_rfl)) rfl ?_
  exact ⟨_, pX, Kd.N_V (by (with_reducible repeat (first | apply Kd.N_alloc | apply Kd.N_drewN | apply Kd.N_drew)); exact Kd.N_mono (Nf7 (g := Ab) (Kd.N_mono A3.out (fun k_ hk => (⟨hk, hk.2.2.2⟩ : _ ∧ k_ ≠ Ab))) (fun _ hk => hk.2)) (fun _ hk => hk.1.1)), pE3 HB.out Ad.out Ah.out Ai.out⟩
 rw [if_neg c3] at H
 have c3b0 : (a1_0 == 0) = false := beq_eq_false_iff_ne.mpr c3
 have c3b1 : (a1_0 != 0) = true := bne_iff_ne.mpr c3
 by_cases c16 : a1_0 = 1
 ·rw [if_pos c16] at H
  have c16b0 : (a1_0 == 1) = true := beq_iff_eq.mpr c16
  have c16b1 : (a1_0 != 1) = false := bne_eq_false_iff_eq.mpr c16
  clear c16
  replace H := Option.bind_eq_some_iff.mp H
  obtain ⟨⟨t291, t292, t293, t296, t297, t298, t299, t300⟩, A170, H⟩ := H
  replace H : (some (t291, t292, t293, t296, t297, t298, t299, t300)) = some (r1, r2, r3, r4, r5, r6, r7, r8) := H
  have A17 := Am A170
  clear A170
  simp only [Option.some.injEq, Prod.mk.injEq] at H
  obtain ⟨rfl, rfl, rfl, rfl, rfl, rfl, rfl, rfl⟩ := H
  go_enter Try.func11, Try.ntmps11
  go_wp2_with (first | ((with_reducible refine gate_dst (N := 2) rfl ?_); refine box_event ?hg (N := 2) ?hd (cs := #[.int .i64 a0_0, .int .i64 a0_1, .slice A0_2 l0_2.length c0_2, .int .i64 a0_3, .int .i64 a0_4, .int .i64 a0_5, .int .i64 a0_6]) (t := 26) ?hr ?_; (case hd => rfl); (case hg => rfl); (case hr => first | (go_simp; done) | (go_simp; rfl)); intro Ae hg w18 hbox hb; replace HO0_2 := Am (Kd.V_below (Kd.V_elderB (pV HO0_2.out) Ae (Nat.le_of_eq hg.symm)) hb); have Aa := Am (hbox); have Ar := Am ((by rw [hg]; exact (below_size (pB HB.out)) : w.heap.size ≤ Ae)); replace HB := Am (below_step (pB HB.out) hb); have Ad := Ar; clear hb hbox hg) | ((with_reducible refine gate_dst (N := 3) rfl ?_); refine box_event ?hg (N := 3) ?hd (cs := #[.int .i64 a1_0, .slice A1_1 l1_1.length c1_1, .int .i64 a1_2, .int .i64 a1_3, .int .i64 a1_4, .int .i64 a1_5, .int .i64 a1_6]) (t := 37) ?hr ?_; (case hd => rfl); (case hg => rfl); (case hr => first | (go_simp; done) | (go_simp; rfl)); intro Af hg w19 hbox hb; replace HO0_2 := Am (Kd.V_below (Kd.V_elderB (pV HO0_2.out) Af (Nat.le_of_eq hg.symm)) hb); have Ac := Am (hbox); have As := Am ((by rw [hg]; exact (below_size (pE HB.out Ad.out)) : w.heap.size ≤ Af)); replace HB := Am (below_step (pE HB.out Ad.out) hb); have Ah := As; have Aj := Am ((by rw [hg]; exact Nat.ne_of_lt (kL Aa.out) : Ae ≠ Af)); have Ak := Am ((by rw [hg]; exact Nat.ne_of_gt (kL Aa.out) : Af ≠ Ae)); replace Aa := kBa Aa hb; clear hb hbox hg) | ((with_reducible refine gate_dst (N := 4) rfl ?_); refine box_event ?hg (N := 4) ?hd (cs := #[.int .i64 0, .int .i64 0, .slice none 0 0, .int .i64 0, .int .i64 0, .int .i64 0, .int .i64 0]) (t := 26) ?hr ?_; (case hd => rfl); (case hg => rfl); (case hr => first | (go_simp; done) | (go_simp; rfl)); intro Ab hg w20 hbox hb; replace HO0_2 := Am (Kd.V_below (Kd.V_elderB (pV HO0_2.out) Ab (Nat.le_of_eq hg.symm)) hb); have Ag := Am (hbox); have At := Am ((by rw [hg]; exact (below_size (pE2 HB.out Ad.out Ah.out)) : w.heap.size ≤ Ab)); replace HB := Am (below_step (pE2 HB.out Ad.out Ah.out) hb); have Ai := At; have Al := Am ((by rw [hg]; exact Nat.ne_of_lt (kL Aa.out) : Ae ≠ Ab)); have An := Am ((by rw [hg]; exact Nat.ne_of_gt (kL Aa.out) : Ab ≠ Ae)); replace Aa := kBa Aa hb; have Ao := Am ((by rw [hg]; exact Nat.ne_of_lt (kL Ac.out) : Af ≠ Ab)); have Ap := Am ((by rw [hg]; exact Nat.ne_of_gt (kL Ac.out) : Ab ≠ Af)); replace Ac := kBa Ac hb; clear hb hbox hg; have hnb21 := Ak.out; have hnc21 := Aj.out; have hnb22 := Ao.out; have hnc22 := Ap.out; obtain ⟨hcz23_0, hcz23_1, hcz23_2, hcz23_3, hcz23_4, hcz23_5, hcz23_6⟩ := bc7 Ac.out; obtain ⟨hfz23_0, hfz23_1, hfz23_2, hfz23_3, hfz23_4, hfz23_5, hfz23_6⟩ := bf7 Ac.out; have hnb24 := Al.out; have hnc24 := An.out; obtain ⟨hcz25_0, hcz25_1, hcz25_2, hcz25_3, hcz25_4, hcz25_5, hcz25_6⟩ := bc7 Aa.out; obtain ⟨hfz25_0, hfz25_1, hfz25_2, hfz25_3, hfz25_4, hfz25_5, hfz25_6⟩ := bf7 Aa.out) | ((with_reducible refine gate_callee (f := 15) rfl ?_); refine goesL_ (some 24) rfl rfl Try.func15 (by kernel_rfl) rfl #[.agg #[.int .i64 a0_0, .int .i64 a0_1, .slice A0_2 l0_2.length c0_2, .int .i64 a0_3, .int .i64 a0_4, .int .i64 a0_5, .int .i64 a0_6], .agg #[.int .i64 a1_2, .int .i64 a1_3, .int .i64 a1_4]] rfl pL ?_; (with_reducible refine (raft_Vote.calls k a0_0 a0_1 _ _ l0_2 a0_3 a0_4 a0_5 a0_6 a1_2 a1_3 a1_4 t291 t292 t293 t296 t297 t298 t299 t300 _ ?Au ?Av A17.out).mono ?_); (case Au => exact pC (Kd.V_reads' HO0_2.out).2.2); (case Av => exact (Kd.V_reads' HO0_2.out).2.1); rintro e w26 ⟨v294, rfl, ho0, hb⟩; refine ⟨_, rfl, ?_⟩; replace HO0_2 := Am (Kd.V_elder' (pV HO0_2.out) (Kd.N_base (Kd.S_N ho0)) hb); have A5 := Am (Kd.N_lower (Kd.N_mono (ok' := fun k_ => (P0_2_ k_ ∨ w.heap.size ≤ k_) ∧ k_ ≠ Ae ∧ k_ ≠ Af ∧ k_ ≠ Ab) (Kd.S_N (Kd.S_bound ho0)) (fun k_ hk_ => ⟨(.inr (Nat.le_trans (below_size (pE3 HB.out Ad.out Ah.out Ai.out)) hk_.2.1)), (kF Aa.out k_ hk_.2.1), (kF Ac.out k_ hk_.2.1), (kF Ag.out k_ hk_.2.1)⟩)) (below_size (pE3 HB.out Ad.out Ah.out Ai.out))); replace Aa := kBa Aa hb; replace Ac := kBa Ac hb; replace Ag := kBa Ag hb; replace HB := Am (below_step (pE3 HB.out Ad.out Ah.out Ai.out) hb); (try clear hb); (try clear hb2); (try clear hk); (try clear hi); (try clear ho0); obtain ⟨hcz27_0, hcz27_1, hcz27_2, hcz27_3, hcz27_4, hcz27_5, hcz27_6⟩ := bc7 Ag.out; obtain ⟨hfz27_0, hfz27_1, hfz27_2, hfz27_3, hfz27_4, hfz27_5, hfz27_6⟩ := bf7 Ag.out; obtain ⟨Bl, Bm, Bn⟩ := Kd.N_slice A5.out; subst Bn))
  refine bodyPost_ret (results_ct rfl _ _ Ab 26 #[.int .i64 t291, .int .i64 t292, .slice Bl t293.length Bm, .int .i64 t296, .int .i64 t297, .int .i64 t298, .int .i64 t299] (0, 0) _ rfl (kX0 Ag.out) Try.underlying26 rfl (by kernel_rfl)) rfl ?_
  exact ⟨_, pX, Kd.N_V (by (with_reducible repeat (first | apply Kd.N_alloc | apply Kd.N_drewN | apply Kd.N_drew)); exact Kd.N_mono (Nf7 (g := Ab) (Kd.N_mono A5.out (fun k_ hk => (⟨hk, hk.2.2.2⟩ : _ ∧ k_ ≠ Ab))) (fun _ hk => hk.2)) (fun _ hk => hk.1.1)), pE3 HB.out Ad.out Ah.out Ai.out⟩
 rw [if_neg c16] at H
 have c16b0 : (a1_0 == 1) = false := beq_eq_false_iff_ne.mpr c16
 have c16b1 : (a1_0 != 1) = true := bne_iff_ne.mpr c16
 by_cases c29 : a1_0 = 2
 ·rw [if_pos c29] at H
  have c29b0 : (a1_0 == 2) = true := beq_iff_eq.mpr c29
  have c29b1 : (a1_0 != 2) = false := bne_eq_false_iff_eq.mpr c29
  clear c29
  replace H := Option.bind_eq_some_iff.mp H
  obtain ⟨⟨t301, t302, t303, t306, t307, t308, t309, t310, t313⟩, A300, H⟩ := H
  replace H : (some (t301, t302, t303, t306, t307, t308, t309, t313)) = some (r1, r2, r3, r4, r5, r6, r7, r8) := H
  have A30 := Am A300
  clear A300
  simp only [Option.some.injEq, Prod.mk.injEq] at H
  obtain ⟨rfl, rfl, rfl, rfl, rfl, rfl, rfl, rfl⟩ := H
  go_enter Try.func11, Try.ntmps11
  go_wp2_with (first | ((with_reducible refine gate_dst (N := 2) rfl ?_); refine box_event ?hg (N := 2) ?hd (cs := #[.int .i64 a0_0, .int .i64 a0_1, .slice A0_2 l0_2.length c0_2, .int .i64 a0_3, .int .i64 a0_4, .int .i64 a0_5, .int .i64 a0_6]) (t := 26) ?hr ?_; (case hd => rfl); (case hg => rfl); (case hr => first | (go_simp; done) | (go_simp; rfl)); intro Ae hg w31 hbox hb; replace HO0_2 := Am (Kd.V_below (Kd.V_elderB (pV HO0_2.out) Ae (Nat.le_of_eq hg.symm)) hb); have Aa := Am (hbox); have Ar := Am ((by rw [hg]; exact (below_size (pB HB.out)) : w.heap.size ≤ Ae)); replace HB := Am (below_step (pB HB.out) hb); have Ad := Ar; clear hb hbox hg) | ((with_reducible refine gate_dst (N := 3) rfl ?_); refine box_event ?hg (N := 3) ?hd (cs := #[.int .i64 a1_0, .slice A1_1 l1_1.length c1_1, .int .i64 a1_2, .int .i64 a1_3, .int .i64 a1_4, .int .i64 a1_5, .int .i64 a1_6]) (t := 37) ?hr ?_; (case hd => rfl); (case hg => rfl); (case hr => first | (go_simp; done) | (go_simp; rfl)); intro Af hg w32 hbox hb; replace HO0_2 := Am (Kd.V_below (Kd.V_elderB (pV HO0_2.out) Af (Nat.le_of_eq hg.symm)) hb); have Ac := Am (hbox); have As := Am ((by rw [hg]; exact (below_size (pE HB.out Ad.out)) : w.heap.size ≤ Af)); replace HB := Am (below_step (pE HB.out Ad.out) hb); have Ah := As; have Aj := Am ((by rw [hg]; exact Nat.ne_of_lt (kL Aa.out) : Ae ≠ Af)); have Ak := Am ((by rw [hg]; exact Nat.ne_of_gt (kL Aa.out) : Af ≠ Ae)); replace Aa := kBa Aa hb; clear hb hbox hg) | ((with_reducible refine gate_dst (N := 4) rfl ?_); refine box_event ?hg (N := 4) ?hd (cs := #[.int .i64 0, .int .i64 0, .slice none 0 0, .int .i64 0, .int .i64 0, .int .i64 0, .int .i64 0]) (t := 26) ?hr ?_; (case hd => rfl); (case hg => rfl); (case hr => first | (go_simp; done) | (go_simp; rfl)); intro Ab hg w33 hbox hb; replace HO0_2 := Am (Kd.V_below (Kd.V_elderB (pV HO0_2.out) Ab (Nat.le_of_eq hg.symm)) hb); have Ag := Am (hbox); have At := Am ((by rw [hg]; exact (below_size (pE2 HB.out Ad.out Ah.out)) : w.heap.size ≤ Ab)); replace HB := Am (below_step (pE2 HB.out Ad.out Ah.out) hb); have Ai := At; have Al := Am ((by rw [hg]; exact Nat.ne_of_lt (kL Aa.out) : Ae ≠ Ab)); have An := Am ((by rw [hg]; exact Nat.ne_of_gt (kL Aa.out) : Ab ≠ Ae)); replace Aa := kBa Aa hb; have Ao := Am ((by rw [hg]; exact Nat.ne_of_lt (kL Ac.out) : Af ≠ Ab)); have Ap := Am ((by rw [hg]; exact Nat.ne_of_gt (kL Ac.out) : Ab ≠ Af)); replace Ac := kBa Ac hb; clear hb hbox hg; have hnb34 := Ak.out; have hnc34 := Aj.out; have hnb35 := Ao.out; have hnc35 := Ap.out; obtain ⟨hcz36_0, hcz36_1, hcz36_2, hcz36_3, hcz36_4, hcz36_5, hcz36_6⟩ := bc7 Ac.out; obtain ⟨hfz36_0, hfz36_1, hfz36_2, hfz36_3, hfz36_4, hfz36_5, hfz36_6⟩ := bf7 Ac.out; have hnb37 := Al.out; have hnc37 := An.out; obtain ⟨hcz38_0, hcz38_1, hcz38_2, hcz38_3, hcz38_4, hcz38_5, hcz38_6⟩ := bc7 Aa.out; obtain ⟨hfz38_0, hfz38_1, hfz38_2, hfz38_3, hfz38_4, hfz38_5, hfz38_6⟩ := bf7 Aa.out) | ((with_reducible refine gate_callee (f := 16) rfl ?_); refine goesL_ (some 33) rfl rfl Try.func16 (by kernel_rfl) rfl #[.agg #[.int .i64 a0_0, .int .i64 a0_1, .slice A0_2 l0_2.length c0_2, .int .i64 a0_3, .int .i64 a0_4, .int .i64 a0_5, .int .i64 a0_6], .int .i64 a1_5] rfl pL ?_; (with_reducible refine (raft_Apply.calls k a0_0 a0_1 _ _ l0_2 a0_3 a0_4 a0_5 a0_6 a1_5 t301 t302 t303 t306 t307 t308 t309 t310 t313 _ ?Au ?Av A30.out).mono ?_); (case Au => exact pC (Kd.V_reads' HO0_2.out).2.2); (case Av => exact (Kd.V_reads' HO0_2.out).2.1); rintro e w39 ⟨v304, v311, rfl, ho0, ho1, hb⟩; refine ⟨_, rfl, ?_⟩; replace HO0_2 := Am (Kd.V_mono (Kd.V_told (Kd.V_told (Kd.V_old (pV HO0_2.out) hb) (by first | exact Kd.N_base ho0 | exact Kd.N_base (Kd.S_N ho0))) (by first | exact Kd.N_base ho1 | exact Kd.N_base (Kd.S_N ho1))) (fun _ h_ => h_.1)); have Ax := Am (Kd.N_lower (Kd.N_mono (ok' := fun k_ => (P0_2_ k_ ∨ w.heap.size ≤ k_) ∧ some k_ ≠ (v311 : Value).ownBlock ∧ k_ ≠ Ae ∧ k_ ≠ Af ∧ k_ ≠ Ab) (Kd.S_N (Kd.S_bound ho0)) (fun k_ hk_ => ⟨(.inr (Nat.le_trans (below_size (pE3 HB.out Ad.out Ah.out Ai.out)) hk_.2.1)), hk_.1, (kF Aa.out k_ hk_.2.1), (kF Ac.out k_ hk_.2.1), (kF Ag.out k_ hk_.2.1)⟩)) (below_size (pE3 HB.out Ad.out Ah.out Ai.out))); have A6 := Am (Kd.N_lower (Kd.N_mono (ok' := fun k_ => (P0_2_ k_ ∨ w.heap.size ≤ k_) ∧ some k_ ≠ (v304 : Value).ownBlock ∧ k_ ≠ Ae ∧ k_ ≠ Af ∧ k_ ≠ Ab) (Kd.S_N (Kd.S_bound ho1)) (fun k_ hk_ => ⟨(.inr (Nat.le_trans (below_size (pE3 HB.out Ad.out Ah.out Ai.out)) hk_.2.1)), hk_.1, (kF Aa.out k_ hk_.2.1), (kF Ac.out k_ hk_.2.1), (kF Ag.out k_ hk_.2.1)⟩)) (below_size (pE3 HB.out Ad.out Ah.out Ai.out))); replace Aa := kBa Aa hb; replace Ac := kBa Ac hb; replace Ag := kBa Ag hb; replace HB := Am (below_step (pE3 HB.out Ad.out Ah.out Ai.out) hb); (try clear hb); (try clear hb2); (try clear hk); (try clear hi); (try clear ho0); (try clear ho1)) | ((with_reducible refine gate_dst (N := 6) rfl ?_); refine box_event ?hg (N := 6) ?hd (cs := #[.int .i64 0, .int .i64 0, .slice none 0 0, .int .i64 0, .int .i64 0, .int .i64 0, .int .i64 0]) (t := 26) ?hr ?_; (case hd => rfl); (case hg => rfl); (case hr => first | (go_simp; done) | (go_simp; rfl)); intro Aq hg w40 hbox hb; replace HO0_2 := Am (Kd.V_below (Kd.V_elderB (pV HO0_2.out) Aq (Nat.le_of_eq hg.symm)) hb); replace Ax := Am (Kd.N_below (Kd.N_elderB (pN Ax.out) Aq (Nat.le_of_eq hg.symm)) hb); replace A6 := Am (Kd.N_below (Kd.N_elderB (pN A6.out) Aq (Nat.le_of_eq hg.symm)) hb); have A7 := Am (hbox); have Bg := Am ((by rw [hg]; exact (below_size (pE3 HB.out Ad.out Ah.out Ai.out)) : w.heap.size ≤ Aq)); replace HB := Am (below_step (pE3 HB.out Ad.out Ah.out Ai.out) hb); have Bh := Bg; have Ay := Am ((by rw [hg]; exact Nat.ne_of_lt (kL Aa.out) : Ae ≠ Aq)); have Az := Am ((by rw [hg]; exact Nat.ne_of_gt (kL Aa.out) : Aq ≠ Ae)); replace Aa := kBa Aa hb; have A0 := Am ((by rw [hg]; exact Nat.ne_of_lt (kL Ac.out) : Af ≠ Aq)); have A1 := Am ((by rw [hg]; exact Nat.ne_of_gt (kL Ac.out) : Aq ≠ Af)); replace Ac := kBa Ac hb; have Aw := Am ((by rw [hg]; exact Nat.ne_of_lt (kL Ag.out) : Ab ≠ Aq)); have A2 := Am ((by rw [hg]; exact Nat.ne_of_gt (kL Ag.out) : Aq ≠ Ab)); replace Ag := kBa Ag hb; clear hb hbox hg; have hnb41 := Az.out; have hnc41 := Ay.out; have hnb42 := A1.out; have hnc42 := A0.out; have hnb43 := A2.out; have hnc43 := Aw.out; obtain ⟨hcz44_0, hcz44_1, hcz44_2, hcz44_3, hcz44_4, hcz44_5, hcz44_6⟩ := bc7 A7.out; obtain ⟨hfz44_0, hfz44_1, hfz44_2, hfz44_3, hfz44_4, hfz44_5, hfz44_6⟩ := bf7 A7.out; obtain ⟨Ba, Bb, Bo⟩ := Kd.N_slice Ax.out; subst Bo; obtain ⟨hcz46_0, hcz46_1, hcz46_2, hcz46_3, hcz46_4, hcz46_5, hcz46_6⟩ := bc7 Ag.out; obtain ⟨hfz46_0, hfz46_1, hfz46_2, hfz46_3, hfz46_4, hfz46_5, hfz46_6⟩ := bf7 Ag.out))
  refine bodyPost_ret (results_ct rfl _ _ Ab 26 #[.int .i64 t301, .int .i64 t302, .slice Ba t303.length Bb, .int .i64 t306, .int .i64 t307, .int .i64 t308, .int .i64 t309] (0, 0) _ rfl (kX1 Ag.out Aw.out) Try.underlying26 rfl (by kernel_rfl)) rfl ?_
  exact ⟨_, pX, Kd.N_V (by (with_reducible repeat (first | apply Kd.N_alloc | apply Kd.N_drewN | apply Kd.N_drew)); have h0_ := Kd.N_mono (Kd.N_mono Ax.out (fun k_ hk => (⟨hk, hk.2⟩ : _ ∧ k_ ≠ Aq))) (fun k_ hk => (⟨hk, hk.1.1.2.2.2.2⟩ : _ ∧ k_ ≠ Ab)); have h1_ := Kd.N_far (p := ⟨Aq, 0, none⟩) h0_ (fun _ hk => hk.1.2) (.int .i64 t301); have h2_ := Kd.N_far (p := ⟨Aq, 1, none⟩) h1_ (fun _ hk => hk.1.2) (.int .i64 t302); have h3_ := Kd.N_far (p := ⟨Aq, 2, none⟩) h2_ (fun _ hk => hk.1.2) (.slice Ba t303.length Bb); have h4_ := Kd.N_far (p := ⟨Aq, 3, none⟩) h3_ (fun _ hk => hk.1.2) (.int .i64 t306); have h5_ := Kd.N_far (p := ⟨Aq, 4, none⟩) h4_ (fun _ hk => hk.1.2) (.int .i64 t307); have h6_ := Kd.N_far (p := ⟨Aq, 5, none⟩) h5_ (fun _ hk => hk.1.2) (.int .i64 t308); have h7_ := Kd.N_far (p := ⟨Aq, 6, none⟩) h6_ (fun _ hk => hk.1.2) (.int .i64 t309); exact Kd.N_mono (Nf7 (g := Ab) (h7_) (fun _ hk => hk.2)) (fun _ hk => hk.1.1.1.1)), pE4 HB.out Ad.out Ah.out Ai.out Bh.out⟩
 rw [if_neg c29] at H
 have c29b0 : (a1_0 == 2) = false := beq_eq_false_iff_ne.mpr c29
 have c29b1 : (a1_0 != 2) = true := bne_iff_ne.mpr c29
 by_cases c47 : a1_0 = 3
 ·rw [if_pos c47] at H
  have c47b0 : (a1_0 == 3) = true := beq_iff_eq.mpr c47
  have c47b1 : (a1_0 != 3) = false := bne_eq_false_iff_eq.mpr c47
  clear c47
  replace H := Option.bind_eq_some_iff.mp H
  obtain ⟨⟨t315, t316, t317, t320, t321, t322, t323, t324⟩, A480, H⟩ := H
  replace H : (some (t315, t316, t317, t320, t321, t322, t323, t324)) = some (r1, r2, r3, r4, r5, r6, r7, r8) := H
  have A48 := Am A480
  clear A480
  simp only [Option.some.injEq, Prod.mk.injEq] at H
  obtain ⟨rfl, rfl, rfl, rfl, rfl, rfl, rfl, rfl⟩ := H
  go_enter Try.func11, Try.ntmps11
  go_wp2_with (first | ((with_reducible refine gate_dst (N := 2) rfl ?_); refine box_event ?hg (N := 2) ?hd (cs := #[.int .i64 a0_0, .int .i64 a0_1, .slice A0_2 l0_2.length c0_2, .int .i64 a0_3, .int .i64 a0_4, .int .i64 a0_5, .int .i64 a0_6]) (t := 26) ?hr ?_; (case hd => rfl); (case hg => rfl); (case hr => first | (go_simp; done) | (go_simp; rfl)); intro Ae hg w49 hbox hb; replace HO0_2 := Am (Kd.V_below (Kd.V_elderB (pV HO0_2.out) Ae (Nat.le_of_eq hg.symm)) hb); have Aa := Am (hbox); have Ar := Am ((by rw [hg]; exact (below_size (pB HB.out)) : w.heap.size ≤ Ae)); replace HB := Am (below_step (pB HB.out) hb); have Ad := Ar; clear hb hbox hg) | ((with_reducible refine gate_dst (N := 3) rfl ?_); refine box_event ?hg (N := 3) ?hd (cs := #[.int .i64 a1_0, .slice A1_1 l1_1.length c1_1, .int .i64 a1_2, .int .i64 a1_3, .int .i64 a1_4, .int .i64 a1_5, .int .i64 a1_6]) (t := 37) ?hr ?_; (case hd => rfl); (case hg => rfl); (case hr => first | (go_simp; done) | (go_simp; rfl)); intro Af hg w50 hbox hb; replace HO0_2 := Am (Kd.V_below (Kd.V_elderB (pV HO0_2.out) Af (Nat.le_of_eq hg.symm)) hb); have Ac := Am (hbox); have As := Am ((by rw [hg]; exact (below_size (pE HB.out Ad.out)) : w.heap.size ≤ Af)); replace HB := Am (below_step (pE HB.out Ad.out) hb); have Ah := As; have Aj := Am ((by rw [hg]; exact Nat.ne_of_lt (kL Aa.out) : Ae ≠ Af)); have Ak := Am ((by rw [hg]; exact Nat.ne_of_gt (kL Aa.out) : Af ≠ Ae)); replace Aa := kBa Aa hb; clear hb hbox hg) | ((with_reducible refine gate_dst (N := 4) rfl ?_); refine box_event ?hg (N := 4) ?hd (cs := #[.int .i64 0, .int .i64 0, .slice none 0 0, .int .i64 0, .int .i64 0, .int .i64 0, .int .i64 0]) (t := 26) ?hr ?_; (case hd => rfl); (case hg => rfl); (case hr => first | (go_simp; done) | (go_simp; rfl)); intro Ab hg w51 hbox hb; replace HO0_2 := Am (Kd.V_below (Kd.V_elderB (pV HO0_2.out) Ab (Nat.le_of_eq hg.symm)) hb); have Ag := Am (hbox); have At := Am ((by rw [hg]; exact (below_size (pE2 HB.out Ad.out Ah.out)) : w.heap.size ≤ Ab)); replace HB := Am (below_step (pE2 HB.out Ad.out Ah.out) hb); have Ai := At; have Al := Am ((by rw [hg]; exact Nat.ne_of_lt (kL Aa.out) : Ae ≠ Ab)); have An := Am ((by rw [hg]; exact Nat.ne_of_gt (kL Aa.out) : Ab ≠ Ae)); replace Aa := kBa Aa hb; have Ao := Am ((by rw [hg]; exact Nat.ne_of_lt (kL Ac.out) : Af ≠ Ab)); have Ap := Am ((by rw [hg]; exact Nat.ne_of_gt (kL Ac.out) : Ab ≠ Af)); replace Ac := kBa Ac hb; clear hb hbox hg; have hnb52 := Ak.out; have hnc52 := Aj.out; have hnb53 := Ao.out; have hnc53 := Ap.out; obtain ⟨hcz54_0, hcz54_1, hcz54_2, hcz54_3, hcz54_4, hcz54_5, hcz54_6⟩ := bc7 Ac.out; obtain ⟨hfz54_0, hfz54_1, hfz54_2, hfz54_3, hfz54_4, hfz54_5, hfz54_6⟩ := bf7 Ac.out; have hnb55 := Al.out; have hnc55 := An.out; obtain ⟨hcz56_0, hcz56_1, hcz56_2, hcz56_3, hcz56_4, hcz56_5, hcz56_6⟩ := bc7 Aa.out; obtain ⟨hfz56_0, hfz56_1, hfz56_2, hfz56_3, hfz56_4, hfz56_5, hfz56_6⟩ := bf7 Aa.out) | ((with_reducible refine gate_callee (f := 17) rfl ?_); refine goesL_ (some 44) rfl rfl Try.func17 (by kernel_rfl) rfl #[.agg #[.int .i64 a0_0, .int .i64 a0_1, .slice A0_2 l0_2.length c0_2, .int .i64 a0_3, .int .i64 a0_4, .int .i64 a0_5, .int .i64 a0_6], .int .i64 a1_5] rfl pL ?_; (with_reducible refine (raft_Compact.calls k a0_0 a0_1 _ _ l0_2 a0_3 a0_4 a0_5 a0_6 a1_5 t315 t316 t317 t320 t321 t322 t323 t324 _ ?Au ?Av A48.out).mono ?_); (case Au => exact pC (Kd.V_reads' HO0_2.out).2.2); (case Av => exact (Kd.V_reads' HO0_2.out).2.1); rintro e w57 ⟨v318, rfl, ho0, hb⟩; refine ⟨_, rfl, ?_⟩; replace HO0_2 := Am (Kd.V_elder' (pV HO0_2.out) (Kd.N_base (Kd.S_N ho0)) hb); have A8 := Am (Kd.N_lower (Kd.N_mono (ok' := fun k_ => (P0_2_ k_ ∨ w.heap.size ≤ k_) ∧ k_ ≠ Ae ∧ k_ ≠ Af ∧ k_ ≠ Ab) (Kd.S_N (Kd.S_bound ho0)) (fun k_ hk_ => ⟨(.inr (Nat.le_trans (below_size (pE3 HB.out Ad.out Ah.out Ai.out)) hk_.2.1)), (kF Aa.out k_ hk_.2.1), (kF Ac.out k_ hk_.2.1), (kF Ag.out k_ hk_.2.1)⟩)) (below_size (pE3 HB.out Ad.out Ah.out Ai.out))); replace Aa := kBa Aa hb; replace Ac := kBa Ac hb; replace Ag := kBa Ag hb; replace HB := Am (below_step (pE3 HB.out Ad.out Ah.out Ai.out) hb); (try clear hb); (try clear hb2); (try clear hk); (try clear hi); (try clear ho0); obtain ⟨hcz58_0, hcz58_1, hcz58_2, hcz58_3, hcz58_4, hcz58_5, hcz58_6⟩ := bc7 Ag.out; obtain ⟨hfz58_0, hfz58_1, hfz58_2, hfz58_3, hfz58_4, hfz58_5, hfz58_6⟩ := bf7 Ag.out; obtain ⟨Bp, Bq, Br⟩ := Kd.N_slice A8.out; subst Br))
  refine bodyPost_ret (results_ct rfl _ _ Ab 26 #[.int .i64 t315, .int .i64 t316, .slice Bp t317.length Bq, .int .i64 t320, .int .i64 t321, .int .i64 t322, .int .i64 t323] (0, 0) _ rfl (kX0 Ag.out) Try.underlying26 rfl (by kernel_rfl)) rfl ?_
  exact ⟨_, pX, Kd.N_V (by (with_reducible repeat (first | apply Kd.N_alloc | apply Kd.N_drewN | apply Kd.N_drew)); exact Kd.N_mono (Nf7 (g := Ab) (Kd.N_mono A8.out (fun k_ hk => (⟨hk, hk.2.2.2⟩ : _ ∧ k_ ≠ Ab))) (fun _ hk => hk.2)) (fun _ hk => hk.1.1)), pE3 HB.out Ad.out Ah.out Ai.out⟩
 rw [if_neg c47] at H
 have c47b0 : (a1_0 == 3) = false := beq_eq_false_iff_ne.mpr c47
 have c47b1 : (a1_0 != 3) = true := bne_iff_ne.mpr c47
 by_cases c60 : a1_0 = 4
 rotate_left
 ·rw [if_neg c60] at H
  have c60b0 : (a1_0 == 4) = false := beq_eq_false_iff_ne.mpr c60
  have c60b1 : (a1_0 != 4) = true := bne_iff_ne.mpr c60
  simp only [Option.some.injEq, Prod.mk.injEq] at H
  obtain ⟨rfl, rfl, rfl, rfl, rfl, rfl, rfl, rfl⟩ := H
  go_enter Try.func11, Try.ntmps11
  go_wp2_with (first | ((with_reducible refine gate_dst (N := 2) rfl ?_); refine box_event ?hg (N := 2) ?hd (cs := #[.int .i64 a0_0, .int .i64 a0_1, .slice A0_2 l0_2.length c0_2, .int .i64 a0_3, .int .i64 a0_4, .int .i64 a0_5, .int .i64 a0_6]) (t := 26) ?hr ?_; (case hd => rfl); (case hg => rfl); (case hr => first | (go_simp; done) | (go_simp; rfl)); intro Ae hg w73 hbox hb; replace HO0_2 := Am (Kd.V_below (Kd.V_elderB (pV HO0_2.out) Ae (Nat.le_of_eq hg.symm)) hb); have Aa := Am (hbox); have Ar := Am ((by rw [hg]; exact (below_size (pB HB.out)) : w.heap.size ≤ Ae)); replace HB := Am (below_step (pB HB.out) hb); have Ad := Ar; clear hb hbox hg) | ((with_reducible refine gate_dst (N := 3) rfl ?_); refine box_event ?hg (N := 3) ?hd (cs := #[.int .i64 a1_0, .slice A1_1 l1_1.length c1_1, .int .i64 a1_2, .int .i64 a1_3, .int .i64 a1_4, .int .i64 a1_5, .int .i64 a1_6]) (t := 37) ?hr ?_; (case hd => rfl); (case hg => rfl); (case hr => first | (go_simp; done) | (go_simp; rfl)); intro Af hg w74 hbox hb; replace HO0_2 := Am (Kd.V_below (Kd.V_elderB (pV HO0_2.out) Af (Nat.le_of_eq hg.symm)) hb); have Ac := Am (hbox); have As := Am ((by rw [hg]; exact (below_size (pE HB.out Ad.out)) : w.heap.size ≤ Af)); replace HB := Am (below_step (pE HB.out Ad.out) hb); have Ah := As; have Aj := Am ((by rw [hg]; exact Nat.ne_of_lt (kL Aa.out) : Ae ≠ Af)); have Ak := Am ((by rw [hg]; exact Nat.ne_of_gt (kL Aa.out) : Af ≠ Ae)); replace Aa := kBa Aa hb; clear hb hbox hg) | ((with_reducible refine gate_dst (N := 4) rfl ?_); refine box_event ?hg (N := 4) ?hd (cs := #[.int .i64 0, .int .i64 0, .slice none 0 0, .int .i64 0, .int .i64 0, .int .i64 0, .int .i64 0]) (t := 26) ?hr ?_; (case hd => rfl); (case hg => rfl); (case hr => first | (go_simp; done) | (go_simp; rfl)); intro Ab hg w75 hbox hb; replace HO0_2 := Am (Kd.V_below (Kd.V_elderB (pV HO0_2.out) Ab (Nat.le_of_eq hg.symm)) hb); have Ag := Am (hbox); have At := Am ((by rw [hg]; exact (below_size (pE2 HB.out Ad.out Ah.out)) : w.heap.size ≤ Ab)); replace HB := Am (below_step (pE2 HB.out Ad.out Ah.out) hb); have Ai := At; have Al := Am ((by rw [hg]; exact Nat.ne_of_lt (kL Aa.out) : Ae ≠ Ab)); have An := Am ((by rw [hg]; exact Nat.ne_of_gt (kL Aa.out) : Ab ≠ Ae)); replace Aa := kBa Aa hb; have Ao := Am ((by rw [hg]; exact Nat.ne_of_lt (kL Ac.out) : Af ≠ Ab)); have Ap := Am ((by rw [hg]; exact Nat.ne_of_gt (kL Ac.out) : Ab ≠ Af)); replace Ac := kBa Ac hb; clear hb hbox hg; have hnb76 := Ak.out; have hnc76 := Aj.out; have hnb77 := Ao.out; have hnc77 := Ap.out; obtain ⟨hcz78_0, hcz78_1, hcz78_2, hcz78_3, hcz78_4, hcz78_5, hcz78_6⟩ := bc7 Ac.out; obtain ⟨hfz78_0, hfz78_1, hfz78_2, hfz78_3, hfz78_4, hfz78_5, hfz78_6⟩ := bf7 Ac.out; have hnb79 := Al.out; have hnc79 := An.out; obtain ⟨hcz80_0, hcz80_1, hcz80_2, hcz80_3, hcz80_4, hcz80_5, hcz80_6⟩ := bc7 Aa.out; obtain ⟨hfz80_0, hfz80_1, hfz80_2, hfz80_3, hfz80_4, hfz80_5, hfz80_6⟩ := bf7 Aa.out; obtain ⟨hcz81_0, hcz81_1, hcz81_2, hcz81_3, hcz81_4, hcz81_5, hcz81_6⟩ := bc7 Ag.out; obtain ⟨hfz81_0, hfz81_1, hfz81_2, hfz81_3, hfz81_4, hfz81_5, hfz81_6⟩ := bf7 Ag.out))
  refine bodyPost_ret (results_ct rfl _ _ Ab 26 #[.int .i64 a0_0, .int .i64 a0_1, .slice A0_2 l0_2.length c0_2, .int .i64 a0_3, .int .i64 a0_4, .int .i64 a0_5, .int .i64 a0_6] (0, 0) _ rfl (kX0 Ag.out) Try.underlying26 rfl (by kernel_rfl)) rfl ?_
  exact ⟨_, pX, by (with_reducible repeat (first | apply Kd.V_alloc | apply Kd.V_drewN | apply Kd.V_drew)); exact Kd.V_mono (Vf7 (g := Ab) (Kd.V_mono HO0_2.out (fun k_ hk => (⟨hk, hk.2⟩ : _ ∧ k_ ≠ Ab))) (fun _ hk => hk.2)) (fun _ hk => hk.1.1.1.1), pE3 HB.out Ad.out Ah.out Ai.out⟩
 rw [if_pos c60] at H
 have c60b0 : (a1_0 == 4) = true := beq_iff_eq.mpr c60
 have c60b1 : (a1_0 != 4) = false := bne_eq_false_iff_eq.mpr c60
 clear c60
 replace H := Option.bind_eq_some_iff.mp H
 obtain ⟨⟨t325, t326, t327, t330, t331, t332, t333, t334⟩, A610, H⟩ := H
 replace H : (some (t325, t326, t327, t330, t331, t332, t333, t334)) = some (r1, r2, r3, r4, r5, r6, r7, r8) := H
 have A61 := Am A610
 clear A610
 simp only [Option.some.injEq, Prod.mk.injEq] at H
 obtain ⟨rfl, rfl, rfl, rfl, rfl, rfl, rfl, rfl⟩ := H
 go_enter Try.func11, Try.ntmps11
 go_wp2_with (first | ((with_reducible refine gate_dst (N := 2) rfl ?_); refine box_event ?hg (N := 2) ?hd (cs := #[.int .i64 a0_0, .int .i64 a0_1, .slice A0_2 l0_2.length c0_2, .int .i64 a0_3, .int .i64 a0_4, .int .i64 a0_5, .int .i64 a0_6]) (t := 26) ?hr ?_; (case hd => rfl); (case hg => rfl); (case hr => first | (go_simp; done) | (go_simp; rfl)); intro Ae hg w62 hbox hb; replace HO0_2 := Am (Kd.V_below (Kd.V_elderB (pV HO0_2.out) Ae (Nat.le_of_eq hg.symm)) hb); have Aa := Am (hbox); have Ar := Am ((by rw [hg]; exact (below_size (pB HB.out)) : w.heap.size ≤ Ae)); replace HB := Am (below_step (pB HB.out) hb); have Ad := Ar; clear hb hbox hg) | ((with_reducible refine gate_dst (N := 3) rfl ?_); refine box_event ?hg (N := 3) ?hd (cs := #[.int .i64 a1_0, .slice A1_1 l1_1.length c1_1, .int .i64 a1_2, .int .i64 a1_3, .int .i64 a1_4, .int .i64 a1_5, .int .i64 a1_6]) (t := 37) ?hr ?_; (case hd => rfl); (case hg => rfl); (case hr => first | (go_simp; done) | (go_simp; rfl)); intro Af hg w63 hbox hb; replace HO0_2 := Am (Kd.V_below (Kd.V_elderB (pV HO0_2.out) Af (Nat.le_of_eq hg.symm)) hb); have Ac := Am (hbox); have As := Am ((by rw [hg]; exact (below_size (pE HB.out Ad.out)) : w.heap.size ≤ Af)); replace HB := Am (below_step (pE HB.out Ad.out) hb); have Ah := As; have Aj := Am ((by rw [hg]; exact Nat.ne_of_lt (kL Aa.out) : Ae ≠ Af)); have Ak := Am ((by rw [hg]; exact Nat.ne_of_gt (kL Aa.out) : Af ≠ Ae)); replace Aa := kBa Aa hb; clear hb hbox hg) | ((with_reducible refine gate_dst (N := 4) rfl ?_); refine box_event ?hg (N := 4) ?hd (cs := #[.int .i64 0, .int .i64 0, .slice none 0 0, .int .i64 0, .int .i64 0, .int .i64 0, .int .i64 0]) (t := 26) ?hr ?_; (case hd => rfl); (case hg => rfl); (case hr => first | (go_simp; done) | (go_simp; rfl)); intro Ab hg w64 hbox hb; replace HO0_2 := Am (Kd.V_below (Kd.V_elderB (pV HO0_2.out) Ab (Nat.le_of_eq hg.symm)) hb); have Ag := Am (hbox); have At := Am ((by rw [hg]; exact (below_size (pE2 HB.out Ad.out Ah.out)) : w.heap.size ≤ Ab)); replace HB := Am (below_step (pE2 HB.out Ad.out Ah.out) hb); have Ai := At; have Al := Am ((by rw [hg]; exact Nat.ne_of_lt (kL Aa.out) : Ae ≠ Ab)); have An := Am ((by rw [hg]; exact Nat.ne_of_gt (kL Aa.out) : Ab ≠ Ae)); replace Aa := kBa Aa hb; have Ao := Am ((by rw [hg]; exact Nat.ne_of_lt (kL Ac.out) : Af ≠ Ab)); have Ap := Am ((by rw [hg]; exact Nat.ne_of_gt (kL Ac.out) : Ab ≠ Af)); replace Ac := kBa Ac hb; clear hb hbox hg; have hnb65 := Ak.out; have hnc65 := Aj.out; have hnb66 := Ao.out; have hnc66 := Ap.out; obtain ⟨hcz67_0, hcz67_1, hcz67_2, hcz67_3, hcz67_4, hcz67_5, hcz67_6⟩ := bc7 Ac.out; obtain ⟨hfz67_0, hfz67_1, hfz67_2, hfz67_3, hfz67_4, hfz67_5, hfz67_6⟩ := bf7 Ac.out; have hnb68 := Al.out; have hnc68 := An.out; obtain ⟨hcz69_0, hcz69_1, hcz69_2, hcz69_3, hcz69_4, hcz69_5, hcz69_6⟩ := bc7 Aa.out; obtain ⟨hfz69_0, hfz69_1, hfz69_2, hfz69_3, hfz69_4, hfz69_5, hfz69_6⟩ := bf7 Aa.out) | ((with_reducible refine gate_callee (f := 18) rfl ?_); refine goesL_ (some 54) rfl rfl Try.func18 (by kernel_rfl) rfl #[.agg #[.int .i64 a0_0, .int .i64 a0_1, .slice A0_2 l0_2.length c0_2, .int .i64 a0_3, .int .i64 a0_4, .int .i64 a0_5, .int .i64 a0_6], .int .i64 a1_5, .int .i64 a1_6] rfl pL ?_; (with_reducible refine (raft_Reset.calls k a0_0 a0_1 _ _ l0_2 a0_3 a0_4 a0_5 a0_6 a1_5 a1_6 t325 t326 t327 t330 t331 t332 t333 t334 _ ?Au ?Av A61.out).mono ?_); (case Au => exact pC (Kd.V_reads' HO0_2.out).2.2); (case Av => exact (Kd.V_reads' HO0_2.out).2.1); rintro e w70 ⟨v328, rfl, ho0, hb⟩; refine ⟨_, rfl, ?_⟩; replace HO0_2 := Am (Kd.V_elder' (pV HO0_2.out) (Kd.N_base (Kd.S_N ho0)) hb); have A9 := Am (Kd.N_lower (Kd.N_mono (ok' := fun k_ => (P0_2_ k_ ∨ w.heap.size ≤ k_) ∧ k_ ≠ Ae ∧ k_ ≠ Af ∧ k_ ≠ Ab) (Kd.S_N (Kd.S_bound ho0)) (fun k_ hk_ => ⟨(.inr (Nat.le_trans (below_size (pE3 HB.out Ad.out Ah.out Ai.out)) hk_.2.1)), (kF Aa.out k_ hk_.2.1), (kF Ac.out k_ hk_.2.1), (kF Ag.out k_ hk_.2.1)⟩)) (below_size (pE3 HB.out Ad.out Ah.out Ai.out))); replace Aa := kBa Aa hb; replace Ac := kBa Ac hb; replace Ag := kBa Ag hb; replace HB := Am (below_step (pE3 HB.out Ad.out Ah.out Ai.out) hb); (try clear hb); (try clear hb2); (try clear hk); (try clear hi); (try clear ho0); obtain ⟨hcz71_0, hcz71_1, hcz71_2, hcz71_3, hcz71_4, hcz71_5, hcz71_6⟩ := bc7 Ag.out; obtain ⟨hfz71_0, hfz71_1, hfz71_2, hfz71_3, hfz71_4, hfz71_5, hfz71_6⟩ := bf7 Ag.out; obtain ⟨Bs, Bt, Bu⟩ := Kd.N_slice A9.out; subst Bu))
 refine bodyPost_ret (results_ct rfl _ _ Ab 26 #[.int .i64 t325, .int .i64 t326, .slice Bs t327.length Bt, .int .i64 t330, .int .i64 t331, .int .i64 t332, .int .i64 t333] (0, 0) _ rfl (kX0 Ag.out) Try.underlying26 rfl (by kernel_rfl)) rfl ?_
 exact ⟨_, pX, Kd.N_V (by (with_reducible repeat (first | apply Kd.N_alloc | apply Kd.N_drewN | apply Kd.N_drew)); exact Kd.N_mono (Nf7 (g := Ab) (Kd.N_mono A9.out (fun k_ hk => (⟨hk, hk.2.2.2⟩ : _ ∧ k_ ≠ Ab))) (fun _ hk => hk.2)) (fun _ hk => hk.1.1)), pE3 HB.out Ad.out Ah.out Ai.out⟩
def raft_Get.f (k : Nat) (a0_0 : Int) (a0_1 : Int) (l0_2 : List (S46)) (a0_3 : Int) (a0_4 : Int) (a0_5 : Int) (a0_6 : Int) (a1 : Int) : Option (Int × Int × Int × ByteArray × Bool × List Int × Int × Int × Int × Int × Int) := (raft_Last.f k a0_0 a0_1 l0_2 a0_3 a0_4 a0_5 a0_6).bind fun bt337 => ((raft_Check.f k a0_0 a0_1 l0_2 a0_3 a0_4 a0_5 a0_6).bind fun t339 => (if t339 = 0 then (if a1 ≤ a0_0 then (some (0, 0, 0, (⟨#[]⟩ : ByteArray), false, ([] : List Int), 0, 0, 0, 0, 4)) else (if a1 > bt337.1 then (some (0, 0, 0, (⟨#[]⟩ : ByteArray), false, ([] : List Int), 0, 0, 0, 0, 3)) else (if 0 ≤ (wrap64 ((wrap64 (a1 - a0_0)) - 1)) then (if (wrap64 ((wrap64 (a1 - a0_0)) - 1)) < (l0_2.length : Int) then ((raft_own.f ((rd_T46 l0_2 (wrap64 ((wrap64 (a1 - a0_0)) - 1))).f0) ((rd_T46 l0_2 (wrap64 ((wrap64 (a1 - a0_0)) - 1))).f1) ((rd_T46 l0_2 (wrap64 ((wrap64 (a1 - a0_0)) - 1))).f2) ((rd_T46 l0_2 (wrap64 ((wrap64 (a1 - a0_0)) - 1))).f3) ((rd_T46 l0_2 (wrap64 ((wrap64 (a1 - a0_0)) - 1))).f4.f0) ((rd_T46 l0_2 (wrap64 ((wrap64 (a1 - a0_0)) - 1))).f4.f1) ((rd_T46 l0_2 (wrap64 ((wrap64 (a1 - a0_0)) - 1))).f4.f2.f0) ((rd_T46 l0_2 (wrap64 ((wrap64 (a1 - a0_0)) - 1))).f4.f2.f1) ((rd_T46 l0_2 (wrap64 ((wrap64 (a1 - a0_0)) - 1))).f4.f2.f2) ((rd_T46 l0_2 (wrap64 ((wrap64 (a1 - a0_0)) - 1))).f4.f2.f3)).bind fun bt341 => (some (bt341.1, bt341.2.1, bt341.2.2.1, bt341.2.2.2.1, bt341.2.2.2.2.1, bt341.2.2.2.2.2.1, bt341.2.2.2.2.2.2.1, bt341.2.2.2.2.2.2.2.1, bt341.2.2.2.2.2.2.2.2.1, bt341.2.2.2.2.2.2.2.2.2, 0))) else (none)) else (none)))) else (some (0, 0, 0, (⟨#[]⟩ : ByteArray), false, ([] : List Int), 0, 0, 0, 0, 1))))
theorem raft_Get.mono : ∀ a0 a1 a2 a3 a4 a5 a6 a7 k, LeO (raft_Get.f k a0 a1 a2 a3 a4 a5 a6 a7) (raft_Get.f (k + 1) a0 a1 a2 a3 a4 a5 a6 a7) := by
 intro a0 a1 a2 a3 a4 a5 a6 a7 k
 unfold raft_Get.f
 repeat' first
   | (with_reducible exact raft_Check.mono _ _ _ _ _ _ _ _)
   | (with_reducible exact raft_Last.mono _ _ _ _ _ _ _ _)
   | (with_reducible exact LeO.refl _)
   | (with_reducible exact LeO.none _)
   | (with_reducible refine LeO.ite ?_ ?_)
   | (with_reducible refine LeO.bind ?_ (fun _ => ?_))
   | exact raft_Check.mono _ _ _ _ _ _ _ _
   | exact raft_Last.mono _ _ _ _ _ _ _ _
   | exact LeO.none _
   | refine LeO.ite ?_ ?_
   | refine LeO.bind ?_ (fun _ => ?_)
set_option maxHeartbeats 8000000 in
set_option maxRecDepth 100000 in
theorem raft_Get.calls (k : Nat) (a0_0 : Int) (a0_1 : Int) (A0_2 : Option Addr) (c0_2 : Nat) (l0_2 : List (S46)) (a0_3 : Int) (a0_4 : Int) (a0_5 : Int) (a0_6 : Int) (a1 : Int) (r1 : Int) (r2 : Int) (r3 : Int) (r4 : ByteArray) (r5 : Bool) (r6 : List Int) (r7 : Int) (r8 : Int) (r9 : Int) (r10 : Int) (r11 : Int) (w : World) (hr0_2 : Kd.C k46 w A0_2 l0_2.length l0_2) (hc0_2 : l0_2.length ≤ c0_2) (h : raft_Get.f k a0_0 a0_1 l0_2 a0_3 a0_4 a0_5 a0_6 a1 = some (r1, r2, r3, r4, r5, r6, r7, r8, r9, r10, r11)) :
  Calls Try.prog 12 #[.agg #[.int .i64 a0_0, .int .i64 a0_1, .slice A0_2 l0_2.length c0_2, .int .i64 a0_3, .int .i64 a0_4, .int .i64 a0_5, .int .i64 a0_6], .int .i64 a1] w fun e w' => ∃ v5_ : Value, e = .returned (.tuple #[.agg #[.int .i64 r1, .int .i64 r2, .int .i64 r3, .string r4, .bool r5, v5_, .int .i64 r7, .int .i64 r8, .int .i64 r9, .int .u32 r10], .int .i64 r11]) ∧ Kd.R (Kd.int .u8) 5 w' w.heap.size (fun _ => True) v5_ r6 ∧ Below w.heap.size w w' := by
 have hu26 := Try.underlying26
 have hu46 := Try.underlying46
 have Ak := Am hr0_2
 have Al := Am hc0_2
 clear hr0_2 hc0_2
 have HB := Am (Below.refl w.heap.size w)
 have H : ((raft_Last.f k a0_0 a0_1 l0_2 a0_3 a0_4 a0_5 a0_6).bind fun bt337 => ((raft_Check.f k a0_0 a0_1 l0_2 a0_3 a0_4 a0_5 a0_6).bind fun t339 => (if t339 = 0 then (if a1 ≤ a0_0 then (some (0, 0, 0, (⟨#[]⟩ : ByteArray), false, ([] : List Int), 0, 0, 0, 0, 4)) else (if a1 > bt337.1 then (some (0, 0, 0, (⟨#[]⟩ : ByteArray), false, ([] : List Int), 0, 0, 0, 0, 3)) else (if 0 ≤ (wrap64 ((wrap64 (a1 - a0_0)) - 1)) then (if (wrap64 ((wrap64 (a1 - a0_0)) - 1)) < (l0_2.length : Int) then ((raft_own.f ((rd_T46 l0_2 (wrap64 ((wrap64 (a1 - a0_0)) - 1))).f0) ((rd_T46 l0_2 (wrap64 ((wrap64 (a1 - a0_0)) - 1))).f1) ((rd_T46 l0_2 (wrap64 ((wrap64 (a1 - a0_0)) - 1))).f2) ((rd_T46 l0_2 (wrap64 ((wrap64 (a1 - a0_0)) - 1))).f3) ((rd_T46 l0_2 (wrap64 ((wrap64 (a1 - a0_0)) - 1))).f4.f0) ((rd_T46 l0_2 (wrap64 ((wrap64 (a1 - a0_0)) - 1))).f4.f1) ((rd_T46 l0_2 (wrap64 ((wrap64 (a1 - a0_0)) - 1))).f4.f2.f0) ((rd_T46 l0_2 (wrap64 ((wrap64 (a1 - a0_0)) - 1))).f4.f2.f1) ((rd_T46 l0_2 (wrap64 ((wrap64 (a1 - a0_0)) - 1))).f4.f2.f2) ((rd_T46 l0_2 (wrap64 ((wrap64 (a1 - a0_0)) - 1))).f4.f2.f3)).bind fun bt341 => (some (bt341.1, bt341.2.1, bt341.2.2.1, bt341.2.2.2.1, bt341.2.2.2.2.1, bt341.2.2.2.2.2.1, bt341.2.2.2.2.2.2.1, bt341.2.2.2.2.2.2.2.1, bt341.2.2.2.2.2.2.2.2.1, bt341.2.2.2.2.2.2.2.2.2, 0))) else (none)) else (none)))) else (some (0, 0, 0, (⟨#[]⟩ : ByteArray), false, ([] : List Int), 0, 0, 0, 0, 1))))) = some (r1, r2, r3, r4, r5, r6, r7, r8, r9, r10, r11) := h
 clear h
 replace H := Option.bind_eq_some_iff.mp H
 obtain ⟨⟨t337, t338⟩, A30, H⟩ := H
 replace H : ((raft_Check.f k a0_0 a0_1 l0_2 a0_3 a0_4 a0_5 a0_6).bind fun t339 => (if t339 = 0 then (if a1 ≤ a0_0 then (some (0, 0, 0, (⟨#[]⟩ : ByteArray), false, ([] : List Int), 0, 0, 0, 0, 4)) else (if a1 > t337 then (some (0, 0, 0, (⟨#[]⟩ : ByteArray), false, ([] : List Int), 0, 0, 0, 0, 3)) else (if 0 ≤ (wrap64 ((wrap64 (a1 - a0_0)) - 1)) then (if (wrap64 ((wrap64 (a1 - a0_0)) - 1)) < (l0_2.length : Int) then ((raft_own.f ((rd_T46 l0_2 (wrap64 ((wrap64 (a1 - a0_0)) - 1))).f0) ((rd_T46 l0_2 (wrap64 ((wrap64 (a1 - a0_0)) - 1))).f1) ((rd_T46 l0_2 (wrap64 ((wrap64 (a1 - a0_0)) - 1))).f2) ((rd_T46 l0_2 (wrap64 ((wrap64 (a1 - a0_0)) - 1))).f3) ((rd_T46 l0_2 (wrap64 ((wrap64 (a1 - a0_0)) - 1))).f4.f0) ((rd_T46 l0_2 (wrap64 ((wrap64 (a1 - a0_0)) - 1))).f4.f1) ((rd_T46 l0_2 (wrap64 ((wrap64 (a1 - a0_0)) - 1))).f4.f2.f0) ((rd_T46 l0_2 (wrap64 ((wrap64 (a1 - a0_0)) - 1))).f4.f2.f1) ((rd_T46 l0_2 (wrap64 ((wrap64 (a1 - a0_0)) - 1))).f4.f2.f2) ((rd_T46 l0_2 (wrap64 ((wrap64 (a1 - a0_0)) - 1))).f4.f2.f3)).bind fun bt341 => (some (bt341.1, bt341.2.1, bt341.2.2.1, bt341.2.2.2.1, bt341.2.2.2.2.1, bt341.2.2.2.2.2.1, bt341.2.2.2.2.2.2.1, bt341.2.2.2.2.2.2.2.1, bt341.2.2.2.2.2.2.2.2.1, bt341.2.2.2.2.2.2.2.2.2, 0))) else (none)) else (none)))) else (some (0, 0, 0, (⟨#[]⟩ : ByteArray), false, ([] : List Int), 0, 0, 0, 0, 1)))) = some (r1, r2, r3, r4, r5, r6, r7, r8, r9, r10, r11) := H
 have A3 := Am A30
 clear A30
 replace H := Option.bind_eq_some_iff.mp H
 obtain ⟨t339, A40, H⟩ := H
 replace H : (if t339 = 0 then (if a1 ≤ a0_0 then (some (0, 0, 0, (⟨#[]⟩ : ByteArray), false, ([] : List Int), 0, 0, 0, 0, 4)) else (if a1 > t337 then (some (0, 0, 0, (⟨#[]⟩ : ByteArray), false, ([] : List Int), 0, 0, 0, 0, 3)) else (if 0 ≤ (wrap64 ((wrap64 (a1 - a0_0)) - 1)) then (if (wrap64 ((wrap64 (a1 - a0_0)) - 1)) < (l0_2.length : Int) then ((raft_own.f ((rd_T46 l0_2 (wrap64 ((wrap64 (a1 - a0_0)) - 1))).f0) ((rd_T46 l0_2 (wrap64 ((wrap64 (a1 - a0_0)) - 1))).f1) ((rd_T46 l0_2 (wrap64 ((wrap64 (a1 - a0_0)) - 1))).f2) ((rd_T46 l0_2 (wrap64 ((wrap64 (a1 - a0_0)) - 1))).f3) ((rd_T46 l0_2 (wrap64 ((wrap64 (a1 - a0_0)) - 1))).f4.f0) ((rd_T46 l0_2 (wrap64 ((wrap64 (a1 - a0_0)) - 1))).f4.f1) ((rd_T46 l0_2 (wrap64 ((wrap64 (a1 - a0_0)) - 1))).f4.f2.f0) ((rd_T46 l0_2 (wrap64 ((wrap64 (a1 - a0_0)) - 1))).f4.f2.f1) ((rd_T46 l0_2 (wrap64 ((wrap64 (a1 - a0_0)) - 1))).f4.f2.f2) ((rd_T46 l0_2 (wrap64 ((wrap64 (a1 - a0_0)) - 1))).f4.f2.f3)).bind fun bt341 => (some (bt341.1, bt341.2.1, bt341.2.2.1, bt341.2.2.2.1, bt341.2.2.2.2.1, bt341.2.2.2.2.2.1, bt341.2.2.2.2.2.2.1, bt341.2.2.2.2.2.2.2.1, bt341.2.2.2.2.2.2.2.2.1, bt341.2.2.2.2.2.2.2.2.2, 0))) else (none)) else (none)))) else (some (0, 0, 0, (⟨#[]⟩ : ByteArray), false, ([] : List Int), 0, 0, 0, 0, 1))) = some (r1, r2, r3, r4, r5, r6, r7, r8, r9, r10, r11) := H
 have A4 := Am A40
 clear A40
 by_cases c5 : t339 = 0
 rotate_left
 ·rw [if_neg c5] at H
  have c5b0 : (t339 == 0) = false := beq_eq_false_iff_ne.mpr c5
  have c5b1 : (t339 != 0) = true := bne_iff_ne.mpr c5
  simp only [Option.some.injEq, Prod.mk.injEq] at H
  obtain ⟨rfl, rfl, rfl, rfl, rfl, rfl, rfl, rfl, rfl, rfl, rfl⟩ := H
  go_enter Try.func12, Try.ntmps12
  go_wp2_with (first | ((with_reducible refine gate_dst (N := 2) rfl ?_); refine box_event ?hg (N := 2) ?hd (cs := #[.int .i64 a0_0, .int .i64 a0_1, .slice A0_2 l0_2.length c0_2, .int .i64 a0_3, .int .i64 a0_4, .int .i64 a0_5, .int .i64 a0_6]) (t := 26) ?hr ?_; (case hd => rfl); (case hg => rfl); (case hr => first | (go_simp; done) | (go_simp; rfl)); intro Aj hg w41 hbox hb; have Aa := Am (hbox); have An := Am ((by rw [hg]; exact (below_size (pB HB.out)) : w.heap.size ≤ Aj)); replace HB := Am (below_step (pB HB.out) hb); have Ac := An; clear hb hbox hg) | ((with_reducible refine gate_dst (N := 4) rfl ?_); refine box_event ?hg (N := 4) ?hd (cs := #[.int .i64 0, .int .i64 0, .int .i64 0, .string (⟨#[]⟩ : ByteArray), .bool false, .slice none 0 0, .int .i64 0, .int .i64 0, .int .i64 0, .int .u32 0]) (t := 46) ?hr ?_; (case hd => rfl); (case hg => rfl); (case hr => first | (go_simp; done) | (go_simp; rfl)); intro Ad hg w42 hbox hb; have Ab := Am (hbox); have Ao := Am ((by rw [hg]; exact (below_size (pE HB.out Ac.out)) : w.heap.size ≤ Ad)); replace HB := Am (below_step (pE HB.out Ac.out) hb); have Ag := Ao; have Ae := Am ((by rw [hg]; exact Nat.ne_of_lt (kL Aa.out) : Aj ≠ Ad)); have Af := Am ((by rw [hg]; exact Nat.ne_of_gt (kL Aa.out) : Ad ≠ Aj)); replace Aa := kBa Aa hb; clear hb hbox hg; have hnb43 := Ae.out; have hnc43 := Af.out; obtain ⟨hcz44_0, hcz44_1, hcz44_2, hcz44_3, hcz44_4, hcz44_5, hcz44_6⟩ := bc7 Aa.out; obtain ⟨hfz44_0, hfz44_1, hfz44_2, hfz44_3, hfz44_4, hfz44_5, hfz44_6⟩ := bf7 Aa.out) | ((with_reducible refine gate_callee (f := 24) rfl ?_); refine goesL_ (some 10) rfl rfl Try.func24 (by kernel_rfl) rfl #[.agg #[.int .i64 a0_0, .int .i64 a0_1, .slice A0_2 l0_2.length c0_2, .int .i64 a0_3, .int .i64 a0_4, .int .i64 a0_5, .int .i64 a0_6]] rfl pL ?_; (with_reducible refine (raft_Last.calls k a0_0 a0_1 _ _ l0_2 a0_3 a0_4 a0_5 a0_6 t337 t338 _ ?Ah ?Ai A3.out).mono ?_); (case Ah => exact pC (Kd.C_below Ak.out HB.out)); (case Ai => exact Al.out); rintro e w45 ⟨rfl, hb⟩; refine ⟨_, rfl, ?_⟩; replace Aa := kBa Aa hb; replace Ab := kBa Ab hb; replace HB := Am (below_step (pE2 HB.out Ac.out Ag.out) hb); (try clear hb); (try clear hb2); (try clear hk); (try clear hi); obtain ⟨hcz46_0, hcz46_1, hcz46_2, hcz46_3, hcz46_4, hcz46_5, hcz46_6⟩ := bc7 Aa.out; obtain ⟨hfz46_0, hfz46_1, hfz46_2, hfz46_3, hfz46_4, hfz46_5, hfz46_6⟩ := bf7 Aa.out) | ((with_reducible refine gate_callee (f := 25) rfl ?_); refine goesL_ (some 15) rfl rfl Try.func25 (by kernel_rfl) rfl #[.agg #[.int .i64 a0_0, .int .i64 a0_1, .slice A0_2 l0_2.length c0_2, .int .i64 a0_3, .int .i64 a0_4, .int .i64 a0_5, .int .i64 a0_6]] rfl pL ?_; (with_reducible refine (raft_Check.calls k a0_0 a0_1 _ _ l0_2 a0_3 a0_4 a0_5 a0_6 t339 _ ?Ah ?Ai A4.out).mono ?_); (case Ah => exact pC (Kd.C_below Ak.out HB.out)); (case Ai => exact Al.out); rintro e w47 ⟨rfl, hb⟩; refine ⟨_, rfl, ?_⟩; replace Aa := kBa Aa hb; replace Ab := kBa Ab hb; replace HB := Am (below_step (pE2 HB.out Ac.out Ag.out) hb); (try clear hb); (try clear hb2); (try clear hk); (try clear hi); obtain ⟨hcz48_0, hcz48_1, hcz48_2, hcz48_3, hcz48_4, hcz48_5, hcz48_6, hcz48_7, hcz48_8, hcz48_9⟩ := bc10 Ab.out; obtain ⟨hfz48_0, hfz48_1, hfz48_2, hfz48_3, hfz48_4, hfz48_5, hfz48_6, hfz48_7, hfz48_8, hfz48_9⟩ := bf10 Ab.out))
  refine bodyPost_ret (results_ct rfl _ _ Ad 46 #[.int .i64 0, .int .i64 0, .int .i64 0, .string (⟨#[]⟩ : ByteArray), .bool false, .slice none 0 0, .int .i64 0, .int .i64 0, .int .i64 0, .int .u32 0] (0, 0) _ rfl (kX0 Ab.out) Try.underlying46 rfl (by kernel_rfl)) rfl ?_
  exact ⟨_, pX, by first | exact Kd.R_nil _ _ _ _ _ | exact Kd.N_nil _ _ _ _ _ | exact Kd.V_nil _ _ _ _ _ | exact Kd.Q_nil _ _ _ _ _ | exact Kd.S_nil _ _ _ _ _, pE2 HB.out Ac.out Ag.out⟩
 rw [if_pos c5] at H
 have c5b0 : (t339 == 0) = true := beq_iff_eq.mpr c5
 have c5b1 : (t339 != 0) = false := bne_eq_false_iff_eq.mpr c5
 clear c5
 by_cases c6 : a1 ≤ a0_0
 ·rw [if_pos c6] at H
  have c6b0 : decide (a1 ≤ a0_0) = true := decide_eq_true c6
  clear c6
  simp only [Option.some.injEq, Prod.mk.injEq] at H
  obtain ⟨rfl, rfl, rfl, rfl, rfl, rfl, rfl, rfl, rfl, rfl, rfl⟩ := H
  go_enter Try.func12, Try.ntmps12
  go_wp2_with (first | ((with_reducible refine gate_dst (N := 2) rfl ?_); refine box_event ?hg (N := 2) ?hd (cs := #[.int .i64 a0_0, .int .i64 a0_1, .slice A0_2 l0_2.length c0_2, .int .i64 a0_3, .int .i64 a0_4, .int .i64 a0_5, .int .i64 a0_6]) (t := 26) ?hr ?_; (case hd => rfl); (case hg => rfl); (case hr => first | (go_simp; done) | (go_simp; rfl)); intro Aj hg w7 hbox hb; have Aa := Am (hbox); have An := Am ((by rw [hg]; exact (below_size (pB HB.out)) : w.heap.size ≤ Aj)); replace HB := Am (below_step (pB HB.out) hb); have Ac := An; clear hb hbox hg) | ((with_reducible refine gate_dst (N := 4) rfl ?_); refine box_event ?hg (N := 4) ?hd (cs := #[.int .i64 0, .int .i64 0, .int .i64 0, .string (⟨#[]⟩ : ByteArray), .bool false, .slice none 0 0, .int .i64 0, .int .i64 0, .int .i64 0, .int .u32 0]) (t := 46) ?hr ?_; (case hd => rfl); (case hg => rfl); (case hr => first | (go_simp; done) | (go_simp; rfl)); intro Ad hg w8 hbox hb; have Ab := Am (hbox); have Ao := Am ((by rw [hg]; exact (below_size (pE HB.out Ac.out)) : w.heap.size ≤ Ad)); replace HB := Am (below_step (pE HB.out Ac.out) hb); have Ag := Ao; have Ae := Am ((by rw [hg]; exact Nat.ne_of_lt (kL Aa.out) : Aj ≠ Ad)); have Af := Am ((by rw [hg]; exact Nat.ne_of_gt (kL Aa.out) : Ad ≠ Aj)); replace Aa := kBa Aa hb; clear hb hbox hg; have hnb9 := Ae.out; have hnc9 := Af.out; obtain ⟨hcz10_0, hcz10_1, hcz10_2, hcz10_3, hcz10_4, hcz10_5, hcz10_6⟩ := bc7 Aa.out; obtain ⟨hfz10_0, hfz10_1, hfz10_2, hfz10_3, hfz10_4, hfz10_5, hfz10_6⟩ := bf7 Aa.out) | ((with_reducible refine gate_callee (f := 24) rfl ?_); refine goesL_ (some 10) rfl rfl Try.func24 (by kernel_rfl) rfl #[.agg #[.int .i64 a0_0, .int .i64 a0_1, .slice A0_2 l0_2.length c0_2, .int .i64 a0_3, .int .i64 a0_4, .int .i64 a0_5, .int .i64 a0_6]] rfl pL ?_; (with_reducible refine (raft_Last.calls k a0_0 a0_1 _ _ l0_2 a0_3 a0_4 a0_5 a0_6 t337 t338 _ ?Ah ?Ai A3.out).mono ?_); (case Ah => exact pC (Kd.C_below Ak.out HB.out)); (case Ai => exact Al.out); rintro e w11 ⟨rfl, hb⟩; refine ⟨_, rfl, ?_⟩; replace Aa := kBa Aa hb; replace Ab := kBa Ab hb; replace HB := Am (below_step (pE2 HB.out Ac.out Ag.out) hb); (try clear hb); (try clear hb2); (try clear hk); (try clear hi); obtain ⟨hcz12_0, hcz12_1, hcz12_2, hcz12_3, hcz12_4, hcz12_5, hcz12_6⟩ := bc7 Aa.out; obtain ⟨hfz12_0, hfz12_1, hfz12_2, hfz12_3, hfz12_4, hfz12_5, hfz12_6⟩ := bf7 Aa.out) | ((with_reducible refine gate_callee (f := 25) rfl ?_); refine goesL_ (some 15) rfl rfl Try.func25 (by kernel_rfl) rfl #[.agg #[.int .i64 a0_0, .int .i64 a0_1, .slice A0_2 l0_2.length c0_2, .int .i64 a0_3, .int .i64 a0_4, .int .i64 a0_5, .int .i64 a0_6]] rfl pL ?_; (with_reducible refine (raft_Check.calls k a0_0 a0_1 _ _ l0_2 a0_3 a0_4 a0_5 a0_6 t339 _ ?Ah ?Ai A4.out).mono ?_); (case Ah => exact pC (Kd.C_below Ak.out HB.out)); (case Ai => exact Al.out); rintro e w13 ⟨rfl, hb⟩; refine ⟨_, rfl, ?_⟩; replace Aa := kBa Aa hb; replace Ab := kBa Ab hb; replace HB := Am (below_step (pE2 HB.out Ac.out Ag.out) hb); (try clear hb); (try clear hb2); (try clear hk); (try clear hi); obtain ⟨hcz14_0, hcz14_1, hcz14_2, hcz14_3, hcz14_4, hcz14_5, hcz14_6⟩ := bc7 Aa.out; obtain ⟨hfz14_0, hfz14_1, hfz14_2, hfz14_3, hfz14_4, hfz14_5, hfz14_6⟩ := bf7 Aa.out; obtain ⟨hcz15_0, hcz15_1, hcz15_2, hcz15_3, hcz15_4, hcz15_5, hcz15_6, hcz15_7, hcz15_8, hcz15_9⟩ := bc10 Ab.out; obtain ⟨hfz15_0, hfz15_1, hfz15_2, hfz15_3, hfz15_4, hfz15_5, hfz15_6, hfz15_7, hfz15_8, hfz15_9⟩ := bf10 Ab.out))
  refine bodyPost_ret (results_ct rfl _ _ Ad 46 #[.int .i64 0, .int .i64 0, .int .i64 0, .string (⟨#[]⟩ : ByteArray), .bool false, .slice none 0 0, .int .i64 0, .int .i64 0, .int .i64 0, .int .u32 0] (0, 0) _ rfl (kX0 Ab.out) Try.underlying46 rfl (by kernel_rfl)) rfl ?_
  exact ⟨_, pX, by first | exact Kd.R_nil _ _ _ _ _ | exact Kd.N_nil _ _ _ _ _ | exact Kd.V_nil _ _ _ _ _ | exact Kd.Q_nil _ _ _ _ _ | exact Kd.S_nil _ _ _ _ _, pE2 HB.out Ac.out Ag.out⟩
 rw [if_neg c6] at H
 have c6b0 : decide (a1 ≤ a0_0) = false := decide_eq_false c6
 clear c6
 by_cases c16 : a1 > t337
 ·rw [if_pos c16] at H
  have c16b0 : decide (t337 < a1) = true := decide_eq_true c16
  clear c16
  simp only [Option.some.injEq, Prod.mk.injEq] at H
  obtain ⟨rfl, rfl, rfl, rfl, rfl, rfl, rfl, rfl, rfl, rfl, rfl⟩ := H
  go_enter Try.func12, Try.ntmps12
  go_wp2_with (first | ((with_reducible refine gate_dst (N := 2) rfl ?_); refine box_event ?hg (N := 2) ?hd (cs := #[.int .i64 a0_0, .int .i64 a0_1, .slice A0_2 l0_2.length c0_2, .int .i64 a0_3, .int .i64 a0_4, .int .i64 a0_5, .int .i64 a0_6]) (t := 26) ?hr ?_; (case hd => rfl); (case hg => rfl); (case hr => first | (go_simp; done) | (go_simp; rfl)); intro Aj hg w17 hbox hb; have Aa := Am (hbox); have An := Am ((by rw [hg]; exact (below_size (pB HB.out)) : w.heap.size ≤ Aj)); replace HB := Am (below_step (pB HB.out) hb); have Ac := An; clear hb hbox hg) | ((with_reducible refine gate_dst (N := 4) rfl ?_); refine box_event ?hg (N := 4) ?hd (cs := #[.int .i64 0, .int .i64 0, .int .i64 0, .string (⟨#[]⟩ : ByteArray), .bool false, .slice none 0 0, .int .i64 0, .int .i64 0, .int .i64 0, .int .u32 0]) (t := 46) ?hr ?_; (case hd => rfl); (case hg => rfl); (case hr => first | (go_simp; done) | (go_simp; rfl)); intro Ad hg w18 hbox hb; have Ab := Am (hbox); have Ao := Am ((by rw [hg]; exact (below_size (pE HB.out Ac.out)) : w.heap.size ≤ Ad)); replace HB := Am (below_step (pE HB.out Ac.out) hb); have Ag := Ao; have Ae := Am ((by rw [hg]; exact Nat.ne_of_lt (kL Aa.out) : Aj ≠ Ad)); have Af := Am ((by rw [hg]; exact Nat.ne_of_gt (kL Aa.out) : Ad ≠ Aj)); replace Aa := kBa Aa hb; clear hb hbox hg; have hnb19 := Ae.out; have hnc19 := Af.out; obtain ⟨hcz20_0, hcz20_1, hcz20_2, hcz20_3, hcz20_4, hcz20_5, hcz20_6⟩ := bc7 Aa.out; obtain ⟨hfz20_0, hfz20_1, hfz20_2, hfz20_3, hfz20_4, hfz20_5, hfz20_6⟩ := bf7 Aa.out) | ((with_reducible refine gate_callee (f := 24) rfl ?_); refine goesL_ (some 10) rfl rfl Try.func24 (by kernel_rfl) rfl #[.agg #[.int .i64 a0_0, .int .i64 a0_1, .slice A0_2 l0_2.length c0_2, .int .i64 a0_3, .int .i64 a0_4, .int .i64 a0_5, .int .i64 a0_6]] rfl pL ?_; (with_reducible refine (raft_Last.calls k a0_0 a0_1 _ _ l0_2 a0_3 a0_4 a0_5 a0_6 t337 t338 _ ?Ah ?Ai A3.out).mono ?_); (case Ah => exact pC (Kd.C_below Ak.out HB.out)); (case Ai => exact Al.out); rintro e w21 ⟨rfl, hb⟩; refine ⟨_, rfl, ?_⟩; replace Aa := kBa Aa hb; replace Ab := kBa Ab hb; replace HB := Am (below_step (pE2 HB.out Ac.out Ag.out) hb); (try clear hb); (try clear hb2); (try clear hk); (try clear hi); obtain ⟨hcz22_0, hcz22_1, hcz22_2, hcz22_3, hcz22_4, hcz22_5, hcz22_6⟩ := bc7 Aa.out; obtain ⟨hfz22_0, hfz22_1, hfz22_2, hfz22_3, hfz22_4, hfz22_5, hfz22_6⟩ := bf7 Aa.out) | ((with_reducible refine gate_callee (f := 25) rfl ?_); refine goesL_ (some 15) rfl rfl Try.func25 (by kernel_rfl) rfl #[.agg #[.int .i64 a0_0, .int .i64 a0_1, .slice A0_2 l0_2.length c0_2, .int .i64 a0_3, .int .i64 a0_4, .int .i64 a0_5, .int .i64 a0_6]] rfl pL ?_; (with_reducible refine (raft_Check.calls k a0_0 a0_1 _ _ l0_2 a0_3 a0_4 a0_5 a0_6 t339 _ ?Ah ?Ai A4.out).mono ?_); (case Ah => exact pC (Kd.C_below Ak.out HB.out)); (case Ai => exact Al.out); rintro e w23 ⟨rfl, hb⟩; refine ⟨_, rfl, ?_⟩; replace Aa := kBa Aa hb; replace Ab := kBa Ab hb; replace HB := Am (below_step (pE2 HB.out Ac.out Ag.out) hb); (try clear hb); (try clear hb2); (try clear hk); (try clear hi); obtain ⟨hcz24_0, hcz24_1, hcz24_2, hcz24_3, hcz24_4, hcz24_5, hcz24_6⟩ := bc7 Aa.out; obtain ⟨hfz24_0, hfz24_1, hfz24_2, hfz24_3, hfz24_4, hfz24_5, hfz24_6⟩ := bf7 Aa.out; obtain ⟨hcz25_0, hcz25_1, hcz25_2, hcz25_3, hcz25_4, hcz25_5, hcz25_6, hcz25_7, hcz25_8, hcz25_9⟩ := bc10 Ab.out; obtain ⟨hfz25_0, hfz25_1, hfz25_2, hfz25_3, hfz25_4, hfz25_5, hfz25_6, hfz25_7, hfz25_8, hfz25_9⟩ := bf10 Ab.out))
  refine bodyPost_ret (results_ct rfl _ _ Ad 46 #[.int .i64 0, .int .i64 0, .int .i64 0, .string (⟨#[]⟩ : ByteArray), .bool false, .slice none 0 0, .int .i64 0, .int .i64 0, .int .i64 0, .int .u32 0] (0, 0) _ rfl (kX0 Ab.out) Try.underlying46 rfl (by kernel_rfl)) rfl ?_
  exact ⟨_, pX, by first | exact Kd.R_nil _ _ _ _ _ | exact Kd.N_nil _ _ _ _ _ | exact Kd.V_nil _ _ _ _ _ | exact Kd.Q_nil _ _ _ _ _ | exact Kd.S_nil _ _ _ _ _, pE2 HB.out Ac.out Ag.out⟩
 rw [if_neg c16] at H
 have c16b0 : decide (t337 < a1) = false := decide_eq_false c16
 clear c16
 obtain ⟨ji26, hji26⟩ : ∃ j_ : Int, (wrap64 ((wrap64 (a1 - a0_0)) - 1)) = j_ := ⟨_, rfl⟩
 replace H : (if 0 ≤ (ji26) then (if (ji26) < (l0_2.length : Int) then ((raft_own.f ((rd_T46 l0_2 (ji26)).f0) ((rd_T46 l0_2 (ji26)).f1) ((rd_T46 l0_2 (ji26)).f2) ((rd_T46 l0_2 (ji26)).f3) ((rd_T46 l0_2 (ji26)).f4.f0) ((rd_T46 l0_2 (ji26)).f4.f1) ((rd_T46 l0_2 (ji26)).f4.f2.f0) ((rd_T46 l0_2 (ji26)).f4.f2.f1) ((rd_T46 l0_2 (ji26)).f4.f2.f2) ((rd_T46 l0_2 (ji26)).f4.f2.f3)).bind fun bt341 => (some (bt341.1, bt341.2.1, bt341.2.2.1, bt341.2.2.2.1, bt341.2.2.2.2.1, bt341.2.2.2.2.2.1, bt341.2.2.2.2.2.2.1, bt341.2.2.2.2.2.2.2.1, bt341.2.2.2.2.2.2.2.2.1, bt341.2.2.2.2.2.2.2.2.2, 0))) else (none)) else (none)) = some (r1, r2, r3, r4, r5, r6, r7, r8, r9, r10, r11) := by first | (rw [hji26] at H; exact H) | (simp only [hji26] at H ⊢; exact H)
 (try rw [hji26] at A3)
 (try rw [hji26] at A4)
 have hji26w : (IntKind.i64.wrap ((wrap64 (a1 - a0_0)) - 1)) = ji26 := (i64_w _).trans hji26
 by_cases c27 : 0 ≤ (ji26)
 rotate_left
 ·rw [if_neg c27] at H
  exact absurd H (by simp)
 rw [if_pos c27] at H
 have c27b0 : decide (0 ≤ (ji26)) = true := decide_eq_true c27
 clear c27
 by_cases c28 : (ji26) < (l0_2.length : Int)
 rotate_left
 ·rw [if_neg c28] at H
  exact absurd H (by simp)
 rw [if_pos c28] at H
 have c28b0 : decide ((ji26) < (l0_2.length : Int)) = true := decide_eq_true c28
 clear c28
 replace H := Option.bind_eq_some_iff.mp H
 obtain ⟨⟨t341, t342, t343, t344, t345, t346, t349, t350, t351, t352⟩, A290, H⟩ := H
 replace H : (some (t341, t342, t343, t344, t345, t346, t349, t350, t351, t352, 0)) = some (r1, r2, r3, r4, r5, r6, r7, r8, r9, r10, r11) := H
 have A29 := Am A290
 clear A290
 simp only [Option.some.injEq, Prod.mk.injEq] at H
 obtain ⟨rfl, rfl, rfl, rfl, rfl, rfl, rfl, rfl, rfl, rfl, rfl⟩ := H
 go_enter Try.func12, Try.ntmps12
 go_wp2_with (first | ((with_reducible refine gate_dst (N := 2) rfl ?_); refine box_event ?hg (N := 2) ?hd (cs := #[.int .i64 a0_0, .int .i64 a0_1, .slice A0_2 l0_2.length c0_2, .int .i64 a0_3, .int .i64 a0_4, .int .i64 a0_5, .int .i64 a0_6]) (t := 26) ?hr ?_; (case hd => rfl); (case hg => rfl); (case hr => first | (go_simp; done) | (go_simp; rfl)); intro Aj hg w30 hbox hb; have Aa := Am (hbox); have An := Am ((by rw [hg]; exact (below_size (pB HB.out)) : w.heap.size ≤ Aj)); replace HB := Am (below_step (pB HB.out) hb); have Ac := An; clear hb hbox hg) | ((with_reducible refine gate_dst (N := 4) rfl ?_); refine box_event ?hg (N := 4) ?hd (cs := #[.int .i64 0, .int .i64 0, .int .i64 0, .string (⟨#[]⟩ : ByteArray), .bool false, .slice none 0 0, .int .i64 0, .int .i64 0, .int .i64 0, .int .u32 0]) (t := 46) ?hr ?_; (case hd => rfl); (case hg => rfl); (case hr => first | (go_simp; done) | (go_simp; rfl)); intro Ad hg w31 hbox hb; have Ab := Am (hbox); have Ao := Am ((by rw [hg]; exact (below_size (pE HB.out Ac.out)) : w.heap.size ≤ Ad)); replace HB := Am (below_step (pE HB.out Ac.out) hb); have Ag := Ao; have Ae := Am ((by rw [hg]; exact Nat.ne_of_lt (kL Aa.out) : Aj ≠ Ad)); have Af := Am ((by rw [hg]; exact Nat.ne_of_gt (kL Aa.out) : Ad ≠ Aj)); replace Aa := kBa Aa hb; clear hb hbox hg; have hnb32 := Ae.out; have hnc32 := Af.out; obtain ⟨hcz33_0, hcz33_1, hcz33_2, hcz33_3, hcz33_4, hcz33_5, hcz33_6⟩ := bc7 Aa.out; obtain ⟨hfz33_0, hfz33_1, hfz33_2, hfz33_3, hfz33_4, hfz33_5, hfz33_6⟩ := bf7 Aa.out) | ((with_reducible refine gate_callee (f := 24) rfl ?_); refine goesL_ (some 10) rfl rfl Try.func24 (by kernel_rfl) rfl #[.agg #[.int .i64 a0_0, .int .i64 a0_1, .slice A0_2 l0_2.length c0_2, .int .i64 a0_3, .int .i64 a0_4, .int .i64 a0_5, .int .i64 a0_6]] rfl pL ?_; (with_reducible refine (raft_Last.calls k a0_0 a0_1 _ _ l0_2 a0_3 a0_4 a0_5 a0_6 t337 t338 _ ?Ah ?Ai A3.out).mono ?_); (case Ah => exact pC (Kd.C_below Ak.out HB.out)); (case Ai => exact Al.out); rintro e w34 ⟨rfl, hb⟩; refine ⟨_, rfl, ?_⟩; replace Aa := kBa Aa hb; replace Ab := kBa Ab hb; replace HB := Am (below_step (pE2 HB.out Ac.out Ag.out) hb); (try clear hb); (try clear hb2); (try clear hk); (try clear hi); obtain ⟨hcz35_0, hcz35_1, hcz35_2, hcz35_3, hcz35_4, hcz35_5, hcz35_6⟩ := bc7 Aa.out; obtain ⟨hfz35_0, hfz35_1, hfz35_2, hfz35_3, hfz35_4, hfz35_5, hfz35_6⟩ := bf7 Aa.out) | ((with_reducible refine gate_callee (f := 25) rfl ?_); refine goesL_ (some 15) rfl rfl Try.func25 (by kernel_rfl) rfl #[.agg #[.int .i64 a0_0, .int .i64 a0_1, .slice A0_2 l0_2.length c0_2, .int .i64 a0_3, .int .i64 a0_4, .int .i64 a0_5, .int .i64 a0_6]] rfl pL ?_; (with_reducible refine (raft_Check.calls k a0_0 a0_1 _ _ l0_2 a0_3 a0_4 a0_5 a0_6 t339 _ ?Ah ?Ai A4.out).mono ?_); (case Ah => exact pC (Kd.C_below Ak.out HB.out)); (case Ai => exact Al.out); rintro e w36 ⟨rfl, hb⟩; refine ⟨_, rfl, ?_⟩; replace Aa := kBa Aa hb; replace Ab := kBa Ab hb; replace HB := Am (below_step (pE2 HB.out Ac.out Ag.out) hb); (try clear hb); (try clear hb2); (try clear hk); (try clear hi); obtain ⟨hcz37_0, hcz37_1, hcz37_2, hcz37_3, hcz37_4, hcz37_5, hcz37_6⟩ := bc7 Aa.out; obtain ⟨hfz37_0, hfz37_1, hfz37_2, hfz37_3, hfz37_4, hfz37_5, hfz37_6⟩ := bf7 Aa.out; have p340 : 0 ≤ ((ji26) : Int) := of_decide_eq_true pS; have q340 : (ji26) < (l0_2.length : Int) := of_decide_eq_true pS; obtain ⟨ad340, A6, c340_5, e340, Ap, Aq, Ar, As, At, Au, Av, Aw, Ax, Ay, Az, A0⟩ := at_T46 Ak.out (ji26) p340 q340; cases e340; replace Ap := cU HB.out Ap; replace Aq := cU HB.out Aq; replace Ar := cU HB.out Ar; replace As := cU HB.out As; replace At := cU HB.out At; replace Au := cU HB.out Au; replace Av := cU HB.out Av; replace Aw := cU HB.out Aw; replace Ax := cU HB.out Ax; replace Ay := cU HB.out Ay; have A1 := Am A0; have A2 := Am Az; clear A0 Az; replace p340 := eq_true p340; replace q340 := eq_true q340) | ((with_reducible refine gate_callee (f := 29) rfl ?_); refine goesL_ (some 38) rfl rfl Try.func29 (by kernel_rfl) rfl #[.agg #[.int .i64 ((rd_T46 l0_2 (ji26)).f0), .int .i64 ((rd_T46 l0_2 (ji26)).f1), .int .i64 ((rd_T46 l0_2 (ji26)).f2), .string ((rd_T46 l0_2 (ji26)).f3), .bool ((rd_T46 l0_2 (ji26)).f4.f0), .slice A6 ((rd_T46 l0_2 (ji26)).f4.f1).length c340_5, .int .i64 ((rd_T46 l0_2 (ji26)).f4.f2.f0), .int .i64 ((rd_T46 l0_2 (ji26)).f4.f2.f1), .int .i64 ((rd_T46 l0_2 (ji26)).f4.f2.f2), .int .u32 ((rd_T46 l0_2 (ji26)).f4.f2.f3)]] rfl (by (try simp only [List.map_toArray, List.map_cons, List.map_nil]); first | done | (simp only [hji26]; rfl) | rfl | (simp only [List.length_drop, List.length_take]; rfl)) ?_; (with_reducible refine (raft_own.calls ((rd_T46 l0_2 (ji26)).f0) ((rd_T46 l0_2 (ji26)).f1) ((rd_T46 l0_2 (ji26)).f2) ((rd_T46 l0_2 (ji26)).f3) ((rd_T46 l0_2 (ji26)).f4.f0) _ _ ((rd_T46 l0_2 (ji26)).f4.f1) ((rd_T46 l0_2 (ji26)).f4.f2.f0) ((rd_T46 l0_2 (ji26)).f4.f2.f1) ((rd_T46 l0_2 (ji26)).f4.f2.f2) ((rd_T46 l0_2 (ji26)).f4.f2.f3) t341 t342 t343 t344 t345 t346 t349 t350 t351 t352 _ ?Ah ?Ai A29.out).mono ?_); (case Ah => exact pC (Kd.C_below A1.out HB.out)); (case Ai => exact A2.out); rintro e w38 ⟨v347, rfl, ho0, hb⟩; refine ⟨_, rfl, ?_⟩; have A5 := Am (Kd.R_lower ho0 (below_size (pE2 HB.out Ac.out Ag.out))); replace Aa := kBa Aa hb; replace Ab := kBa Ab hb; replace HB := Am (below_step (pE2 HB.out Ac.out Ag.out) hb); (try clear hb); (try clear hb2); (try clear hk); (try clear hi); (try clear ho0); obtain ⟨hcz39_0, hcz39_1, hcz39_2, hcz39_3, hcz39_4, hcz39_5, hcz39_6, hcz39_7, hcz39_8, hcz39_9⟩ := bc10 Ab.out; obtain ⟨hfz39_0, hfz39_1, hfz39_2, hfz39_3, hfz39_4, hfz39_5, hfz39_6, hfz39_7, hfz39_8, hfz39_9⟩ := bf10 Ab.out; obtain ⟨A7, A8, A9⟩ := Kd.R_slice A5.out; subst A9))
 refine bodyPost_ret (results_ct rfl _ _ Ad 46 #[.int .i64 t341, .int .i64 t342, .int .i64 t343, .string t344, .bool t345, .slice A7 t346.length A8, .int .i64 t349, .int .i64 t350, .int .i64 t351, .int .u32 t352] (0, 0) _ rfl (kX0 Ab.out) Try.underlying46 rfl (by kernel_rfl)) rfl ?_
 exact ⟨_, by first | rfl | (simp [errW_none, errW_some] <;> rfl) | (simp only [← hji26]; first | rfl | (simp [errW_none, errW_some] <;> rfl)) | (simp [*, errW_none, errW_some] <;> rfl), by (with_reducible repeat (first | apply Kd.R_alloc | apply Kd.R_drewN | apply Kd.R_drew)); exact Kd.R_mono (Rf10 (g := Ad) (Kd.R_types A5.out Ab.out (by decide)) (fun _ hk => hk.2)) (fun _ hk => trivial), pE2 HB.out Ac.out Ag.out⟩
def garnerref02_same.l0 : Nat → List Int → List Int → Int → Option (Bool)
 | 0, _, _, _ => none
 | k + 1, x0, x1, x5 => if x5 < (x0.length : Int) then (if 0 ≤ x5 then (if x5 < (x1.length : Int) then (if (rd x0 x5) = (rd x1 x5) then (garnerref02_same.l0 k x0 x1 (wrap64 (x5 + 1))) else (some false)) else (none)) else (none)) else (some true)
def garnerref02_same.f (k : Nat) (l0 : List Int) (l1 : List Int) : Option (Bool) := if (l0.length : Int) = (l1.length : Int) then (garnerref02_same.l0 k l0 l1 0) else (some false)
theorem garnerref02_same.mono_l : ∀ k, (∀ y0 y1 y2, LeO (garnerref02_same.l0 k y0 y1 y2) (garnerref02_same.l0 (k + 1) y0 y1 y2))
 | 0 => fun _ _ _ r h => by simp [garnerref02_same.l0] at h
 | k + 1 => by
  have ih0 := garnerref02_same.mono_l k
  ·intro y0 y1 y2
   unfold garnerref02_same.l0
   repeat' first
   | (with_reducible exact ih0 _ _ _)
   | (with_reducible exact LeO.refl _)
   | (with_reducible exact LeO.none _)
   | (with_reducible refine LeO.ite ?_ ?_)
   | (with_reducible refine LeO.bind ?_ (fun _ => ?_))
   | exact ih0 _ _ _
   | exact LeO.none _
   | refine LeO.ite ?_ ?_
   | refine LeO.bind ?_ (fun _ => ?_)
theorem garnerref02_same.mono : ∀ a0 a1 k, LeO (garnerref02_same.f k a0 a1) (garnerref02_same.f (k + 1) a0 a1) := by
 intro a0 a1 k
 have ih0 := garnerref02_same.mono_l k
 unfold garnerref02_same.f
 repeat' first
   | (with_reducible exact ih0 _ _ _)
   | (with_reducible exact LeO.refl _)
   | (with_reducible exact LeO.none _)
   | (with_reducible refine LeO.ite ?_ ?_)
   | (with_reducible refine LeO.bind ?_ (fun _ => ?_))
   | exact ih0 _ _ _
   | exact LeO.none _
   | refine LeO.ite ?_ ?_
   | refine LeO.bind ?_ (fun _ => ?_)
set_option maxHeartbeats 8000000 in
set_option maxRecDepth 100000 in
theorem garnerref02_same.calls (k : Nat) (A0 : Option Addr) (c0 : Nat) (l0 : List Int) (A1 : Option Addr) (c1 : Nat) (l1 : List Int) (r : Bool) (w : World) (hr0 : Kd.C (Kd.int .u8) w A0 l0.length l0) (hc0 : l0.length ≤ c0) (hr1 : Kd.C (Kd.int .u8) w A1 l1.length l1) (hc1 : l1.length ≤ c1) (h : garnerref02_same.f k l0 l1 = some r) :
  Calls Try.prog 45 #[.slice A0 l0.length c0, .slice A1 l1.length c1] w fun e w' => e = .returned (.bool r) ∧ Drawn0 w w' := by
 have HR0 := Am hr0
 have HC0 := Am hc0
 clear hr0 hc0
 have HR1 := Am hr1
 have HC1 := Am hc1
 clear hr1 hc1
 have H : (if (l0.length : Int) = (l1.length : Int) then (garnerref02_same.l0 k l0 l1 0) else (some false)) = some r := h
 clear h
 by_cases c3 : (l0.length : Int) = (l1.length : Int)
 rotate_left
 ·rw [if_neg c3] at H
  have c3b0 : ((l0.length : Int) == (l1.length : Int)) = false := beq_eq_false_iff_ne.mpr c3
  have c3b1 : ((l0.length : Int) != (l1.length : Int)) = true := bne_iff_ne.mpr c3
  have c3b2 : (l0.length == l1.length) = false := by first | simpa using c3 | (simp at c3 ⊢; omega)
  obtain rfl := Option.some.inj H
  go_enter Try.func45, Try.ntmps45
  go_wp2
  repeat (go_quiet (fail); try go_wp2)
  go_ret
  exact ⟨by first | rfl | (simp; done) | (simp [*]; done), by repeat (first | exact Drawn0.refl _ | apply Drawn0.step)⟩
 rw [if_pos c3] at H
 have c3b0 : ((l0.length : Int) == (l1.length : Int)) = true := beq_iff_eq.mpr c3
 have c3b1 : ((l0.length : Int) != (l1.length : Int)) = false := bne_eq_false_iff_eq.mpr c3
 have c3b2 : (l0.length == l1.length) = true := by first | simpa using c3 | (simp at c3 ⊢; omega)
 clear c3
 have H' := Am H
 clear H
 go_enter Try.func45, Try.ntmps45
 go_wp2
 repeat (go_quiet (fail); try go_wp2)
 go_loopg [5] k (fun kq v5 w' => ∃ (Aa : Int), v5 = .int .i64 Aa ∧ Aside0 (garnerref02_same.l0 kq l0 l1 Aa = some r) ∧ Aside0 (kq ≤ k) ∧ Drawn0 w w')
 case atStart => exact ⟨(0), (by first | rfl | (simp; done) | (simp [*]; done)), H', ⟨Nat.le_refl _⟩, by repeat (first | exact Drawn0.refl _ | apply Drawn0.step)⟩
 case round =>
  clear H'
  try clear c1
  try clear p2
  try clear c3
  try clear c3b0
  try clear c3b1
  try clear c3b2
  obtain ⟨Aa, rfl, HA, HK1, ⟨m1, rfl⟩⟩ := hrel
  cases gk with
  | zero => exact absurd HA.out (by simp [garnerref02_same.l0])
  | succ k1 =>
   have H := HA.out
   clear HA
   simp only [garnerref02_same.l0] at H
   by_cases c4 : Aa < (l0.length : Int)
   rotate_left
   ·rw [if_neg c4] at H
    have c4b0 : decide (Aa < (l0.length : Int)) = false := decide_eq_false c4
    clear c4
    obtain rfl := Option.some.inj H
    go_wp2
    repeat (go_quiet (fail); try go_wp2)
    go_ret
    exact ⟨by first | rfl | (simp; done) | (simp [*]; done), by repeat (first | exact Drawn0.refl _ | apply Drawn0.step)⟩
   rw [if_pos c4] at H
   have c4b0 : decide (Aa < (l0.length : Int)) = true := decide_eq_true c4
   clear c4
   by_cases c5 : 0 ≤ Aa
   rotate_left
   ·rw [if_neg c5] at H
    exact absurd H (by simp)
   rw [if_pos c5] at H
   have c5b0 : decide (0 ≤ Aa) = true := decide_eq_true c5
   clear c5
   by_cases c6 : Aa < (l1.length : Int)
   rotate_left
   ·rw [if_neg c6] at H
    exact absurd H (by simp)
   rw [if_pos c6] at H
   have c6b0 : decide (Aa < (l1.length : Int)) = true := decide_eq_true c6
   clear c6
   by_cases c7 : (rd l0 Aa) = (rd l1 Aa)
   rotate_left
   ·rw [if_neg c7] at H
    have c7b0 : ((rd l0 Aa) == (rd l1 Aa)) = false := beq_eq_false_iff_ne.mpr c7
    have c7b1 : ((rd l0 Aa) != (rd l1 Aa)) = true := bne_iff_ne.mpr c7
    obtain rfl := Option.some.inj H
    have p353 : 0 ≤ (Aa : Int) := of_decide_eq_true pS
    have q353 : Aa < (l0.length : Int) := of_decide_eq_true pS
    obtain ⟨Ad, e353, Ab⟩ := Kd.at_int HR0.out Aa p353 q353
    cases e353
    replace p353 := eq_true p353
    replace q353 := eq_true q353
    have p354 : 0 ≤ (Aa : Int) := of_decide_eq_true pS
    have q354 : Aa < (l1.length : Int) := of_decide_eq_true pS
    obtain ⟨Ae, e354, Ac⟩ := Kd.at_int HR1.out Aa p354 q354
    cases e354
    replace p354 := eq_true p354
    replace q354 := eq_true q354
    go_wp2
    repeat (go_quiet (fail); try go_wp2)
    go_ret
    exact ⟨by first | rfl | (simp; done) | (simp [*]; done), by repeat (first | exact Drawn0.refl _ | apply Drawn0.step)⟩
   rw [if_pos c7] at H
   have c7b0 : ((rd l0 Aa) == (rd l1 Aa)) = true := beq_iff_eq.mpr c7
   have c7b1 : ((rd l0 Aa) != (rd l1 Aa)) = false := bne_eq_false_iff_eq.mpr c7
   clear c7
   have H' := Am H
   clear H
   have p353 : 0 ≤ (Aa : Int) := of_decide_eq_true pS
   have q353 : Aa < (l0.length : Int) := of_decide_eq_true pS
   obtain ⟨Ad, e353, Ab⟩ := Kd.at_int HR0.out Aa p353 q353
   cases e353
   replace p353 := eq_true p353
   replace q353 := eq_true q353
   have p354 : 0 ≤ (Aa : Int) := of_decide_eq_true pS
   have q354 : Aa < (l1.length : Int) := of_decide_eq_true pS
   obtain ⟨Ae, e354, Ac⟩ := Kd.at_int HR1.out Aa p354 q354
   cases e354
   replace p354 := eq_true p354
   replace q354 := eq_true q354
   go_wp2
   repeat (go_quiet (fail); try go_wp2)
   go_roundg k1
   case measure => have := HK1.out; omega
   case rel => exact ⟨(wrap64 (Aa + 1)), (by first | rfl | (simp; done) | (simp [*]; done)), H', ⟨by have := HK1.out; omega⟩, by repeat (first | exact Drawn0.refl _ | apply Drawn0.step)⟩
def garnerref02_Bytes.f (k : Nat) (l0 : List Int) (l1 : List Int) : Option (Bool) := (garnerref02_same.f k l0 l1).bind fun t355 => (some t355)
theorem garnerref02_Bytes.mono : ∀ a0 a1 k, LeO (garnerref02_Bytes.f k a0 a1) (garnerref02_Bytes.f (k + 1) a0 a1) := by
 intro a0 a1 k
 unfold garnerref02_Bytes.f
 repeat' first
   | (with_reducible exact garnerref02_same.mono _ _ _)
   | (with_reducible exact LeO.refl _)
   | (with_reducible exact LeO.none _)
   | (with_reducible refine LeO.ite ?_ ?_)
   | (with_reducible refine LeO.bind ?_ (fun _ => ?_))
   | exact garnerref02_same.mono _ _ _
   | exact LeO.none _
   | refine LeO.ite ?_ ?_
   | refine LeO.bind ?_ (fun _ => ?_)
set_option maxHeartbeats 8000000 in
set_option maxRecDepth 100000 in
theorem garnerref02_Bytes.calls (k : Nat) (A0 : Option Addr) (c0 : Nat) (l0 : List Int) (A1 : Option Addr) (c1 : Nat) (l1 : List Int) (r : Bool) (w : World) (hr0 : Kd.C (Kd.int .u8) w A0 l0.length l0) (hc0 : l0.length ≤ c0) (hr1 : Kd.C (Kd.int .u8) w A1 l1.length l1) (hc1 : l1.length ≤ c1) (h : garnerref02_Bytes.f k l0 l1 = some r) :
  Calls Try.prog 42 #[.slice A0 l0.length c0, .slice A1 l1.length c1] w fun e w' => e = .returned (.bool r) ∧ Drawn0 w w' := by
 have HR0 := Am hr0
 have HC0 := Am hc0
 clear hr0 hc0
 have HR1 := Am hr1
 have HC1 := Am hc1
 clear hr1 hc1
 have H : ((garnerref02_same.f k l0 l1).bind fun t355 => (some t355)) = some r := h
 clear h
 replace H := Option.bind_eq_some_iff.mp H
 obtain ⟨t355, A30, H⟩ := H
 replace H : (some t355) = some r := H
 have A3 := Am A30
 clear A30
 obtain rfl := Option.some.inj H
 go_enter Try.func42, Try.ntmps42
 go_wp2_with (first | ((with_reducible refine gate_callee (f := 45) rfl ?_); refine goesL_ (some 7) rfl rfl Try.func45 (by kernel_rfl) rfl #[.slice A0 l0.length c0, .slice A1 l1.length c1] rfl pL ?_; (with_reducible refine (garnerref02_same.calls k _ _ l0 _ _ l1 t355 _ ?side1 ?side2 ?side3 ?side4 A3.out).mono ?_); (case side1 => repeat (first | exact HR0.out | (with_reducible refine Kd.C_alloc ?_ _) | (with_reducible refine Kd.C_drewN ?_ _) | (with_reducible refine Kd.C_drew ?_))); (case side2 => exact HC0.out); (case side3 => repeat (first | exact HR1.out | (with_reducible refine Kd.C_alloc ?_ _) | (with_reducible refine Kd.C_drewN ?_ _) | (with_reducible refine Kd.C_drew ?_))); (case side4 => exact HC1.out); rintro e w' ⟨rfl, ⟨nd, rfl⟩⟩; refine ⟨_, rfl, ?_⟩))
 go_ret
 exact ⟨by first | rfl | (simp; done) | (simp [*]; done), by repeat (first | exact Drawn0.refl _ | apply Drawn0.step)⟩
def garnerref05_Same.f (k : Nat) (a0_0 : Bool) (l0_1 : List Int) (a0_2 : Int) (a0_3 : Int) (a0_4 : Int) (a0_5 : Int) (a1_0 : Bool) (l1_1 : List Int) (a1_2 : Int) (a1_3 : Int) (a1_4 : Int) (a1_5 : Int) : Option (Bool) := if (a0_0 == a1_0) = true then (if (a0_2 == a1_2 && (a0_3 == a1_3 && (a0_4 == a1_4 && (a0_5 == a1_5)))) = true then ((garnerref02_Bytes.f k l0_1 l1_1).bind fun t358 => (some t358)) else (some false)) else (some false)
theorem garnerref05_Same.mono : ∀ a0 a1 a2 a3 a4 a5 a6 a7 a8 a9 a10 a11 k, LeO (garnerref05_Same.f k a0 a1 a2 a3 a4 a5 a6 a7 a8 a9 a10 a11) (garnerref05_Same.f (k + 1) a0 a1 a2 a3 a4 a5 a6 a7 a8 a9 a10 a11) := by
 intro a0 a1 a2 a3 a4 a5 a6 a7 a8 a9 a10 a11 k
 unfold garnerref05_Same.f
 repeat' first
   | (with_reducible exact garnerref02_Bytes.mono _ _ _)
   | (with_reducible exact LeO.refl _)
   | (with_reducible exact LeO.none _)
   | (with_reducible refine LeO.ite ?_ ?_)
   | (with_reducible refine LeO.bind ?_ (fun _ => ?_))
   | exact garnerref02_Bytes.mono _ _ _
   | exact LeO.none _
   | refine LeO.ite ?_ ?_
   | refine LeO.bind ?_ (fun _ => ?_)
set_option maxHeartbeats 8000000 in
set_option maxRecDepth 100000 in
theorem garnerref05_Same.calls (k : Nat) (a0_0 : Bool) (A0_1 : Option Addr) (c0_1 : Nat) (l0_1 : List Int) (a0_2 : Int) (a0_3 : Int) (a0_4 : Int) (a0_5 : Int) (a1_0 : Bool) (A1_1 : Option Addr) (c1_1 : Nat) (l1_1 : List Int) (a1_2 : Int) (a1_3 : Int) (a1_4 : Int) (a1_5 : Int) (r : Bool) (w : World) (hr0_1 : Kd.C (Kd.int .u8) w A0_1 l0_1.length l0_1) (hc0_1 : l0_1.length ≤ c0_1) (hr1_1 : Kd.C (Kd.int .u8) w A1_1 l1_1.length l1_1) (hc1_1 : l1_1.length ≤ c1_1) (h : garnerref05_Same.f k a0_0 l0_1 a0_2 a0_3 a0_4 a0_5 a1_0 l1_1 a1_2 a1_3 a1_4 a1_5 = some r) :
  Calls Try.prog 30 #[.agg #[.bool a0_0, .slice A0_1 l0_1.length c0_1, .int .i64 a0_2, .int .i64 a0_3, .int .i64 a0_4, .int .u32 a0_5], .agg #[.bool a1_0, .slice A1_1 l1_1.length c1_1, .int .i64 a1_2, .int .i64 a1_3, .int .i64 a1_4, .int .u32 a1_5]] w fun e w' => e = .returned (.bool r) ∧ Below w.heap.size w w' := by
 have hu44 := Try.underlying44
 have hu42 := Try.underlying42
 have Ak := Am hr0_1
 have Al := Am hc0_1
 clear hr0_1 hc0_1
 have An := Am hr1_1
 have Ao := Am hc1_1
 clear hr1_1 hc1_1
 have HB := Am (Below.refl w.heap.size w)
 have H : (if (a0_0 == a1_0) = true then (if (a0_2 == a1_2 && (a0_3 == a1_3 && (a0_4 == a1_4 && (a0_5 == a1_5)))) = true then ((garnerref02_Bytes.f k l0_1 l1_1).bind fun t358 => (some t358)) else (some false)) else (some false)) = some r := h
 clear h
 by_cases c3 : (a0_0 == a1_0) = true
 rotate_left
 ·rw [if_neg c3] at H
  have c3b0 : (a0_0 == a1_0) = false := by simpa using c3
  (try (have c3b1 : decide (a0_0 = a1_0) = false := by simpa using c3))
  (try (have c3b2 : (a0_0 == a1_0) = false := by simpa using c3))
  (try (have c3b3 : ¬ (a0_0 = a1_0) := by simpa using c3))
  clear c3
  obtain rfl := Option.some.inj H
  go_enter Try.func30, Try.ntmps30
  go_wp2_with (first | ((with_reducible refine gate_dst (N := 2) rfl ?_); refine box_event ?hg (N := 2) ?hd (cs := #[.bool a0_0, .slice A0_1 l0_1.length c0_1, .int .i64 a0_2, .int .i64 a0_3, .int .i64 a0_4, .int .u32 a0_5]) (t := 44) ?hr ?_; (case hd => rfl); (case hg => rfl); (case hr => first | (go_simp; done) | (go_simp; rfl)); intro Ad hg w16 hbox hb; have Aa := Am (hbox); have Ah := Am ((by rw [hg]; exact (below_size (pB HB.out)) : w.heap.size ≤ Ad)); replace HB := Am (below_step (pB HB.out) hb); have Ae := Ah; clear hb hbox hg) | ((with_reducible refine gate_dst (N := 3) rfl ?_); refine box_event ?hg (N := 3) ?hd (cs := #[.bool a1_0, .slice A1_1 l1_1.length c1_1, .int .i64 a1_2, .int .i64 a1_3, .int .i64 a1_4, .int .u32 a1_5]) (t := 44) ?hr ?_; (case hd => rfl); (case hg => rfl); (case hr => first | (go_simp; done) | (go_simp; rfl)); intro Af hg w17 hbox hb; have Ag := Am (hbox); have Ai := Am ((by rw [hg]; exact (below_size (pE HB.out Ae.out)) : w.heap.size ≤ Af)); replace HB := Am (below_step (pE HB.out Ae.out) hb); have Aj := Ai; have Ab := Am ((by rw [hg]; exact Nat.ne_of_lt (kL Aa.out) : Ad ≠ Af)); have Ac := Am ((by rw [hg]; exact Nat.ne_of_gt (kL Aa.out) : Af ≠ Ad)); replace Aa := kBa Aa hb; clear hb hbox hg; have hnb18 := Ab.out; have hnc18 := Ac.out; obtain ⟨hcz19_0, hcz19_1, hcz19_2, hcz19_3, hcz19_4, hcz19_5⟩ := bc6 Aa.out; obtain ⟨hfz19_0, hfz19_1, hfz19_2, hfz19_3, hfz19_4, hfz19_5⟩ := bf6 Aa.out; obtain ⟨hcz20_0, hcz20_1, hcz20_2, hcz20_3, hcz20_4, hcz20_5⟩ := bc6 Ag.out; obtain ⟨hfz20_0, hfz20_1, hfz20_2, hfz20_3, hfz20_4, hfz20_5⟩ := bf6 Ag.out))
  go_ret
  exact ⟨pX, pE2 HB.out Ae.out Aj.out⟩
 rw [if_pos c3] at H
 have c3b0 : (a0_0 == a1_0) = true := c3
 (try (have c3b1 : decide (a0_0 = a1_0) = true := by simpa using c3))
 (try (have c3b2 : (a0_0 == a1_0) = true := by simpa using c3))
 clear c3
 by_cases c4 : (a0_2 == a1_2 && (a0_3 == a1_3 && (a0_4 == a1_4 && (a0_5 == a1_5)))) = true
 rotate_left
 ·rw [if_neg c4] at H
  have c4b0 : (a0_2 == a1_2 && (a0_3 == a1_3 && (a0_4 == a1_4 && (a0_5 == a1_5)))) = false := by simpa using c4
  (try (have c4b1 : decide (a0_2 = a1_2 && (a0_3 == a1_3 && (a0_4 == a1_4 && (a0_5 == a1_5)))) = false := by simpa using c4))
  (try (have c4b2 : (a0_2 == a1_2 && (a0_3 == a1_3 && (a0_4 == a1_4 && (a0_5 == a1_5)))) = false := by simpa using c4))
  (try (have c4b3 : ¬ (a0_2 = a1_2 && (a0_3 == a1_3 && (a0_4 == a1_4 && (a0_5 == a1_5)))) := by simpa using c4))
  clear c4
  obtain rfl := Option.some.inj H
  go_enter Try.func30, Try.ntmps30
  go_wp2_with (first | ((with_reducible refine gate_dst (N := 2) rfl ?_); refine box_event ?hg (N := 2) ?hd (cs := #[.bool a0_0, .slice A0_1 l0_1.length c0_1, .int .i64 a0_2, .int .i64 a0_3, .int .i64 a0_4, .int .u32 a0_5]) (t := 44) ?hr ?_; (case hd => rfl); (case hg => rfl); (case hr => first | (go_simp; done) | (go_simp; rfl)); intro Ad hg w11 hbox hb; have Aa := Am (hbox); have Ah := Am ((by rw [hg]; exact (below_size (pB HB.out)) : w.heap.size ≤ Ad)); replace HB := Am (below_step (pB HB.out) hb); have Ae := Ah; clear hb hbox hg) | ((with_reducible refine gate_dst (N := 3) rfl ?_); refine box_event ?hg (N := 3) ?hd (cs := #[.bool a1_0, .slice A1_1 l1_1.length c1_1, .int .i64 a1_2, .int .i64 a1_3, .int .i64 a1_4, .int .u32 a1_5]) (t := 44) ?hr ?_; (case hd => rfl); (case hg => rfl); (case hr => first | (go_simp; done) | (go_simp; rfl)); intro Af hg w12 hbox hb; have Ag := Am (hbox); have Ai := Am ((by rw [hg]; exact (below_size (pE HB.out Ae.out)) : w.heap.size ≤ Af)); replace HB := Am (below_step (pE HB.out Ae.out) hb); have Aj := Ai; have Ab := Am ((by rw [hg]; exact Nat.ne_of_lt (kL Aa.out) : Ad ≠ Af)); have Ac := Am ((by rw [hg]; exact Nat.ne_of_gt (kL Aa.out) : Af ≠ Ad)); replace Aa := kBa Aa hb; clear hb hbox hg; have hnb13 := Ab.out; have hnc13 := Ac.out; obtain ⟨hcz14_0, hcz14_1, hcz14_2, hcz14_3, hcz14_4, hcz14_5⟩ := bc6 Aa.out; obtain ⟨hfz14_0, hfz14_1, hfz14_2, hfz14_3, hfz14_4, hfz14_5⟩ := bf6 Aa.out; obtain ⟨hcz15_0, hcz15_1, hcz15_2, hcz15_3, hcz15_4, hcz15_5⟩ := bc6 Ag.out; obtain ⟨hfz15_0, hfz15_1, hfz15_2, hfz15_3, hfz15_4, hfz15_5⟩ := bf6 Ag.out))
  go_ret
  exact ⟨pX, pE2 HB.out Ae.out Aj.out⟩
 rw [if_pos c4] at H
 have c4b0 : (a0_2 == a1_2 && (a0_3 == a1_3 && (a0_4 == a1_4 && (a0_5 == a1_5)))) = true := c4
 (try (have c4b1 : decide (a0_2 = a1_2 && (a0_3 == a1_3 && (a0_4 == a1_4 && (a0_5 == a1_5)))) = true := by simpa using c4))
 (try (have c4b2 : (a0_2 == a1_2 && (a0_3 == a1_3 && (a0_4 == a1_4 && (a0_5 == a1_5)))) = true := by simpa using c4))
 clear c4
 replace H := Option.bind_eq_some_iff.mp H
 obtain ⟨t358, A50, H⟩ := H
 replace H : (some t358) = some r := H
 have A5 := Am A50
 clear A50
 obtain rfl := Option.some.inj H
 go_enter Try.func30, Try.ntmps30
 go_wp2_with (first | ((with_reducible refine gate_dst (N := 2) rfl ?_); refine box_event ?hg (N := 2) ?hd (cs := #[.bool a0_0, .slice A0_1 l0_1.length c0_1, .int .i64 a0_2, .int .i64 a0_3, .int .i64 a0_4, .int .u32 a0_5]) (t := 44) ?hr ?_; (case hd => rfl); (case hg => rfl); (case hr => first | (go_simp; done) | (go_simp; rfl)); intro Ad hg w6 hbox hb; have Aa := Am (hbox); have Ah := Am ((by rw [hg]; exact (below_size (pB HB.out)) : w.heap.size ≤ Ad)); replace HB := Am (below_step (pB HB.out) hb); have Ae := Ah; clear hb hbox hg) | ((with_reducible refine gate_dst (N := 3) rfl ?_); refine box_event ?hg (N := 3) ?hd (cs := #[.bool a1_0, .slice A1_1 l1_1.length c1_1, .int .i64 a1_2, .int .i64 a1_3, .int .i64 a1_4, .int .u32 a1_5]) (t := 44) ?hr ?_; (case hd => rfl); (case hg => rfl); (case hr => first | (go_simp; done) | (go_simp; rfl)); intro Af hg w7 hbox hb; have Ag := Am (hbox); have Ai := Am ((by rw [hg]; exact (below_size (pE HB.out Ae.out)) : w.heap.size ≤ Af)); replace HB := Am (below_step (pE HB.out Ae.out) hb); have Aj := Ai; have Ab := Am ((by rw [hg]; exact Nat.ne_of_lt (kL Aa.out) : Ad ≠ Af)); have Ac := Am ((by rw [hg]; exact Nat.ne_of_gt (kL Aa.out) : Af ≠ Ad)); replace Aa := kBa Aa hb; clear hb hbox hg; have hnb8 := Ab.out; have hnc8 := Ac.out; obtain ⟨hcz9_0, hcz9_1, hcz9_2, hcz9_3, hcz9_4, hcz9_5⟩ := bc6 Aa.out; obtain ⟨hfz9_0, hfz9_1, hfz9_2, hfz9_3, hfz9_4, hfz9_5⟩ := bf6 Aa.out; obtain ⟨hcz10_0, hcz10_1, hcz10_2, hcz10_3, hcz10_4, hcz10_5⟩ := bc6 Ag.out; obtain ⟨hfz10_0, hfz10_1, hfz10_2, hfz10_3, hfz10_4, hfz10_5⟩ := bf6 Ag.out) | (go_at_call 42; (with_reducible refine (garnerref02_Bytes.calls k _ _ l0_1 _ _ l1_1 t358 _ ?Ap ?Aq ?Ar ?As A5.out).mono ?_); (case Ap => exact pC (Kd.C_below Ak.out HB.out)); (case Aq => exact Al.out); (case Ar => exact pC (Kd.C_below An.out HB.out)); (case As => exact Ao.out); rintro e w' ⟨rfl, ⟨nd, rfl⟩⟩))
 go_ret
 exact ⟨pX, pE2 HB.out Ae.out Aj.out⟩
end Go.Proofs.Ytinldhpdfomcjaa.PRaftMay
