/- What the law reaches, as plain Lean functions, and that the machine's calls answer just that. -/
import Derived.Test.YtangfpcifdpfeaaPRaftTurnsx0
import Derived.Test.YtangfpcifdpfeaaPRaftTurnsx5
namespace Go.Proofs.Ytangfpcifdpfeaa.PRaftTurns
open Go.RowKit Go.Proofs.YtangfpcifdpfeaaW.PrintWords Go.Proofs.YtangfpcifdpfeaaW.PrintLast Go.Proofs.YtangfpcifdpfeaaW.PrintMore
attribute [local go_sem] max2_int min2_int max_two min_two max_three min_three max_four min_four
set_option linter.unusedVariables false
set_option linter.unusedSimpArgs false
attribute [local go_sem] wrap64_l1 wrap64_l2 wrap64_l3 wrap64_l4 wrap64_l5
def raft_owns.l0 : Nat → List (S55) → List (S55) → Int → Int → Option ((List (S55)))
 | 0, _, _, _, _ => none
 | k + 1, x3, x6, x7, x8 => if x8 < x7 then (if 0 ≤ x8 then (if x8 < (x6.length : Int) then ((raft_own.f ((rd_T55 x6 x8).f0) ((rd_T55 x6 x8).f1) ((rd_T55 x6 x8).f2) ((rd_T55 x6 x8).f3) ((rd_T55 x6 x8).f4.f0) ((rd_T55 x6 x8).f4.f1) ((rd_T55 x6 x8).f4.f2.f0) ((rd_T55 x6 x8).f4.f2.f1) ((rd_T55 x6 x8).f4.f2.f2) ((rd_T55 x6 x8).f4.f2.f3)).bind fun bt139 => (if x3.length < 1353245080339 then (raft_owns.l0 k (x3 ++ [(⟨bt139.1, bt139.2.1, bt139.2.2.1, bt139.2.2.2.1, (⟨bt139.2.2.2.2.1, bt139.2.2.2.2.2.1, (⟨bt139.2.2.2.2.2.2.1, bt139.2.2.2.2.2.2.2.1, bt139.2.2.2.2.2.2.2.2.1, bt139.2.2.2.2.2.2.2.2.2⟩ : S51)⟩ : S53)⟩ : S55)]) x6 x7 (wrap64 (x8 + 1))) else (none))) else (none)) else (none)) else (some x3)
def raft_owns.f (k : Nat) (l0 : List (S55)) : Option ((List (S55))) := raft_owns.l0 k ([] : List (S55)) l0 (l0.length : Int) 0
theorem raft_owns.mono_l : ∀ k, (∀ y0 y1 y2 y3, LeO (raft_owns.l0 k y0 y1 y2 y3) (raft_owns.l0 (k + 1) y0 y1 y2 y3))
 | 0 => fun _ _ _ _ r h => by simp [raft_owns.l0] at h
 | k + 1 => by
  have ih0 := raft_owns.mono_l k
  ·intro y0 y1 y2 y3
   unfold raft_owns.l0
   repeat' first
   | (with_reducible exact ih0 _ _ _ _)
   | (with_reducible exact LeO.refl _)
   | (with_reducible exact LeO.none _)
   | (with_reducible refine LeO.ite ?_ ?_)
   | (with_reducible refine LeO.bind ?_ (fun _ => ?_))
   | exact ih0 _ _ _ _
   | exact LeO.none _
   | refine LeO.ite ?_ ?_
   | refine LeO.bind ?_ (fun _ => ?_)
theorem raft_owns.mono : ∀ a0 k, LeO (raft_owns.f k a0) (raft_owns.f (k + 1) a0) := by
 intro a0 k
 have ih0 := raft_owns.mono_l k
 unfold raft_owns.f
 repeat' first
   | (with_reducible exact ih0 _ _ _ _)
   | (with_reducible exact LeO.refl _)
   | (with_reducible exact LeO.none _)
   | (with_reducible refine LeO.ite ?_ ?_)
   | (with_reducible refine LeO.bind ?_ (fun _ => ?_))
   | exact ih0 _ _ _ _
   | exact LeO.none _
   | refine LeO.ite ?_ ?_
   | refine LeO.bind ?_ (fun _ => ?_)
set_option maxHeartbeats 8000000 in
set_option maxRecDepth 100000 in
theorem raft_owns.calls (k : Nat) (A0 : Option Addr) (c0 : Nat) (l0 : List (S55)) (r : List (S55)) (w : World) (hr0 : Kd.C k55 w A0 l0.length l0) (hc0 : l0.length ≤ c0) (h : raft_owns.f k l0 = some r) :
  Calls Try.prog 23 #[.slice A0 l0.length c0] w fun e w' => ∃ v0_ : Value, e = .returned (v0_) ∧ Kd.S k55 55 w' w.heap.size (fun _ => True) v0_ r ∧ Below w.heap.size w w' := by
 have hu55 := Try.underlying55
 have HR0 := Am hr0
 have HC0 := Am hc0
 clear hr0 hc0
 have HB := Am (Below.refl w.heap.size w)
 have H : (raft_owns.l0 k ([] : List (S55)) l0 (l0.length : Int) 0) = some r := h
 clear h
 have H' := Am H
 clear H
 go_enter Try.func23, Try.ntmps23
 go_wp2
 go_loopg [3, 8] k (fun kq v3 v8 w' => ∃ (Af : List (S55)) (Aa : Int), v8 = .int .i64 Aa ∧ Aside0 (raft_owns.l0 kq Af l0 (l0.length : Int) Aa = some r) ∧ Aside0 (kq ≤ k) ∧ Aside0 (Kd.S k55 55 w' w.heap.size (fun _ => True) v3 Af) ∧ Aside0 (Below w.heap.size w w'))
 case atStart => exact ⟨(([] : List (S55))), (0), (by first | rfl | (simp; done) | (simp [*]; done)), H', ⟨Nat.le_refl _⟩, ⟨by first | exact Kd.S_nil _ _ _ _ _ | exact Kd.N_nil _ _ _ _ _ | exact Kd.V_nil _ _ _ _ _ | exact Kd.Q_nil _ _ _ _ _ | exact Kd.R_nil _ _ _ _ _⟩, ⟨pB HB.out⟩⟩
 case round =>
  clear H'
  obtain ⟨Af, Aa, rfl, HA, HK1, Ad, HB⟩ := hrel
  cases gk with
  | zero => exact absurd HA.out (by simp [raft_owns.l0])
  | succ k1 =>
   have H := HA.out
   clear HA
   simp only [raft_owns.l0] at H
   by_cases c2 : Aa < (l0.length : Int)
   rotate_left
   ·rw [if_neg c2] at H
    have c2b0 : decide (Aa < (l0.length : Int)) = false := decide_eq_false c2
    clear c2
    obtain rfl := Option.some.inj H
    go_wp2
    go_ret
    exact ⟨_, pX, by (with_reducible repeat (first | apply Kd.S_alloc | apply Kd.S_drewN | apply Kd.S_drew)); exact Ad.out, pB HB.out⟩
   rw [if_pos c2] at H
   have c2b0 : decide (Aa < (l0.length : Int)) = true := decide_eq_true c2
   clear c2
   by_cases c3 : 0 ≤ Aa
   rotate_left
   ·rw [if_neg c3] at H
    exact absurd H (by simp)
   rw [if_pos c3] at H
   have c3b0 : decide (0 ≤ Aa) = true := decide_eq_true c3
   clear c3
   by_cases c4 : Aa < (l0.length : Int)
   rotate_left
   ·rw [if_neg c4] at H
    exact absurd H (by simp)
   rw [if_pos c4] at H
   have c4b0 : decide (Aa < (l0.length : Int)) = true := decide_eq_true c4
   clear c4
   replace H := Option.bind_eq_some_iff.mp H
   obtain ⟨⟨t139, t140, t141, t142, t143, t144, t147, t148, t149, t150⟩, A50, H⟩ := H
   replace H : (if Af.length < 1353245080339 then (raft_owns.l0 k1 (Af ++ [(⟨t139, t140, t141, t142, (⟨t143, t144, (⟨t147, t148, t149, t150⟩ : S51)⟩ : S53)⟩ : S55)]) l0 (l0.length : Int) (wrap64 (Aa + 1))) else (none)) = some r := H
   have A5 := Am A50
   clear A50
   by_cases c6 : Af.length < 1353245080339
   rotate_left
   ·rw [if_neg c6] at H
    exact absurd H (by simp)
   rw [if_pos c6] at H
   have LMc6 := Am c6
   clear c6
   obtain ⟨y151, hy151⟩ : ∃ y_ : List (S55), y_ = (Af ++ [(⟨t139, t140, t141, t142, (⟨t143, t144, (⟨t147, t148, t149, t150⟩ : S51)⟩ : S53)⟩ : S55)]) := ⟨_, rfl⟩
   replace H : (raft_owns.l0 k1 y151 l0 (l0.length : Int) (wrap64 (Aa + 1))) = some r := by first | (rw [hy151]; with_reducible exact H) | (have H2_ := (Option.bind_some _ _).symm.trans H; rw [hy151]; with_reducible exact H2_) | (have H2_ := (Option.bind_some _ _).symm.trans H; with_reducible exact H2_) | with_reducible exact H | (rw [hy151]; exact H) | exact H
   have Ny151 := Am hy151
   clear hy151
   have H' := Am H
   clear H
   have p137 : 0 ≤ (Aa : Int) := of_decide_eq_true pS
   have q137 : Aa < (l0.length : Int) := of_decide_eq_true pS
   obtain ⟨ad137, Aj, c137_5, e137, hx137_0, hx137_1, hx137_2, hx137_3, hx137_4, hx137_5, hx137_6, hx137_7, hx137_8, hx137_9, Ah, Ai⟩ := at_T55u HR0.out Aa p137 q137 HB.out
   cases e137
   have Ak := Am Ai
   have Al := Am Ah
   clear Ai Ah
   replace p137 := eq_true p137
   replace q137 := eq_true q137
   go_wp2_with (first | ((with_reducible refine gate_dst (N := 5) rfl ?_); refine box_event ?hg (N := 5) ?hd (cs := #[.int .i64 0, .int .i64 0, .int .i64 0, .string (⟨#[]⟩ : ByteArray), .bool false, .slice none 0 0, .int .i64 0, .int .i64 0, .int .i64 0, .int .u32 0]) (t := 55) ?hr ?_; (case hd => rfl); (case hg => rfl); (case hr => first | (go_simp; done) | (go_simp; rfl)); intro Ab hg w7 hbox hb; replace Ad := Am (Kd.S_below (Kd.S_elderB (by (with_reducible repeat (first | apply Kd.S_alloc | apply Kd.S_drewN | apply Kd.S_drew)); exact Ad.out) Ab (Nat.le_of_eq hg.symm)) hb); have Ac := Am (hbox); have Ap := Am ((by rw [hg]; exact (below_size (pB HB.out)) : w.heap.size ≤ Ab)); replace HB := Am (below_step (pB HB.out) hb); have Ae := Ap; clear hb hbox hg; obtain ⟨_, _, _, _, _, _, _, _, _, _⟩ := bc10 Ac.out; obtain ⟨_, _, _, _, _, _, _, _, _, _⟩ := bf10 Ac.out) | ((with_reducible refine gate_callee (f := 36) rfl ?_); refine goesL_ (some 14) rfl rfl Try.func36 (by kernel_rfl) rfl #[.agg #[.int .i64 ((rd_T55 l0 Aa).f0), .int .i64 ((rd_T55 l0 Aa).f1), .int .i64 ((rd_T55 l0 Aa).f2), .string ((rd_T55 l0 Aa).f3), .bool ((rd_T55 l0 Aa).f4.f0), .slice Aj ((rd_T55 l0 Aa).f4.f1).length c137_5, .int .i64 ((rd_T55 l0 Aa).f4.f2.f0), .int .i64 ((rd_T55 l0 Aa).f4.f2.f1), .int .i64 ((rd_T55 l0 Aa).f4.f2.f2), .int .u32 ((rd_T55 l0 Aa).f4.f2.f3)]] rfl pL ?_; (with_reducible refine (raft_own.calls ((rd_T55 l0 Aa).f0) ((rd_T55 l0 Aa).f1) ((rd_T55 l0 Aa).f2) ((rd_T55 l0 Aa).f3) ((rd_T55 l0 Aa).f4.f0) _ _ ((rd_T55 l0 Aa).f4.f1) ((rd_T55 l0 Aa).f4.f2.f0) ((rd_T55 l0 Aa).f4.f2.f1) ((rd_T55 l0 Aa).f4.f2.f2) ((rd_T55 l0 Aa).f4.f2.f3) t139 t140 t141 t142 t143 t144 t147 t148 t149 t150 _ ?Aq ?Ar A5.out).mono ?_); (case Aq => exact Kd.C_below Ak.out (pE HB.out Ae.out)); (case Ar => exact Al.out); rintro e w9 ⟨v145, rfl, ho0, hb⟩; refine ⟨_, rfl, ?_⟩; replace Ad := Am (Kd.S_elder' (by (with_reducible repeat (first | apply Kd.S_alloc | apply Kd.S_drewN | apply Kd.S_drew)); exact (Kd.S_mono (Sf10 (g := Ab) (Kd.S_mono Ad.out (fun k_ hk => (⟨hk, hk.2⟩ : _ ∧ k_ ≠ Ab))) (fun _ hk => hk.2)) (fun _ h_ => h_.1))) (Kd.R_base ho0) hb); have Ag := Am (Kd.R_lower ho0 (below_size (pE HB.out Ae.out))); replace Ac := Am (blk_below (g := Ab) (kX0 Ac.out) hb); replace HB := Am (below_step (pE HB.out Ae.out) hb); (try clear hb); (try clear hb2); (try clear hk); (try clear hi); (try clear ho0); obtain ⟨An, Ao, At⟩ := Kd.R_slice Ag.out; subst At) | ((with_reducible refine gate_builtin (b := .append) (xs := #[.tmp 12, .tmp 15]) rfl ?_); at_builtin; refine Kd.S_append k55 (w0 := w) w.heap.size rfl (.tmp 12) (.tmp 15) 22 55 (.agg #[(.int .i64 0), (.int .i64 0), (.int .i64 0), (.string ⟨#[]⟩), (.bool false), (.slice none 0 0), (.int .i64 0), (.int .i64 0), (.int .i64 0), (.int .u32 0)]) 104 rfl Try.underlying22 info55 rfl (by decide) (by omega) u3 Af (⟨t139, t140, t141, t142, (⟨t143, t144, (⟨t147, t148, t149, t150⟩ : S51)⟩ : S53)⟩ : S55) [.int .i64 t139, .int .i64 t140, .int .i64 t141, .string t142, .bool t143, .slice An t144.length Ao, .int .i64 t147, .int .i64 t148, .int .i64 t149, .int .u32 t150] (fun k_ => k_ ≠ Ab) (fun k_ => some k_ = (.slice An t144.length Ao : Value).ownBlock) rfl rfl ?aP (fun k_ hk_ => ((Kd.R_mono (ok' := fun k_ => ((fun k_ => k_ ≠ Ab)) k_ ∧ some k_ ≠ (u3 : Value).ownBlock) (Kd.R_types (Kd.R_apart' (Ag.out) (Kd.S_typed Ad.out) (by decide)) Ac.out (by decide)) (fun k_ hk => ⟨hk.2, hk.1.2⟩))).1 k_ hk_.symm) ?aF ?aO ?aB ?aS ?aL ?_; (case aP => exact k55_mkM _ _ _ (⟨t139, t140, t141, t142, (⟨t143, t144, (⟨t147, t148, t149, t150⟩ : S51)⟩ : S53)⟩ : S55) (Kd.R_mono (Kd.R_tight rfl (Kd.R_mono (ok' := fun k_ => ((fun k_ => k_ ≠ Ab)) k_ ∧ some k_ ≠ (u3 : Value).ownBlock) (Kd.R_types (Kd.R_apart' (Ag.out) (Kd.S_typed Ad.out) (by decide)) Ac.out (by decide)) (fun k_ hk => ⟨hk.2, hk.1.2⟩))) (fun _ h_ => h_))); (case aB => exact (pE HB.out Ae.out)); (case aF => exact (fun k_ hk => kF Ac.out k_ hk)); (case aO => exact (by (with_reducible repeat (first | apply Kd.S_alloc | apply Kd.S_drewN | apply Kd.S_drew)); exact Kd.S_mono Ad.out (fun k_ hk => ⟨hk.1.2, fun e_ => hk.2 e_⟩))); (case aS => exact (below_size (pE HB.out Ae.out))); (case aL => have := LMc6.out; omega); intro v152 w10 ho hb hg hat; rw [← Ny151.out] at ho; replace Ac := Am (blk_grown (g := Ab) (o := .cells #[.int .i64 ((rd_T55 l0 Aa).f0), .int .i64 ((rd_T55 l0 Aa).f1), .int .i64 ((rd_T55 l0 Aa).f2), .string ((rd_T55 l0 Aa).f3), .bool ((rd_T55 l0 Aa).f4.f0), .slice Aj ((rd_T55 l0 Aa).f4.f1).length c137_5, .int .i64 ((rd_T55 l0 Aa).f4.f2.f0), .int .i64 ((rd_T55 l0 Aa).f4.f2.f1), .int .i64 ((rd_T55 l0 Aa).f4.f2.f2), .int .u32 ((rd_T55 l0 Aa).f4.f2.f3)] 55 (0, 0)) (pK Ac.out) hg (Kd.S_away Ad.out (fun _ hk => hk.1.2))); replace HB := Am (hb); have As := Am (ho); clear Ad Ag ho hb hg hat))
   go_roundg k1
   case measure => have := HK1.out; omega
   case rel => exact ⟨(y151), (wrap64 (Aa + 1)), (by first | rfl | (simp; done) | (simp [*]; done)), H', ⟨by have := HK1.out; omega⟩, ⟨by (with_reducible repeat (first | apply Kd.S_alloc | apply Kd.S_drewN | apply Kd.S_drew)); exact Kd.S_mono As.out (fun _ hk => trivial)⟩, ⟨pE HB.out Ae.out⟩⟩
def raft_Term.f (k : Nat) (a0_0 : Int) (a0_1 : Int) (l0_2 : List (S55)) (a0_3 : Int) (a0_4 : Int) (a0_5 : Int) (a0_6 : Int) (a1 : Int) : Option (Int × Int) := (raft_Last.f k a0_0 a0_1 l0_2 a0_3 a0_4 a0_5 a0_6).bind fun bt155 => ((raft_Check.f k a0_0 a0_1 l0_2 a0_3 a0_4 a0_5 a0_6).bind fun t157 => (if t157 = 0 then (if a1 < a0_0 then (some (0, 4)) else (if a1 > bt155.1 then (some (0, 3)) else (if a1 = a0_0 then (some (a0_1, 0)) else (if 0 ≤ (wrap64 ((wrap64 (a1 - a0_0)) - 1)) then (if (wrap64 ((wrap64 (a1 - a0_0)) - 1)) < (l0_2.length : Int) then (some ((rd_T55 l0_2 (wrap64 ((wrap64 (a1 - a0_0)) - 1))).f1, 0)) else (none)) else (none))))) else (some (0, 1))))
theorem raft_Term.mono : ∀ a0 a1 a2 a3 a4 a5 a6 a7 k, LeO (raft_Term.f k a0 a1 a2 a3 a4 a5 a6 a7) (raft_Term.f (k + 1) a0 a1 a2 a3 a4 a5 a6 a7) := by
 intro a0 a1 a2 a3 a4 a5 a6 a7 k
 unfold raft_Term.f
 repeat' first
   | (with_reducible exact raft_Check.mono _ _ _ _ _ _ _ _)
   | (with_reducible exact raft_Last.mono _ _ _ _ _ _ _ _)
   | (with_reducible exact LeO.refl _)
   | (with_reducible exact LeO.none _)
   | (with_reducible refine LeO.ite ?_ ?_)
   | (with_reducible refine LeO.bind ?_ (fun _ => ?_))
   | exact raft_Check.mono _ _ _ _ _ _ _ _
   | exact raft_Last.mono _ _ _ _ _ _ _ _
   | exact LeO.none _
   | refine LeO.ite ?_ ?_
   | refine LeO.bind ?_ (fun _ => ?_)
set_option maxHeartbeats 8000000 in
set_option maxRecDepth 100000 in
theorem raft_Term.calls (k : Nat) (a0_0 : Int) (a0_1 : Int) (A0_2 : Option Addr) (c0_2 : Nat) (l0_2 : List (S55)) (a0_3 : Int) (a0_4 : Int) (a0_5 : Int) (a0_6 : Int) (a1 : Int) (r1 : Int) (r2 : Int) (w : World) (hr0_2 : Kd.C k55 w A0_2 l0_2.length l0_2) (hc0_2 : l0_2.length ≤ c0_2) (h : raft_Term.f k a0_0 a0_1 l0_2 a0_3 a0_4 a0_5 a0_6 a1 = some (r1, r2)) :
  Calls Try.prog 25 #[.agg #[.int .i64 a0_0, .int .i64 a0_1, .slice A0_2 l0_2.length c0_2, .int .i64 a0_3, .int .i64 a0_4, .int .i64 a0_5, .int .i64 a0_6], .int .i64 a1] w fun e w' => e = .returned (.tuple #[.int .i64 r1, .int .i64 r2]) ∧ Below w.heap.size w w' := by
 have hu26 := Try.underlying26
 have Ae := Am hr0_2
 have Af := Am hc0_2
 clear hr0_2 hc0_2
 have HB := Am (Below.refl w.heap.size w)
 have H : ((raft_Last.f k a0_0 a0_1 l0_2 a0_3 a0_4 a0_5 a0_6).bind fun bt155 => ((raft_Check.f k a0_0 a0_1 l0_2 a0_3 a0_4 a0_5 a0_6).bind fun t157 => (if t157 = 0 then (if a1 < a0_0 then (some (0, 4)) else (if a1 > bt155.1 then (some (0, 3)) else (if a1 = a0_0 then (some (a0_1, 0)) else (if 0 ≤ (wrap64 ((wrap64 (a1 - a0_0)) - 1)) then (if (wrap64 ((wrap64 (a1 - a0_0)) - 1)) < (l0_2.length : Int) then (some ((rd_T55 l0_2 (wrap64 ((wrap64 (a1 - a0_0)) - 1))).f1, 0)) else (none)) else (none))))) else (some (0, 1))))) = some (r1, r2) := h
 clear h
 replace H := Option.bind_eq_some_iff.mp H
 obtain ⟨⟨t155, t156⟩, A30, H⟩ := H
 replace H : ((raft_Check.f k a0_0 a0_1 l0_2 a0_3 a0_4 a0_5 a0_6).bind fun t157 => (if t157 = 0 then (if a1 < a0_0 then (some (0, 4)) else (if a1 > t155 then (some (0, 3)) else (if a1 = a0_0 then (some (a0_1, 0)) else (if 0 ≤ (wrap64 ((wrap64 (a1 - a0_0)) - 1)) then (if (wrap64 ((wrap64 (a1 - a0_0)) - 1)) < (l0_2.length : Int) then (some ((rd_T55 l0_2 (wrap64 ((wrap64 (a1 - a0_0)) - 1))).f1, 0)) else (none)) else (none))))) else (some (0, 1)))) = some (r1, r2) := H
 have A3 := Am A30
 clear A30
 replace H := Option.bind_eq_some_iff.mp H
 obtain ⟨t157, A40, H⟩ := H
 replace H : (if t157 = 0 then (if a1 < a0_0 then (some (0, 4)) else (if a1 > t155 then (some (0, 3)) else (if a1 = a0_0 then (some (a0_1, 0)) else (if 0 ≤ (wrap64 ((wrap64 (a1 - a0_0)) - 1)) then (if (wrap64 ((wrap64 (a1 - a0_0)) - 1)) < (l0_2.length : Int) then (some ((rd_T55 l0_2 (wrap64 ((wrap64 (a1 - a0_0)) - 1))).f1, 0)) else (none)) else (none))))) else (some (0, 1))) = some (r1, r2) := H
 have A4 := Am A40
 clear A40
 by_cases c5 : t157 = 0
 rotate_left
 ·rw [if_neg c5] at H
  have c5b0 : (t157 == 0) = false := beq_eq_false_iff_ne.mpr c5
  have c5b1 : (t157 != 0) = true := bne_iff_ne.mpr c5
  simp only [Option.some.injEq, Prod.mk.injEq] at H
  obtain ⟨rfl, rfl⟩ := H
  go_enter Try.func25, Try.ntmps25
  go_wp2_with (first | ((with_reducible refine gate_dst (N := 2) rfl ?_); refine box_event ?hg (N := 2) ?hd (cs := #[.int .i64 a0_0, .int .i64 a0_1, .slice A0_2 l0_2.length c0_2, .int .i64 a0_3, .int .i64 a0_4, .int .i64 a0_5, .int .i64 a0_6]) (t := 26) ?hr ?_; (case hd => rfl); (case hg => rfl); (case hr => first | (go_simp; done) | (go_simp; rfl)); intro Ag hg w36 hbox hb; have Aa := Am (hbox); have Ah := Am ((by rw [hg]; exact (below_size (pB HB.out)) : w.heap.size ≤ Ag)); replace HB := Am (below_step (pB HB.out) hb); have Ab := Ah; clear hb hbox hg; obtain ⟨_, _, _, _, _, _, _⟩ := bc7 Aa.out; obtain ⟨_, _, _, _, _, _, _⟩ := bf7 Aa.out) | ((with_reducible refine gate_callee (f := 20) rfl ?_); refine goesL_ (some 10) rfl rfl Try.func20 (by kernel_rfl) rfl #[.agg #[.int .i64 a0_0, .int .i64 a0_1, .slice A0_2 l0_2.length c0_2, .int .i64 a0_3, .int .i64 a0_4, .int .i64 a0_5, .int .i64 a0_6]] rfl pL ?_; (with_reducible refine (raft_Last.calls k a0_0 a0_1 _ _ l0_2 a0_3 a0_4 a0_5 a0_6 t155 t156 _ ?Ac ?Ad A3.out).mono ?_); (case Ac => exact pC (Kd.C_below Ae.out HB.out)); (case Ad => exact Af.out); rintro e w38 ⟨rfl, hb⟩; refine ⟨_, rfl, ?_⟩; replace Aa := kBa Aa hb; replace HB := Am (below_step (pE HB.out Ab.out) hb); (try clear hb); (try clear hb2); (try clear hk); (try clear hi); obtain ⟨_, _, _, _, _, _, _⟩ := bc7 Aa.out; obtain ⟨_, _, _, _, _, _, _⟩ := bf7 Aa.out) | ((with_reducible refine gate_callee (f := 21) rfl ?_); refine goesL_ (some 15) rfl rfl Try.func21 (by kernel_rfl) rfl #[.agg #[.int .i64 a0_0, .int .i64 a0_1, .slice A0_2 l0_2.length c0_2, .int .i64 a0_3, .int .i64 a0_4, .int .i64 a0_5, .int .i64 a0_6]] rfl pL ?_; (with_reducible refine (raft_Check.calls k a0_0 a0_1 _ _ l0_2 a0_3 a0_4 a0_5 a0_6 t157 _ ?Ac ?Ad A4.out).mono ?_); (case Ac => exact pC (Kd.C_below Ae.out HB.out)); (case Ad => exact Af.out); rintro e w40 ⟨rfl, hb⟩; refine ⟨_, rfl, ?_⟩; replace Aa := kBa Aa hb; replace HB := Am (below_step (pE HB.out Ab.out) hb); (try clear hb); (try clear hb2); (try clear hk); (try clear hi)))
  go_ret2
  exact ⟨pX, pE HB.out Ab.out⟩
 rw [if_pos c5] at H
 have c5b0 : (t157 == 0) = true := beq_iff_eq.mpr c5
 have c5b1 : (t157 != 0) = false := bne_eq_false_iff_eq.mpr c5
 clear c5
 by_cases c6 : a1 < a0_0
 ·rw [if_pos c6] at H
  have c6b0 : decide (a1 < a0_0) = true := decide_eq_true c6
  clear c6
  simp only [Option.some.injEq, Prod.mk.injEq] at H
  obtain ⟨rfl, rfl⟩ := H
  go_enter Try.func25, Try.ntmps25
  go_wp2_with (first | ((with_reducible refine gate_dst (N := 2) rfl ?_); refine box_event ?hg (N := 2) ?hd (cs := #[.int .i64 a0_0, .int .i64 a0_1, .slice A0_2 l0_2.length c0_2, .int .i64 a0_3, .int .i64 a0_4, .int .i64 a0_5, .int .i64 a0_6]) (t := 26) ?hr ?_; (case hd => rfl); (case hg => rfl); (case hr => first | (go_simp; done) | (go_simp; rfl)); intro Ag hg w7 hbox hb; have Aa := Am (hbox); have Ah := Am ((by rw [hg]; exact (below_size (pB HB.out)) : w.heap.size ≤ Ag)); replace HB := Am (below_step (pB HB.out) hb); have Ab := Ah; clear hb hbox hg; obtain ⟨_, _, _, _, _, _, _⟩ := bc7 Aa.out; obtain ⟨_, _, _, _, _, _, _⟩ := bf7 Aa.out) | ((with_reducible refine gate_callee (f := 20) rfl ?_); refine goesL_ (some 10) rfl rfl Try.func20 (by kernel_rfl) rfl #[.agg #[.int .i64 a0_0, .int .i64 a0_1, .slice A0_2 l0_2.length c0_2, .int .i64 a0_3, .int .i64 a0_4, .int .i64 a0_5, .int .i64 a0_6]] rfl pL ?_; (with_reducible refine (raft_Last.calls k a0_0 a0_1 _ _ l0_2 a0_3 a0_4 a0_5 a0_6 t155 t156 _ ?Ac ?Ad A3.out).mono ?_); (case Ac => exact pC (Kd.C_below Ae.out HB.out)); (case Ad => exact Af.out); rintro e w9 ⟨rfl, hb⟩; refine ⟨_, rfl, ?_⟩; replace Aa := kBa Aa hb; replace HB := Am (below_step (pE HB.out Ab.out) hb); (try clear hb); (try clear hb2); (try clear hk); (try clear hi); obtain ⟨_, _, _, _, _, _, _⟩ := bc7 Aa.out; obtain ⟨_, _, _, _, _, _, _⟩ := bf7 Aa.out) | ((with_reducible refine gate_callee (f := 21) rfl ?_); refine goesL_ (some 15) rfl rfl Try.func21 (by kernel_rfl) rfl #[.agg #[.int .i64 a0_0, .int .i64 a0_1, .slice A0_2 l0_2.length c0_2, .int .i64 a0_3, .int .i64 a0_4, .int .i64 a0_5, .int .i64 a0_6]] rfl pL ?_; (with_reducible refine (raft_Check.calls k a0_0 a0_1 _ _ l0_2 a0_3 a0_4 a0_5 a0_6 t157 _ ?Ac ?Ad A4.out).mono ?_); (case Ac => exact pC (Kd.C_below Ae.out HB.out)); (case Ad => exact Af.out); rintro e w11 ⟨rfl, hb⟩; refine ⟨_, rfl, ?_⟩; replace Aa := kBa Aa hb; replace HB := Am (below_step (pE HB.out Ab.out) hb); (try clear hb); (try clear hb2); (try clear hk); (try clear hi); obtain ⟨_, _, _, _, _, _, _⟩ := bc7 Aa.out; obtain ⟨_, _, _, _, _, _, _⟩ := bf7 Aa.out))
  go_ret2
  exact ⟨pX, pE HB.out Ab.out⟩
 rw [if_neg c6] at H
 have c6b0 : decide (a1 < a0_0) = false := decide_eq_false c6
 clear c6
 by_cases c13 : a1 > t155
 ·rw [if_pos c13] at H
  have c13b0 : decide (t155 < a1) = true := decide_eq_true c13
  clear c13
  simp only [Option.some.injEq, Prod.mk.injEq] at H
  obtain ⟨rfl, rfl⟩ := H
  go_enter Try.func25, Try.ntmps25
  go_wp2_with (first | ((with_reducible refine gate_dst (N := 2) rfl ?_); refine box_event ?hg (N := 2) ?hd (cs := #[.int .i64 a0_0, .int .i64 a0_1, .slice A0_2 l0_2.length c0_2, .int .i64 a0_3, .int .i64 a0_4, .int .i64 a0_5, .int .i64 a0_6]) (t := 26) ?hr ?_; (case hd => rfl); (case hg => rfl); (case hr => first | (go_simp; done) | (go_simp; rfl)); intro Ag hg w14 hbox hb; have Aa := Am (hbox); have Ah := Am ((by rw [hg]; exact (below_size (pB HB.out)) : w.heap.size ≤ Ag)); replace HB := Am (below_step (pB HB.out) hb); have Ab := Ah; clear hb hbox hg; obtain ⟨_, _, _, _, _, _, _⟩ := bc7 Aa.out; obtain ⟨_, _, _, _, _, _, _⟩ := bf7 Aa.out) | ((with_reducible refine gate_callee (f := 20) rfl ?_); refine goesL_ (some 10) rfl rfl Try.func20 (by kernel_rfl) rfl #[.agg #[.int .i64 a0_0, .int .i64 a0_1, .slice A0_2 l0_2.length c0_2, .int .i64 a0_3, .int .i64 a0_4, .int .i64 a0_5, .int .i64 a0_6]] rfl pL ?_; (with_reducible refine (raft_Last.calls k a0_0 a0_1 _ _ l0_2 a0_3 a0_4 a0_5 a0_6 t155 t156 _ ?Ac ?Ad A3.out).mono ?_); (case Ac => exact pC (Kd.C_below Ae.out HB.out)); (case Ad => exact Af.out); rintro e w16 ⟨rfl, hb⟩; refine ⟨_, rfl, ?_⟩; replace Aa := kBa Aa hb; replace HB := Am (below_step (pE HB.out Ab.out) hb); (try clear hb); (try clear hb2); (try clear hk); (try clear hi); obtain ⟨_, _, _, _, _, _, _⟩ := bc7 Aa.out; obtain ⟨_, _, _, _, _, _, _⟩ := bf7 Aa.out) | ((with_reducible refine gate_callee (f := 21) rfl ?_); refine goesL_ (some 15) rfl rfl Try.func21 (by kernel_rfl) rfl #[.agg #[.int .i64 a0_0, .int .i64 a0_1, .slice A0_2 l0_2.length c0_2, .int .i64 a0_3, .int .i64 a0_4, .int .i64 a0_5, .int .i64 a0_6]] rfl pL ?_; (with_reducible refine (raft_Check.calls k a0_0 a0_1 _ _ l0_2 a0_3 a0_4 a0_5 a0_6 t157 _ ?Ac ?Ad A4.out).mono ?_); (case Ac => exact pC (Kd.C_below Ae.out HB.out)); (case Ad => exact Af.out); rintro e w18 ⟨rfl, hb⟩; refine ⟨_, rfl, ?_⟩; replace Aa := kBa Aa hb; replace HB := Am (below_step (pE HB.out Ab.out) hb); (try clear hb); (try clear hb2); (try clear hk); (try clear hi); obtain ⟨_, _, _, _, _, _, _⟩ := bc7 Aa.out; obtain ⟨_, _, _, _, _, _, _⟩ := bf7 Aa.out))
  go_ret2
  exact ⟨pX, pE HB.out Ab.out⟩
 rw [if_neg c13] at H
 have c13b0 : decide (t155 < a1) = false := decide_eq_false c13
 clear c13
 by_cases c20 : a1 = a0_0
 ·rw [if_pos c20] at H
  have c20b0 : (a1 == a0_0) = true := beq_iff_eq.mpr c20
  have c20b1 : (a1 != a0_0) = false := bne_eq_false_iff_eq.mpr c20
  clear c20
  simp only [Option.some.injEq, Prod.mk.injEq] at H
  obtain ⟨rfl, rfl⟩ := H
  go_enter Try.func25, Try.ntmps25
  go_wp2_with (first | ((with_reducible refine gate_dst (N := 2) rfl ?_); refine box_event ?hg (N := 2) ?hd (cs := #[.int .i64 a0_0, .int .i64 a0_1, .slice A0_2 l0_2.length c0_2, .int .i64 a0_3, .int .i64 a0_4, .int .i64 a0_5, .int .i64 a0_6]) (t := 26) ?hr ?_; (case hd => rfl); (case hg => rfl); (case hr => first | (go_simp; done) | (go_simp; rfl)); intro Ag hg w21 hbox hb; have Aa := Am (hbox); have Ah := Am ((by rw [hg]; exact (below_size (pB HB.out)) : w.heap.size ≤ Ag)); replace HB := Am (below_step (pB HB.out) hb); have Ab := Ah; clear hb hbox hg; obtain ⟨_, _, _, _, _, _, _⟩ := bc7 Aa.out; obtain ⟨_, _, _, _, _, _, _⟩ := bf7 Aa.out) | ((with_reducible refine gate_callee (f := 20) rfl ?_); refine goesL_ (some 10) rfl rfl Try.func20 (by kernel_rfl) rfl #[.agg #[.int .i64 a0_0, .int .i64 a0_1, .slice A0_2 l0_2.length c0_2, .int .i64 a0_3, .int .i64 a0_4, .int .i64 a0_5, .int .i64 a0_6]] rfl pL ?_; (with_reducible refine (raft_Last.calls k a0_0 a0_1 _ _ l0_2 a0_3 a0_4 a0_5 a0_6 t155 t156 _ ?Ac ?Ad A3.out).mono ?_); (case Ac => exact pC (Kd.C_below Ae.out HB.out)); (case Ad => exact Af.out); rintro e w23 ⟨rfl, hb⟩; refine ⟨_, rfl, ?_⟩; replace Aa := kBa Aa hb; replace HB := Am (below_step (pE HB.out Ab.out) hb); (try clear hb); (try clear hb2); (try clear hk); (try clear hi); obtain ⟨_, _, _, _, _, _, _⟩ := bc7 Aa.out; obtain ⟨_, _, _, _, _, _, _⟩ := bf7 Aa.out) | ((with_reducible refine gate_callee (f := 21) rfl ?_); refine goesL_ (some 15) rfl rfl Try.func21 (by kernel_rfl) rfl #[.agg #[.int .i64 a0_0, .int .i64 a0_1, .slice A0_2 l0_2.length c0_2, .int .i64 a0_3, .int .i64 a0_4, .int .i64 a0_5, .int .i64 a0_6]] rfl pL ?_; (with_reducible refine (raft_Check.calls k a0_0 a0_1 _ _ l0_2 a0_3 a0_4 a0_5 a0_6 t157 _ ?Ac ?Ad A4.out).mono ?_); (case Ac => exact pC (Kd.C_below Ae.out HB.out)); (case Ad => exact Af.out); rintro e w25 ⟨rfl, hb⟩; refine ⟨_, rfl, ?_⟩; replace Aa := kBa Aa hb; replace HB := Am (below_step (pE HB.out Ab.out) hb); (try clear hb); (try clear hb2); (try clear hk); (try clear hi); obtain ⟨_, _, _, _, _, _, _⟩ := bc7 Aa.out; obtain ⟨_, _, _, _, _, _, _⟩ := bf7 Aa.out))
  go_ret2
  exact ⟨pX, pE HB.out Ab.out⟩
 rw [if_neg c20] at H
 have c20b0 : (a1 == a0_0) = false := beq_eq_false_iff_ne.mpr c20
 have c20b1 : (a1 != a0_0) = true := bne_iff_ne.mpr c20
 obtain ⟨ji27, hji27⟩ : ∃ j_ : Int, (wrap64 ((wrap64 (a1 - a0_0)) - 1)) = j_ := ⟨_, rfl⟩
 replace H : (if 0 ≤ (ji27) then (if (ji27) < (l0_2.length : Int) then (some ((rd_T55 l0_2 (ji27)).f1, 0)) else (none)) else (none)) = some (r1, r2) := by first | (rw [hji27] at H; exact H) | (simp only [hji27] at H ⊢; exact H)
 (try rw [hji27] at A3)
 (try rw [hji27] at A4)
 have hji27w : (IntKind.i64.wrap ((wrap64 (a1 - a0_0)) - 1)) = ji27 := (i64_w _).trans hji27
 by_cases c28 : 0 ≤ (ji27)
 rotate_left
 ·rw [if_neg c28] at H
  exact absurd H (by simp)
 rw [if_pos c28] at H
 have c28b0 : decide (0 ≤ (ji27)) = true := decide_eq_true c28
 clear c28
 by_cases c29 : (ji27) < (l0_2.length : Int)
 rotate_left
 ·rw [if_neg c29] at H
  exact absurd H (by simp)
 rw [if_pos c29] at H
 have c29b0 : decide ((ji27) < (l0_2.length : Int)) = true := decide_eq_true c29
 clear c29
 simp only [Option.some.injEq, Prod.mk.injEq] at H
 obtain ⟨rfl, rfl⟩ := H
 go_enter Try.func25, Try.ntmps25
 go_wp2_with (first | ((with_reducible refine gate_dst (N := 2) rfl ?_); refine box_event ?hg (N := 2) ?hd (cs := #[.int .i64 a0_0, .int .i64 a0_1, .slice A0_2 l0_2.length c0_2, .int .i64 a0_3, .int .i64 a0_4, .int .i64 a0_5, .int .i64 a0_6]) (t := 26) ?hr ?_; (case hd => rfl); (case hg => rfl); (case hr => first | (go_simp; done) | (go_simp; rfl)); intro Ag hg w30 hbox hb; have Aa := Am (hbox); have Ah := Am ((by rw [hg]; exact (below_size (pB HB.out)) : w.heap.size ≤ Ag)); replace HB := Am (below_step (pB HB.out) hb); have Ab := Ah; clear hb hbox hg; obtain ⟨_, _, _, _, _, _, _⟩ := bc7 Aa.out; obtain ⟨_, _, _, _, _, _, _⟩ := bf7 Aa.out) | ((with_reducible refine gate_callee (f := 20) rfl ?_); refine goesL_ (some 10) rfl rfl Try.func20 (by kernel_rfl) rfl #[.agg #[.int .i64 a0_0, .int .i64 a0_1, .slice A0_2 l0_2.length c0_2, .int .i64 a0_3, .int .i64 a0_4, .int .i64 a0_5, .int .i64 a0_6]] rfl pL ?_; (with_reducible refine (raft_Last.calls k a0_0 a0_1 _ _ l0_2 a0_3 a0_4 a0_5 a0_6 t155 t156 _ ?Ac ?Ad A3.out).mono ?_); (case Ac => exact pC (Kd.C_below Ae.out HB.out)); (case Ad => exact Af.out); rintro e w32 ⟨rfl, hb⟩; refine ⟨_, rfl, ?_⟩; replace Aa := kBa Aa hb; replace HB := Am (below_step (pE HB.out Ab.out) hb); (try clear hb); (try clear hb2); (try clear hk); (try clear hi); obtain ⟨_, _, _, _, _, _, _⟩ := bc7 Aa.out; obtain ⟨_, _, _, _, _, _, _⟩ := bf7 Aa.out) | ((with_reducible refine gate_callee (f := 21) rfl ?_); refine goesL_ (some 15) rfl rfl Try.func21 (by kernel_rfl) rfl #[.agg #[.int .i64 a0_0, .int .i64 a0_1, .slice A0_2 l0_2.length c0_2, .int .i64 a0_3, .int .i64 a0_4, .int .i64 a0_5, .int .i64 a0_6]] rfl pL ?_; (with_reducible refine (raft_Check.calls k a0_0 a0_1 _ _ l0_2 a0_3 a0_4 a0_5 a0_6 t157 _ ?Ac ?Ad A4.out).mono ?_); (case Ac => exact pC (Kd.C_below Ae.out HB.out)); (case Ad => exact Af.out); rintro e w34 ⟨rfl, hb⟩; refine ⟨_, rfl, ?_⟩; replace Aa := kBa Aa hb; replace HB := Am (below_step (pE HB.out Ab.out) hb); (try clear hb); (try clear hb2); (try clear hk); (try clear hi); obtain ⟨_, _, _, _, _, _, _⟩ := bc7 Aa.out; obtain ⟨_, _, _, _, _, _, _⟩ := bf7 Aa.out; have p158 : 0 ≤ ((ji27) : Int) := of_decide_eq_true pS; have q158 : (ji27) < (l0_2.length : Int) := of_decide_eq_true pS; obtain ⟨ad158, A158_5, c158_5, e158, Ai, Aj, Ak, Al, An, Ao, Ap, Aq, Ar, As, At, Au⟩ := at_T55 Ae.out (ji27) p158 q158; cases e158; replace Ai := cU HB.out Ai; replace Aj := cU HB.out Aj; replace Ak := cU HB.out Ak; replace Al := cU HB.out Al; replace An := cU HB.out An; replace Ao := cU HB.out Ao; replace Ap := cU HB.out Ap; replace Aq := cU HB.out Aq; replace Ar := cU HB.out Ar; replace As := cU HB.out As; have HR158_5 := Am Au; have HC158_5 := Am At; clear Au At; replace p158 := eq_true p158; replace q158 := eq_true q158))
 go_ret2
 exact ⟨by first | rfl | (simp [errW_none, errW_some] <;> rfl) | (simp only [← hji27]; first | rfl | (simp [errW_none, errW_some] <;> rfl)) | (simp [*, errW_none, errW_some] <;> rfl), pE HB.out Ab.out⟩
end Go.Proofs.Ytangfpcifdpfeaa.PRaftTurns
