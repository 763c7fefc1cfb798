/- What the law reaches, as plain Lean functions, and that the machine's calls answer just that. -/
import Derived.Test.YtkapmlijeilieaaPTallyJoinsx0
import Derived.Test.YtkapmlijeilieaaPTallyJoinsx1
import Derived.Test.YtkapmlijeilieaaPTallyJoinsx2
import Derived.Test.YtkapmlijeilieaaPTallyJoinsx3
namespace Go.Proofs.Ytkapmlijeilieaa.PTallyJoins
open Go.RowKit Go.Proofs.YtkapmlijeilieaaW.PrintWords Go.Proofs.YtkapmlijeilieaaW.PrintLast Go.Proofs.YtkapmlijeilieaaW.PrintMore
attribute [local go_sem] max2_int min2_int max_two min_two max_three min_three max_four min_four
set_option linter.unusedVariables false
set_option linter.unusedSimpArgs false
attribute [local go_sem] wrap64_l1 wrap64_l2 wrap64_l3 wrap64_l4 wrap64_l5
attribute [local go_sem high] eqA46
def garnerlaw09_awake.f (k : Nat)  : Option (Bool) := (tally_Of.f k (([(⟨3, 0, 5, 0⟩ : S43), (⟨3, 9, 7, 0⟩ : S43)] : List (S43)))).bind fun bt156 => (if bt156.2 = 0 then ((tally_Get.f k bt156.1 3).bind fun t160 => (if t160 = 12 then (some ((bt156.1.length : Int) == 1)) else (some false))) else (some false))
theorem garnerlaw09_awake.mono : ∀ k, LeO (garnerlaw09_awake.f k ) (garnerlaw09_awake.f (k + 1) ) := by
 intro  k
 unfold garnerlaw09_awake.f
 repeat' first
   | (with_reducible exact tally_Get.mono _ _ _)
   | (with_reducible exact tally_Of.mono _ _)
   | (with_reducible exact LeO.refl _)
   | (with_reducible exact LeO.none _)
   | (with_reducible refine LeO.ite ?_ ?_)
   | (with_reducible refine LeO.bind ?_ (fun _ => ?_))
   | exact tally_Get.mono _ _ _
   | exact tally_Of.mono _ _
   | exact LeO.none _
   | refine LeO.ite ?_ ?_
   | refine LeO.bind ?_ (fun _ => ?_)
set_option maxHeartbeats 8000000 in
set_option maxRecDepth 100000 in
theorem garnerlaw09_awake.calls (k : Nat)  (r : Bool) (w : World) (h : garnerlaw09_awake.f k  = some r) :
  Calls Try.prog 8 #[] w fun e w' => e = .returned (.bool r) ∧ Below w.heap.size w w' := by
 have hu43 := Try.underlying43
 have HB := Am (Below.refl w.heap.size w)
 have H : ((tally_Of.f k (([(⟨3, 0, 5, 0⟩ : S43), (⟨3, 9, 7, 0⟩ : S43)] : List (S43)))).bind fun bt156 => (if bt156.2 = 0 then ((tally_Get.f k bt156.1 3).bind fun t160 => (if t160 = 12 then (some ((bt156.1.length : Int) == 1)) else (some false))) else (some false))) = some r := h
 clear h
 obtain ⟨y153, hy153⟩ : ∃ y_ : List (S43), y_ = (([(⟨3, 0, 5, 0⟩ : S43), (⟨3, 9, 7, 0⟩ : S43)] : List (S43))) := ⟨_, rfl⟩
 replace H : ((tally_Of.f k y153).bind fun bt156 => (if bt156.2 = 0 then ((tally_Get.f k bt156.1 3).bind fun t160 => (if t160 = 12 then (some ((bt156.1.length : Int) == 1)) else (some false))) else (some false))) = some r := by first | (rw [hy153]; with_reducible exact H) | (have H2_ := (Option.bind_some _ _).symm.trans H; rw [hy153]; with_reducible exact H2_) | (have H2_ := (Option.bind_some _ _).symm.trans H; with_reducible exact H2_) | with_reducible exact H | (rw [hy153]; exact H) | exact H
 have Ny153 := Am hy153
 clear hy153
 replace H := Option.bind_eq_some_iff.mp H
 obtain ⟨⟨t156, t157⟩, A10, H⟩ := H
 replace H : (if t157 = 0 then ((tally_Get.f k t156 3).bind fun t160 => (if t160 = 12 then (some ((t156.length : Int) == 1)) else (some false))) else (some false)) = some r := H
 have A1 := Am A10
 clear A10
 by_cases c2 : t157 = 0
 rotate_left
 ·rw [if_neg c2] at H
  have c2b0 : (t157 == 0) = false := beq_eq_false_iff_ne.mpr c2
  have c2b1 : (t157 != 0) = true := bne_iff_ne.mpr c2
  obtain rfl := Option.some.inj H
  go_enter Try.func8, Try.ntmps8
  go_wp2_with (first | ((with_reducible refine gate_dst (N := 6) rfl ?_); (try (refine gate_guard (by rfl) ?_; dsimp only)); refine Kd.R_lit k43 _ 43 ?hg (N := 6) ?hd (xs := ([(⟨3, 0, 5, 0⟩ : S43), (⟨3, 9, 7, 0⟩ : S43)] : List (S43))) (inner := [.int .i64 3, .int .i64 0, .int .i64 5, .int .u32 0, .int .i64 3, .int .i64 9, .int .i64 7, .int .u32 0]) (ok := fun _ => True) (okp := fun _ => True) ?hr ?hp (fun _ hk => hk) trivial (Below.refl _ _) (Nat.le_refl _) (by simp) ?_; (case hd => rfl); (case hg => rfl); (case hr => first | (go_simp; done) | (go_simp; rfl)); (case hp => exact (Reps.c4 (show Kd.M k43 _ _ _ (⟨3, 0, 5, 0⟩ : S43) [.int .i64 3, .int .i64 0, .int .i64 5, .int .u32 0] from (k43_mkM _ _ _ (⟨3, 0, 5, 0⟩ : S43) )) (Reps.c4 (show Kd.M k43 _ _ _ (⟨3, 9, 7, 0⟩ : S43) [.int .i64 3, .int .i64 9, .int .i64 7, .int .u32 0] from (k43_mkM _ _ _ (⟨3, 9, 7, 0⟩ : S43) )) (Reps.none _ _)))); intro v154 w17 ho18 hb hg_ hnew_; clear hg_ hnew_; (first | rw [← Ny153.out] at ho18 | (simp only [Int.reduceToNat] at ho18; rw [← Ny153.out] at ho18)); have Aa := Am (Kd.R_lower ho18 (below_size (pB HB.out))); replace HB := Am (below_step (pB HB.out) hb); clear hb ho18; obtain ⟨Ai, Aj, Ak⟩ := Kd.R_slice Aa.out; subst Ak) | ((with_reducible refine gate_callee (f := 15) rfl ?_); refine goesL_ (some 7) rfl rfl Try.func15 (by kernel_rfl) rfl #[.slice Ai y153.length Aj] rfl pL ?_; (with_reducible refine (tally_Of.calls k _ _ y153 t156 t157 _ ?Ac ?Ad A1.out).mono ?_); (case Ac => exact pC (Kd.R_reads' Aa.out).2.2); (case Ad => exact (Kd.R_reads' Aa.out).2.1); rintro e w20 ⟨v158, rfl, ho0, hb⟩; refine ⟨_, rfl, ?_⟩; replace Aa := bRa Aa hb; have Ab := Am (Kd.R_lower ho0 (below_size (pB HB.out))); replace HB := Am (below_step (pB HB.out) hb); (try clear hb); (try clear hb2); (try clear hk); (try clear hi); (try clear ho0)))
  go_ret
  exact ⟨pX, pB HB.out⟩
 rw [if_pos c2] at H
 have c2b0 : (t157 == 0) = true := beq_iff_eq.mpr c2
 have c2b1 : (t157 != 0) = false := bne_eq_false_iff_eq.mpr c2
 clear c2
 replace H := Option.bind_eq_some_iff.mp H
 obtain ⟨t160, A30, H⟩ := H
 replace H : (if t160 = 12 then (some ((t156.length : Int) == 1)) else (some false)) = some r := H
 have A3 := Am A30
 clear A30
 by_cases c4 : t160 = 12
 rotate_left
 ·rw [if_neg c4] at H
  have c4b0 : (t160 == 12) = false := beq_eq_false_iff_ne.mpr c4
  have c4b1 : (t160 != 12) = true := bne_iff_ne.mpr c4
  obtain rfl := Option.some.inj H
  go_enter Try.func8, Try.ntmps8
  go_wp2_with (first | ((with_reducible refine gate_dst (N := 6) rfl ?_); (try (refine gate_guard (by rfl) ?_; dsimp only)); refine Kd.R_lit k43 _ 43 ?hg (N := 6) ?hd (xs := ([(⟨3, 0, 5, 0⟩ : S43), (⟨3, 9, 7, 0⟩ : S43)] : List (S43))) (inner := [.int .i64 3, .int .i64 0, .int .i64 5, .int .u32 0, .int .i64 3, .int .i64 9, .int .i64 7, .int .u32 0]) (ok := fun _ => True) (okp := fun _ => True) ?hr ?hp (fun _ hk => hk) trivial (Below.refl _ _) (Nat.le_refl _) (by simp) ?_; (case hd => rfl); (case hg => rfl); (case hr => first | (go_simp; done) | (go_simp; rfl)); (case hp => exact (Reps.c4 (show Kd.M k43 _ _ _ (⟨3, 0, 5, 0⟩ : S43) [.int .i64 3, .int .i64 0, .int .i64 5, .int .u32 0] from (k43_mkM _ _ _ (⟨3, 0, 5, 0⟩ : S43) )) (Reps.c4 (show Kd.M k43 _ _ _ (⟨3, 9, 7, 0⟩ : S43) [.int .i64 3, .int .i64 9, .int .i64 7, .int .u32 0] from (k43_mkM _ _ _ (⟨3, 9, 7, 0⟩ : S43) )) (Reps.none _ _)))); intro v154 w11 ho12 hb hg_ hnew_; clear hg_ hnew_; (first | rw [← Ny153.out] at ho12 | (simp only [Int.reduceToNat] at ho12; rw [← Ny153.out] at ho12)); have Aa := Am (Kd.R_lower ho12 (below_size (pB HB.out))); replace HB := Am (below_step (pB HB.out) hb); clear hb ho12; obtain ⟨Ae, Af, Ag⟩ := Kd.R_slice Aa.out; subst Ag) | ((with_reducible refine gate_callee (f := 15) rfl ?_); refine goesL_ (some 7) rfl rfl Try.func15 (by kernel_rfl) rfl #[.slice Ae y153.length Af] rfl pL ?_; (with_reducible refine (tally_Of.calls k _ _ y153 t156 t157 _ ?Ac ?Ad A1.out).mono ?_); (case Ac => exact pC (Kd.R_reads' Aa.out).2.2); (case Ad => exact (Kd.R_reads' Aa.out).2.1); rintro e w14 ⟨v158, rfl, ho0, hb⟩; refine ⟨_, rfl, ?_⟩; replace Aa := bRa Aa hb; have Ab := Am (Kd.R_lower ho0 (below_size (pB HB.out))); replace HB := Am (below_step (pB HB.out) hb); (try clear hb); (try clear hb2); (try clear hk); (try clear hi); (try clear ho0); obtain ⟨Ao15, co15, Ah⟩ := Kd.R_slice Ab.out; subst Ah) | (go_at_call 13; (with_reducible refine (tally_Get.calls k _ _ t156 3 t160 _ ?Ac ?Ad A3.out).mono ?_); (case Ac => exact pC (Kd.R_reads' Ab.out).2.2); (case Ad => exact (Kd.R_reads' Ab.out).2.1); rintro e w16 ⟨rfl, hb⟩; replace Aa := bRa Aa hb; replace Ab := bRa Ab hb; replace HB := Am (below_step (pB HB.out) hb); (try clear hb); (try clear hb2); (try clear hk); (try clear hi)))
  go_ret
  exact ⟨pX, pB HB.out⟩
 rw [if_pos c4] at H
 have c4b0 : (t160 == 12) = true := beq_iff_eq.mpr c4
 have c4b1 : (t160 != 12) = false := bne_eq_false_iff_eq.mpr c4
 clear c4
 obtain rfl := Option.some.inj H
 go_enter Try.func8, Try.ntmps8
 go_wp2_with (first | ((with_reducible refine gate_dst (N := 6) rfl ?_); (try (refine gate_guard (by rfl) ?_; dsimp only)); refine Kd.R_lit k43 _ 43 ?hg (N := 6) ?hd (xs := ([(⟨3, 0, 5, 0⟩ : S43), (⟨3, 9, 7, 0⟩ : S43)] : List (S43))) (inner := [.int .i64 3, .int .i64 0, .int .i64 5, .int .u32 0, .int .i64 3, .int .i64 9, .int .i64 7, .int .u32 0]) (ok := fun _ => True) (okp := fun _ => True) ?hr ?hp (fun _ hk => hk) trivial (Below.refl _ _) (Nat.le_refl _) (by simp) ?_; (case hd => rfl); (case hg => rfl); (case hr => first | (go_simp; done) | (go_simp; rfl)); (case hp => exact (Reps.c4 (show Kd.M k43 _ _ _ (⟨3, 0, 5, 0⟩ : S43) [.int .i64 3, .int .i64 0, .int .i64 5, .int .u32 0] from (k43_mkM _ _ _ (⟨3, 0, 5, 0⟩ : S43) )) (Reps.c4 (show Kd.M k43 _ _ _ (⟨3, 9, 7, 0⟩ : S43) [.int .i64 3, .int .i64 9, .int .i64 7, .int .u32 0] from (k43_mkM _ _ _ (⟨3, 9, 7, 0⟩ : S43) )) (Reps.none _ _)))); intro v154 w5 ho6 hb hg_ hnew_; clear hg_ hnew_; (first | rw [← Ny153.out] at ho6 | (simp only [Int.reduceToNat] at ho6; rw [← Ny153.out] at ho6)); have Aa := Am (Kd.R_lower ho6 (below_size (pB HB.out))); replace HB := Am (below_step (pB HB.out) hb); clear hb ho6; obtain ⟨Al, An, Ao⟩ := Kd.R_slice Aa.out; subst Ao) | ((with_reducible refine gate_callee (f := 15) rfl ?_); refine goesL_ (some 7) rfl rfl Try.func15 (by kernel_rfl) rfl #[.slice Al y153.length An] rfl pL ?_; (with_reducible refine (tally_Of.calls k _ _ y153 t156 t157 _ ?Ac ?Ad A1.out).mono ?_); (case Ac => exact pC (Kd.R_reads' Aa.out).2.2); (case Ad => exact (Kd.R_reads' Aa.out).2.1); rintro e w8 ⟨v158, rfl, ho0, hb⟩; refine ⟨_, rfl, ?_⟩; replace Aa := bRa Aa hb; have Ab := Am (Kd.R_lower ho0 (below_size (pB HB.out))); replace HB := Am (below_step (pB HB.out) hb); (try clear hb); (try clear hb2); (try clear hk); (try clear hi); (try clear ho0); obtain ⟨Ao9, co9, Ap⟩ := Kd.R_slice Ab.out; subst Ap) | (go_at_call 13; (with_reducible refine (tally_Get.calls k _ _ t156 3 t160 _ ?Ac ?Ad A3.out).mono ?_); (case Ac => exact pC (Kd.R_reads' Ab.out).2.2); (case Ad => exact (Kd.R_reads' Ab.out).2.1); rintro e w10 ⟨rfl, hb⟩; replace Aa := bRa Aa hb; replace Ab := bRa Ab hb; replace HB := Am (below_step (pB HB.out) hb); (try clear hb); (try clear hb2); (try clear hk); (try clear hi)))
 go_ret
 exact ⟨pX, pB HB.out⟩
def garnerref09_May.l0 : Nat → List (S46) → Int → Option (Bool)
 | 0, _, _ => none
 | k + 1, x0, x3 => if x3 < (x0.length : Int) then (if 0 ≤ x3 then (if ((rd_T46 x0 x3).f0) < 1 then (some false) else (if ((rd_T46 x0 x3).f0) > 2147483647 then (some false) else (if ((rd_T46 x0 x3).f1) < 1 then (some false) else (if ((rd_T46 x0 x3).f1) > 1099511627776 then (some false) else (if x3 > 0 then (if 0 ≤ (wrap64 (x3 - 1)) then (if (wrap64 (x3 - 1)) < (x0.length : Int) then (if ((rd_T46 x0 x3).f0) ≤ ((rd_T46 x0 (wrap64 (x3 - 1))).f0) then (some false) else (garnerref09_May.l0 k x0 (wrap64 (x3 + 1)))) else (none)) else (none)) else (garnerref09_May.l0 k x0 (wrap64 (x3 + 1)))))))) else (none)) else (some (decide ((x0.length : Int) ≤ 4096)))
def garnerref09_May.f (k : Nat) (l0 : List (S46)) : Option (Bool) := garnerref09_May.l0 k l0 0
theorem garnerref09_May.mono_l : ∀ k, (∀ y0 y1, LeO (garnerref09_May.l0 k y0 y1) (garnerref09_May.l0 (k + 1) y0 y1))
 | 0 => fun _ _ r h => by simp [garnerref09_May.l0] at h
 | k + 1 => by
  have ih0 := garnerref09_May.mono_l k
  ·intro y0 y1
   unfold garnerref09_May.l0
   repeat' first
   | (with_reducible exact ih0 _ _)
   | (with_reducible exact LeO.refl _)
   | (with_reducible exact LeO.none _)
   | (with_reducible refine LeO.ite ?_ ?_)
   | (with_reducible refine LeO.bind ?_ (fun _ => ?_))
   | exact ih0 _ _
   | exact LeO.none _
   | refine LeO.ite ?_ ?_
   | refine LeO.bind ?_ (fun _ => ?_)
theorem garnerref09_May.mono : ∀ a0 k, LeO (garnerref09_May.f k a0) (garnerref09_May.f (k + 1) a0) := by
 intro a0 k
 have ih0 := garnerref09_May.mono_l k
 unfold garnerref09_May.f
 repeat' first
   | (with_reducible exact ih0 _ _)
   | (with_reducible exact LeO.refl _)
   | (with_reducible exact LeO.none _)
   | (with_reducible refine LeO.ite ?_ ?_)
   | (with_reducible refine LeO.bind ?_ (fun _ => ?_))
   | exact ih0 _ _
   | exact LeO.none _
   | refine LeO.ite ?_ ?_
   | refine LeO.bind ?_ (fun _ => ?_)
set_option maxHeartbeats 8000000 in
set_option maxRecDepth 100000 in
theorem garnerref09_May.calls (k : Nat) (A0 : Option Addr) (c0 : Nat) (l0 : List (S46)) (r : Bool) (w : World) (hr0 : Kd.C k46 w A0 l0.length l0) (hc0 : l0.length ≤ c0) (h : garnerref09_May.f k l0 = some r) :
  Calls Try.prog 10 #[.slice A0 l0.length c0] w fun e w' => e = .returned (.bool r) ∧ Drawn0 w w' := by
 have HR0 := Am hr0
 have HC0 := Am hc0
 clear hr0 hc0
 have H : (garnerref09_May.l0 k l0 0) = some r := h
 clear h
 have H' := Am H
 clear H
 go_enter Try.func10, Try.ntmps10
 go_wp2
 repeat (go_quiet (fail); try go_wp2)
 go_loopg [3] k (fun kq v3 w' => ∃ (Aa : Int), v3 = .int .i64 Aa ∧ Aside0 (garnerref09_May.l0 kq l0 Aa = some r) ∧ Aside0 (kq ≤ k) ∧ Drawn0 w w')
 case atStart => exact ⟨(0), (by first | rfl | (simp; done) | (simp [*]; done)), H', ⟨Nat.le_refl _⟩, by repeat (first | exact Drawn0.refl _ | apply Drawn0.step)⟩
 case round =>
  clear H'
  try clear c1
  obtain ⟨Aa, rfl, HA, HK1, ⟨m1, rfl⟩⟩ := hrel
  cases gk with
  | zero => exact absurd HA.out (by simp [garnerref09_May.l0])
  | succ k1 =>
   have H := HA.out
   clear HA
   simp only [garnerref09_May.l0] at H
   by_cases c2 : Aa < (l0.length : Int)
   rotate_left
   ·rw [if_neg c2] at H
    have c2b0 : decide (Aa < (l0.length : Int)) = false := decide_eq_false c2
    clear c2
    obtain rfl := Option.some.inj H
    go_wp2
    repeat (go_quiet (fail); try go_wp2)
    go_ret
    exact ⟨by first | rfl | (simp; done) | (simp [*]; done), by repeat (first | exact Drawn0.refl _ | apply Drawn0.step)⟩
   rw [if_pos c2] at H
   have c2b0 : decide (Aa < (l0.length : Int)) = true := decide_eq_true c2
   clear c2
   by_cases c3 : 0 ≤ Aa
   rotate_left
   ·rw [if_neg c3] at H
    exact absurd H (by simp)
   rw [if_pos c3] at H
   have c3b0 : decide (0 ≤ Aa) = true := decide_eq_true c3
   clear c3
   by_cases c4 : ((rd_T46 l0 Aa).f0) < 1
   ·rw [if_pos c4] at H
    have c4b0 : decide (((rd_T46 l0 Aa).f0) < 1) = true := decide_eq_true c4
    clear c4
    obtain rfl := Option.some.inj H
    have p161 : 0 ≤ (Aa : Int) := of_decide_eq_true pS
    have q161 : Aa < (l0.length : Int) := of_decide_eq_true pS
    obtain ⟨Ad, e161, Ab, Ac⟩ := at_T46 HR0.out Aa p161 q161
    cases e161
    replace p161 := eq_true p161
    replace q161 := eq_true q161
    go_wp2
    repeat (go_quiet (fail); try go_wp2)
    go_ret
    exact ⟨by first | rfl | (simp; done) | (simp [*]; done), by repeat (first | exact Drawn0.refl _ | apply Drawn0.step)⟩
   rw [if_neg c4] at H
   have c4b0 : decide (((rd_T46 l0 Aa).f0) < 1) = false := decide_eq_false c4
   clear c4
   by_cases c5 : ((rd_T46 l0 Aa).f0) > 2147483647
   ·rw [if_pos c5] at H
    have c5b0 : decide (2147483647 < ((rd_T46 l0 Aa).f0)) = true := decide_eq_true c5
    clear c5
    obtain rfl := Option.some.inj H
    have p161 : 0 ≤ (Aa : Int) := of_decide_eq_true pS
    have q161 : Aa < (l0.length : Int) := of_decide_eq_true pS
    obtain ⟨Ad, e161, Ab, Ac⟩ := at_T46 HR0.out Aa p161 q161
    cases e161
    replace p161 := eq_true p161
    replace q161 := eq_true q161
    go_wp2
    repeat (go_quiet (fail); try go_wp2)
    go_ret
    exact ⟨by first | rfl | (simp; done) | (simp [*]; done), by repeat (first | exact Drawn0.refl _ | apply Drawn0.step)⟩
   rw [if_neg c5] at H
   have c5b0 : decide (2147483647 < ((rd_T46 l0 Aa).f0)) = false := decide_eq_false c5
   clear c5
   by_cases c6 : ((rd_T46 l0 Aa).f1) < 1
   ·rw [if_pos c6] at H
    have c6b0 : decide (((rd_T46 l0 Aa).f1) < 1) = true := decide_eq_true c6
    clear c6
    obtain rfl := Option.some.inj H
    have p161 : 0 ≤ (Aa : Int) := of_decide_eq_true pS
    have q161 : Aa < (l0.length : Int) := of_decide_eq_true pS
    obtain ⟨Ad, e161, Ab, Ac⟩ := at_T46 HR0.out Aa p161 q161
    cases e161
    replace p161 := eq_true p161
    replace q161 := eq_true q161
    go_wp2
    repeat (go_quiet (fail); try go_wp2)
    go_ret
    exact ⟨by first | rfl | (simp; done) | (simp [*]; done), by repeat (first | exact Drawn0.refl _ | apply Drawn0.step)⟩
   rw [if_neg c6] at H
   have c6b0 : decide (((rd_T46 l0 Aa).f1) < 1) = false := decide_eq_false c6
   clear c6
   by_cases c7 : ((rd_T46 l0 Aa).f1) > 1099511627776
   ·rw [if_pos c7] at H
    have c7b0 : decide (1099511627776 < ((rd_T46 l0 Aa).f1)) = true := decide_eq_true c7
    clear c7
    obtain rfl := Option.some.inj H
    have p161 : 0 ≤ (Aa : Int) := of_decide_eq_true pS
    have q161 : Aa < (l0.length : Int) := of_decide_eq_true pS
    obtain ⟨Ad, e161, Ab, Ac⟩ := at_T46 HR0.out Aa p161 q161
    cases e161
    replace p161 := eq_true p161
    replace q161 := eq_true q161
    go_wp2
    repeat (go_quiet (fail); try go_wp2)
    go_ret
    exact ⟨by first | rfl | (simp; done) | (simp [*]; done), by repeat (first | exact Drawn0.refl _ | apply Drawn0.step)⟩
   rw [if_neg c7] at H
   have c7b0 : decide (1099511627776 < ((rd_T46 l0 Aa).f1)) = false := decide_eq_false c7
   clear c7
   by_cases c8 : Aa > 0
   rotate_left
   ·rw [if_neg c8] at H
    have c8b0 : decide (0 < Aa) = false := decide_eq_false c8
    clear c8
    have H' := Am H
    clear H
    have p161 : 0 ≤ (Aa : Int) := of_decide_eq_true pS
    have q161 : Aa < (l0.length : Int) := of_decide_eq_true pS
    obtain ⟨Ad, e161, Ab, Ac⟩ := at_T46 HR0.out Aa p161 q161
    cases e161
    replace p161 := eq_true p161
    replace q161 := eq_true q161
    go_wp2
    repeat (go_quiet (fail); try go_wp2)
    go_roundg k1
    case measure => have := HK1.out; omega
    case rel => exact ⟨(wrap64 (Aa + 1)), (by first | rfl | (simp; done) | (simp [*]; done)), H', ⟨by have := HK1.out; omega⟩, by repeat (first | exact Drawn0.refl _ | apply Drawn0.step)⟩
   rw [if_pos c8] at H
   have c8b0 : decide (0 < Aa) = true := decide_eq_true c8
   clear c8
   obtain ⟨ji9, hji9⟩ : ∃ j_ : Int, (wrap64 (Aa - 1)) = j_ := ⟨_, rfl⟩
   replace H : (if 0 ≤ (ji9) then (if (ji9) < (l0.length : Int) then (if ((rd_T46 l0 Aa).f0) ≤ ((rd_T46 l0 (ji9)).f0) then (some false) else (garnerref09_May.l0 k1 l0 (wrap64 (Aa + 1)))) else (none)) else (none)) = some r := by first | (rw [hji9] at H; exact H) | (simp only [hji9] at H ⊢; exact H)
   have hji9w : (IntKind.i64.wrap (Aa - 1)) = ji9 := (i64_w _).trans hji9
   by_cases c10 : 0 ≤ (ji9)
   rotate_left
   ·rw [if_neg c10] at H
    exact absurd H (by simp)
   rw [if_pos c10] at H
   have c10b0 : decide (0 ≤ (ji9)) = true := decide_eq_true c10
   clear c10
   by_cases c11 : (ji9) < (l0.length : Int)
   rotate_left
   ·rw [if_neg c11] at H
    exact absurd H (by simp)
   rw [if_pos c11] at H
   have c11b0 : decide ((ji9) < (l0.length : Int)) = true := decide_eq_true c11
   clear c11
   by_cases c12 : ((rd_T46 l0 Aa).f0) ≤ ((rd_T46 l0 (ji9)).f0)
   ·rw [if_pos c12] at H
    have c12b0 : decide (((rd_T46 l0 Aa).f0) ≤ ((rd_T46 l0 (ji9)).f0)) = true := decide_eq_true c12
    clear c12
    obtain rfl := Option.some.inj H
    have p161 : 0 ≤ (Aa : Int) := of_decide_eq_true pS
    have q161 : Aa < (l0.length : Int) := of_decide_eq_true pS
    obtain ⟨Ad, e161, Ab, Ac⟩ := at_T46 HR0.out Aa p161 q161
    cases e161
    replace p161 := eq_true p161
    replace q161 := eq_true q161
    have p166 : 0 ≤ ((ji9) : Int) := of_decide_eq_true pS
    have q166 : (ji9) < (l0.length : Int) := of_decide_eq_true pS
    obtain ⟨Ae, e166, Af, Ag⟩ := at_T46 HR0.out (ji9) p166 q166
    obtain rfl : Ad = Ae := (by injection e166)
    replace p166 := eq_true p166
    replace q166 := eq_true q166
    go_wp2
    repeat (go_quiet (fail); try go_wp2)
    go_ret
    exact ⟨by first | rfl | (simp; done) | (simp only [← hji9] <;> (first | rfl | simp)) | (simp [*]; done), by repeat (first | exact Drawn0.refl _ | apply Drawn0.step)⟩
   rw [if_neg c12] at H
   have c12b0 : decide (((rd_T46 l0 Aa).f0) ≤ ((rd_T46 l0 (ji9)).f0)) = false := decide_eq_false c12
   clear c12
   have H' := Am H
   clear H
   have p161 : 0 ≤ (Aa : Int) := of_decide_eq_true pS
   have q161 : Aa < (l0.length : Int) := of_decide_eq_true pS
   obtain ⟨Ad, e161, Ab, Ac⟩ := at_T46 HR0.out Aa p161 q161
   cases e161
   replace p161 := eq_true p161
   replace q161 := eq_true q161
   have p166 : 0 ≤ ((ji9) : Int) := of_decide_eq_true pS
   have q166 : (ji9) < (l0.length : Int) := of_decide_eq_true pS
   obtain ⟨Ae, e166, Af, Ag⟩ := at_T46 HR0.out (ji9) p166 q166
   obtain rfl : Ad = Ae := (by injection e166)
   replace p166 := eq_true p166
   replace q166 := eq_true q166
   go_wp2
   repeat (go_quiet (fail); try go_wp2)
   go_roundg k1
   case measure => have := HK1.out; omega
   case rel => exact ⟨(wrap64 (Aa + 1)), (by first | rfl | (simp; done) | (simp [*]; done)), H', ⟨by have := HK1.out; omega⟩, by repeat (first | exact Drawn0.refl _ | apply Drawn0.step)⟩
def garnerref09_Same.l0 : Nat → List (S46) → List (S46) → Int → Option (Bool)
 | 0, _, _, _ => none
 | k + 1, x0, x1, x5 => if x5 < (x0.length : Int) then (if 0 ≤ x5 then (if x5 < (x1.length : Int) then (if (!(((rd_T46 x0 x5).f0) == ((rd_T46 x1 x5).f0)) || (!(((rd_T46 x0 x5).f1) == ((rd_T46 x1 x5).f1)))) = true then (some false) else (garnerref09_Same.l0 k x0 x1 (wrap64 (x5 + 1)))) else (none)) else (none)) else (some true)
def garnerref09_Same.f (k : Nat) (l0 : List (S46)) (l1 : List (S46)) : Option (Bool) := if (l0.length : Int) = (l1.length : Int) then (garnerref09_Same.l0 k l0 l1 0) else (some false)
theorem garnerref09_Same.mono_l : ∀ k, (∀ y0 y1 y2, LeO (garnerref09_Same.l0 k y0 y1 y2) (garnerref09_Same.l0 (k + 1) y0 y1 y2))
 | 0 => fun _ _ _ r h => by simp [garnerref09_Same.l0] at h
 | k + 1 => by
  have ih0 := garnerref09_Same.mono_l k
  ·intro y0 y1 y2
   unfold garnerref09_Same.l0
   repeat' first
   | (with_reducible exact ih0 _ _ _)
   | (with_reducible exact LeO.refl _)
   | (with_reducible exact LeO.none _)
   | (with_reducible refine LeO.ite ?_ ?_)
   | (with_reducible refine LeO.bind ?_ (fun _ => ?_))
   | exact ih0 _ _ _
   | exact LeO.none _
   | refine LeO.ite ?_ ?_
   | refine LeO.bind ?_ (fun _ => ?_)
theorem garnerref09_Same.mono : ∀ a0 a1 k, LeO (garnerref09_Same.f k a0 a1) (garnerref09_Same.f (k + 1) a0 a1) := by
 intro a0 a1 k
 have ih0 := garnerref09_Same.mono_l k
 unfold garnerref09_Same.f
 repeat' first
   | (with_reducible exact ih0 _ _ _)
   | (with_reducible exact LeO.refl _)
   | (with_reducible exact LeO.none _)
   | (with_reducible refine LeO.ite ?_ ?_)
   | (with_reducible refine LeO.bind ?_ (fun _ => ?_))
   | exact ih0 _ _ _
   | exact LeO.none _
   | refine LeO.ite ?_ ?_
   | refine LeO.bind ?_ (fun _ => ?_)
set_option maxHeartbeats 8000000 in
set_option maxRecDepth 100000 in
theorem garnerref09_Same.calls (k : Nat) (A0 : Option Addr) (c0 : Nat) (l0 : List (S46)) (A1 : Option Addr) (c1 : Nat) (l1 : List (S46)) (r : Bool) (w : World) (hr0 : Kd.C k46 w A0 l0.length l0) (hc0 : l0.length ≤ c0) (hr1 : Kd.C k46 w A1 l1.length l1) (hc1 : l1.length ≤ c1) (h : garnerref09_Same.f k l0 l1 = some r) :
  Calls Try.prog 16 #[.slice A0 l0.length c0, .slice A1 l1.length c1] w fun e w' => e = .returned (.bool r) ∧ Drawn0 w w' := by
 have hu46 := Try.underlying46
 have HR0 := Am hr0
 have HC0 := Am hc0
 clear hr0 hc0
 have HR1 := Am hr1
 have HC1 := Am hc1
 clear hr1 hc1
 have H : (if (l0.length : Int) = (l1.length : Int) then (garnerref09_Same.l0 k l0 l1 0) else (some false)) = some r := h
 clear h
 by_cases c3 : (l0.length : Int) = (l1.length : Int)
 rotate_left
 ·rw [if_neg c3] at H
  have c3b0 : ((l0.length : Int) == (l1.length : Int)) = false := beq_eq_false_iff_ne.mpr c3
  have c3b1 : ((l0.length : Int) != (l1.length : Int)) = true := bne_iff_ne.mpr c3
  have c3b2 : (l0.length == l1.length) = false := by first | simpa using c3 | (simp at c3 ⊢; omega)
  obtain rfl := Option.some.inj H
  go_enter Try.func16, Try.ntmps16
  go_wp2
  repeat (go_quiet (fail); try go_wp2)
  go_ret
  exact ⟨by first | rfl | (simp; done) | (simp [*]; done), by repeat (first | exact Drawn0.refl _ | apply Drawn0.step)⟩
 rw [if_pos c3] at H
 have c3b0 : ((l0.length : Int) == (l1.length : Int)) = true := beq_iff_eq.mpr c3
 have c3b1 : ((l0.length : Int) != (l1.length : Int)) = false := bne_eq_false_iff_eq.mpr c3
 have c3b2 : (l0.length == l1.length) = true := by first | simpa using c3 | (simp at c3 ⊢; omega)
 clear c3
 have H' := Am H
 clear H
 go_enter Try.func16, Try.ntmps16
 go_wp2
 repeat (go_quiet (fail); try go_wp2)
 go_loopg [5] k (fun kq v5 w' => ∃ (Aa : Int), v5 = .int .i64 Aa ∧ Aside0 (garnerref09_Same.l0 kq l0 l1 Aa = some r) ∧ Aside0 (kq ≤ k) ∧ Drawn0 w w')
 case atStart => exact ⟨(0), (by first | rfl | (simp; done) | (simp [*]; done)), H', ⟨Nat.le_refl _⟩, by repeat (first | exact Drawn0.refl _ | apply Drawn0.step)⟩
 case round =>
  clear H'
  try clear c1
  try clear p2
  try clear c3
  try clear c3b0
  try clear c3b1
  try clear c3b2
  obtain ⟨Aa, rfl, HA, HK1, ⟨m1, rfl⟩⟩ := hrel
  cases gk with
  | zero => exact absurd HA.out (by simp [garnerref09_Same.l0])
  | succ k1 =>
   have H := HA.out
   clear HA
   simp only [garnerref09_Same.l0] at H
   by_cases c4 : Aa < (l0.length : Int)
   rotate_left
   ·rw [if_neg c4] at H
    have c4b0 : decide (Aa < (l0.length : Int)) = false := decide_eq_false c4
    clear c4
    obtain rfl := Option.some.inj H
    go_wp2
    repeat (go_quiet (fail); try go_wp2)
    go_ret
    exact ⟨by first | rfl | (simp; done) | (simp [*]; done), by repeat (first | exact Drawn0.refl _ | apply Drawn0.step)⟩
   rw [if_pos c4] at H
   have c4b0 : decide (Aa < (l0.length : Int)) = true := decide_eq_true c4
   clear c4
   by_cases c5 : 0 ≤ Aa
   rotate_left
   ·rw [if_neg c5] at H
    exact absurd H (by simp)
   rw [if_pos c5] at H
   have c5b0 : decide (0 ≤ Aa) = true := decide_eq_true c5
   clear c5
   by_cases c6 : Aa < (l1.length : Int)
   rotate_left
   ·rw [if_neg c6] at H
    exact absurd H (by simp)
   rw [if_pos c6] at H
   have c6b0 : decide (Aa < (l1.length : Int)) = true := decide_eq_true c6
   clear c6
   by_cases c7 : (!(((rd_T46 l0 Aa).f0) == ((rd_T46 l1 Aa).f0)) || (!(((rd_T46 l0 Aa).f1) == ((rd_T46 l1 Aa).f1)))) = true
   ·rw [if_pos c7] at H
    have c7b0 : (!(((rd_T46 l0 Aa).f0) == ((rd_T46 l1 Aa).f0)) || (!(((rd_T46 l0 Aa).f1) == ((rd_T46 l1 Aa).f1)))) = true := c7
    clear c7
    obtain rfl := Option.some.inj H
    have p167 : 0 ≤ (Aa : Int) := of_decide_eq_true pS
    have q167 : Aa < (l0.length : Int) := of_decide_eq_true pS
    obtain ⟨Af, e167, Ab, Ac⟩ := at_T46 HR0.out Aa p167 q167
    cases e167
    replace p167 := eq_true p167
    replace q167 := eq_true q167
    have p168 : 0 ≤ (Aa : Int) := of_decide_eq_true pS
    have q168 : Aa < (l1.length : Int) := of_decide_eq_true pS
    obtain ⟨Ag, e168, Ad, Ae⟩ := at_T46 HR1.out Aa p168 q168
    cases e168
    replace p168 := eq_true p168
    replace q168 := eq_true q168
    go_wp2
    repeat (go_quiet (fail); try go_wp2)
    go_ret
    exact ⟨by first | rfl | (simp; done) | (simp [*]; done), by repeat (first | exact Drawn0.refl _ | apply Drawn0.step)⟩
   rw [if_neg c7] at H
   have c7b0 : (!(((rd_T46 l0 Aa).f0) == ((rd_T46 l1 Aa).f0)) || (!(((rd_T46 l0 Aa).f1) == ((rd_T46 l1 Aa).f1)))) = false := by simpa using c7
   clear c7
   have H' := Am H
   clear H
   have p167 : 0 ≤ (Aa : Int) := of_decide_eq_true pS
   have q167 : Aa < (l0.length : Int) := of_decide_eq_true pS
   obtain ⟨Af, e167, Ab, Ac⟩ := at_T46 HR0.out Aa p167 q167
   cases e167
   replace p167 := eq_true p167
   replace q167 := eq_true q167
   have p168 : 0 ≤ (Aa : Int) := of_decide_eq_true pS
   have q168 : Aa < (l1.length : Int) := of_decide_eq_true pS
   obtain ⟨Ag, e168, Ad, Ae⟩ := at_T46 HR1.out Aa p168 q168
   cases e168
   replace p168 := eq_true p168
   replace q168 := eq_true q168
   go_wp2
   repeat (go_quiet (fail); try go_wp2)
   go_roundg k1
   case measure => have := HK1.out; omega
   case rel => exact ⟨(wrap64 (Aa + 1)), (by first | rfl | (simp; done) | (simp [*]; done)), H', ⟨by have := HK1.out; omega⟩, by repeat (first | exact Drawn0.refl _ | apply Drawn0.step)⟩
mutual
def tally_Join.j0 : Nat → List (S46) → List (S46) → Bool → Option ((List (S46)) × Int)
 | 0, _, _, _ => none
 | k + 1, x0, x1, x16 => if x16 = true then (some (([] : List (S46)), 1)) else ((slices_Clone_api_Share.f x0).bind fun t171 => (tally_Join.l0 k t171 x1 (x1.length : Int) 0))
def tally_Join.l0 : Nat → List (S46) → List (S46) → Int → Int → Option ((List (S46)) × Int)
 | 0, _, _, _, _ => none
 | k + 1, x6, x19, x20, x21 => if x21 < x20 then (if 0 ≤ x21 then (if x21 < (x19.length : Int) then ((tally_more.f k x6 ((rd_T46 x19 x21).f0) ((rd_T46 x19 x21).f1)).bind fun t176 => (tally_Join.l0 k t176 x19 x20 (wrap64 (x21 + 1)))) else (none)) else (none)) else ((tally_full.f k x6).bind fun bt179 => (some (bt179.1, bt179.2)))
end
def tally_Join.f (k : Nat) (l0 : List (S46)) (l1 : List (S46)) : Option ((List (S46)) × Int) := (tally_Check.f k l0).bind fun t169 => (if t169 = 0 then ((tally_Check.f k l1).bind fun t170 => (tally_Join.j0 k l0 l1 (t170 != 0))) else (tally_Join.j0 k l0 l1 true))
theorem tally_Join.mono_l : ∀ k, (∀ y0 y1 y2, LeO (tally_Join.j0 k y0 y1 y2) (tally_Join.j0 (k + 1) y0 y1 y2)) ∧ (∀ y0 y1 y2 y3, LeO (tally_Join.l0 k y0 y1 y2 y3) (tally_Join.l0 (k + 1) y0 y1 y2 y3))
 | 0 => ⟨fun _ _ _ r h => by simp [tally_Join.j0] at h, fun _ _ _ _ r h => by simp [tally_Join.l0] at h⟩
 | k + 1 => by
  obtain ⟨ih0, ih1⟩ := tally_Join.mono_l k
  refine ⟨?_, ?_⟩
  ·intro y0 y1 y2
   unfold tally_Join.j0
   repeat' first
   | (with_reducible exact ih0 _ _ _)
   | (with_reducible exact ih1 _ _ _ _)
   | (with_reducible exact tally_Check.mono _ _)
   | (with_reducible exact tally_full.mono _ _)
   | (with_reducible exact tally_more.mono _ _ _ _)
   | (with_reducible exact LeO.refl _)
   | (with_reducible exact LeO.none _)
   | (with_reducible refine LeO.ite ?_ ?_)
   | (with_reducible refine LeO.bind ?_ (fun _ => ?_))
   | exact ih0 _ _ _
   | exact ih1 _ _ _ _
   | exact tally_Check.mono _ _
   | exact tally_full.mono _ _
   | exact tally_more.mono _ _ _ _
   | exact LeO.none _
   | refine LeO.ite ?_ ?_
   | refine LeO.bind ?_ (fun _ => ?_)
  ·intro y0 y1 y2 y3
   unfold tally_Join.l0
   repeat' first
   | (with_reducible exact ih0 _ _ _)
   | (with_reducible exact ih1 _ _ _ _)
   | (with_reducible exact tally_Check.mono _ _)
   | (with_reducible exact tally_full.mono _ _)
   | (with_reducible exact tally_more.mono _ _ _ _)
   | (with_reducible exact LeO.refl _)
   | (with_reducible exact LeO.none _)
   | (with_reducible refine LeO.ite ?_ ?_)
   | (with_reducible refine LeO.bind ?_ (fun _ => ?_))
   | exact ih0 _ _ _
   | exact ih1 _ _ _ _
   | exact tally_Check.mono _ _
   | exact tally_full.mono _ _
   | exact tally_more.mono _ _ _ _
   | exact LeO.none _
   | refine LeO.ite ?_ ?_
   | refine LeO.bind ?_ (fun _ => ?_)
theorem tally_Join.mono : ∀ a0 a1 k, LeO (tally_Join.f k a0 a1) (tally_Join.f (k + 1) a0 a1) := by
 intro a0 a1 k
 obtain ⟨ih0, ih1⟩ := tally_Join.mono_l k
 unfold tally_Join.f
 repeat' first
   | (with_reducible exact ih0 _ _ _)
   | (with_reducible exact ih1 _ _ _ _)
   | (with_reducible exact tally_Check.mono _ _)
   | (with_reducible exact tally_full.mono _ _)
   | (with_reducible exact tally_more.mono _ _ _ _)
   | (with_reducible exact LeO.refl _)
   | (with_reducible exact LeO.none _)
   | (with_reducible refine LeO.ite ?_ ?_)
   | (with_reducible refine LeO.bind ?_ (fun _ => ?_))
   | exact ih0 _ _ _
   | exact ih1 _ _ _ _
   | exact tally_Check.mono _ _
   | exact tally_full.mono _ _
   | exact tally_more.mono _ _ _ _
   | exact LeO.none _
   | refine LeO.ite ?_ ?_
   | refine LeO.bind ?_ (fun _ => ?_)
set_option maxHeartbeats 8000000 in
set_option maxRecDepth 100000 in
theorem tally_Join.calls (k : Nat) (A0 : Option Addr) (c0 : Nat) (l0 : List (S46)) (A1 : Option Addr) (c1 : Nat) (l1 : List (S46)) (r1 : List (S46)) (r2 : Int) (w : World) (hr0 : Kd.C k46 w A0 l0.length l0) (hc0 : l0.length ≤ c0) (hr1 : Kd.C k46 w A1 l1.length l1) (hc1 : l1.length ≤ c1) (h : tally_Join.f k l0 l1 = some (r1, r2)) :
  Calls Try.prog 18 #[.slice A0 l0.length c0, .slice A1 l1.length c1] w fun e w' => ∃ v0_ : Value, e = .returned (.tuple #[v0_, .int .i64 r2]) ∧ Kd.R k46 46 w' w.heap.size (fun _ => True) v0_ r1 ∧ Below w.heap.size w w' := by
 have hu46 := Try.underlying46
 have HR0 := Am hr0
 have HC0 := Am hc0
 clear hr0 hc0
 have HR1 := Am hr1
 have HC1 := Am hc1
 clear hr1 hc1
 have HB := Am (Below.refl w.heap.size w)
 have H : ((tally_Check.f k l0).bind fun t169 => (if t169 = 0 then ((tally_Check.f k l1).bind fun t170 => (tally_Join.j0 k l0 l1 (t170 != 0))) else (tally_Join.j0 k l0 l1 true))) = some (r1, r2) := h
 clear h
 have HC3 := Am H
 clear H
 go_enter Try.func18, Try.ntmps18
 go_upto_region 1 with (fail)
 go_cut [16] (fun v16 wc => ∃ (kq : Nat) (Ah : Bool), v16 = .bool Ah ∧ Aside0 (tally_Join.j0 kq l0 l1 Ah = some (r1, r2)) ∧ Aside0 (kq ≤ k) ∧ Aside0 (Below w.heap.size w wc))
 case first =>
  have H := HC3.out
  clear HC3
  replace H := Option.bind_eq_some_iff.mp H
  obtain ⟨t169, A40, H⟩ := H
  replace H : (if t169 = 0 then ((tally_Check.f k l1).bind fun t170 => (tally_Join.j0 k l0 l1 (t170 != 0))) else (tally_Join.j0 k l0 l1 true)) = some (r1, r2) := H
  have A4 := Am A40
  clear A40
  by_cases c5 : t169 = 0
  rotate_left
  ·rw [if_neg c5] at H
   have c5b0 : (t169 == 0) = false := beq_eq_false_iff_ne.mpr c5
   have c5b1 : (t169 != 0) = true := bne_iff_ne.mpr c5
   (first | rw [c5b0] | (simp only [i64_w, i32_w]; rw [c5b0]) | skip)
   have H' := Am H
   clear H
   go_wp2_with (first | ((with_reducible refine gate_callee (f := 12) rfl ?_); refine goesL_ (some 10) rfl rfl Try.func12 (by kernel_rfl) rfl #[.slice A0 l0.length c0] rfl pL ?_; (with_reducible refine (tally_Check.calls k _ _ l0 t169 _ ?Ab ?Ac A4.out).mono ?_); (case Ab => exact pC (Kd.C_below HR0.out HB.out)); (case Ac => exact HC0.out); rintro e w9 ⟨rfl, hb⟩; refine ⟨_, rfl, ?_⟩; replace HB := Am (below_step (pB HB.out) hb); (try clear hb); (try clear hb2); (try clear hk); (try clear hi)))
   go_meet
   case rel => exact ⟨_, (true), (by first | rfl | (simp; done) | (simp [*]; done)), H', ⟨by first | omega | exact Nat.le_refl _⟩, ⟨pB HB.out⟩⟩
  rw [if_pos c5] at H
  have c5b0 : (t169 == 0) = true := beq_iff_eq.mpr c5
  have c5b1 : (t169 != 0) = false := bne_eq_false_iff_eq.mpr c5
  clear c5
  (first | rw [c5b0] | (simp only [i64_w, i32_w]; rw [c5b0]) | skip)
  replace H := Option.bind_eq_some_iff.mp H
  obtain ⟨t170, A60, H⟩ := H
  replace H : (tally_Join.j0 k l0 l1 (t170 != 0)) = some (r1, r2) := H
  have A6 := Am A60
  clear A60
  have H' := Am H
  clear H
  go_wp2_with (first | ((with_reducible refine gate_callee (f := 12) rfl ?_); refine goesL_ (some 10) rfl rfl Try.func12 (by kernel_rfl) rfl #[.slice A0 l0.length c0] rfl pL ?_; (with_reducible refine (tally_Check.calls k _ _ l0 t169 _ ?Ab ?Ac A4.out).mono ?_); (case Ab => exact pC (Kd.C_below HR0.out HB.out)); (case Ac => exact HC0.out); rintro e w7 ⟨rfl, hb⟩; refine ⟨_, rfl, ?_⟩; replace HB := Am (below_step (pB HB.out) hb); (try clear hb); (try clear hb2); (try clear hk); (try clear hi)) | (go_at_call 12; (with_reducible refine (tally_Check.calls k _ _ l1 t170 _ ?Ab ?Ac A6.out).mono ?_); (case Ab => exact pC (Kd.C_below HR1.out HB.out)); (case Ac => exact HC1.out); rintro e w8 ⟨rfl, hb⟩; replace HB := Am (below_step (pB HB.out) hb); (try clear hb); (try clear hb2); (try clear hk); (try clear hi)))
  go_meet
  case rel => exact ⟨_, ((t170 != 0)), (by first | rfl | (simp; done) | (simp [*]; done)), H', ⟨by first | omega | exact Nat.le_refl _⟩, ⟨pB HB.out⟩⟩
 case rest =>
  clear HC3
  try clear c1
  try clear p2
  try clear c5
  try clear c5b0
  try clear c5b1
  obtain ⟨kq, Ah, rfl, HA, HJ2, HB⟩ := hcut
  cases kq with
  | zero => exact absurd HA.out (by simp [tally_Join.j0])
  | succ kj2 =>
   have H := HA.out
   clear HA
   simp only [tally_Join.j0] at H
   by_cases c10 : Ah = true
   ·subst c10
    have H1 : (some (([] : List (S46)), 1)) = some (r1, r2) := by rw [if_pos rfl] at H; exact H
    clear H
    have H := H1
    clear H1
    simp only [Option.some.injEq, Prod.mk.injEq] at H
    obtain ⟨rfl, rfl⟩ := H
    go_wp2
    go_ret2
    exact ⟨_, pX, by first | exact Kd.R_nil _ _ _ _ _ | exact Kd.N_nil _ _ _ _ _ | exact Kd.V_nil _ _ _ _ _ | exact Kd.Q_nil _ _ _ _ _ | exact Kd.S_nil _ _ _ _ _, pB HB.out⟩
   replace c10 := Bool.eq_false_iff.mpr c10
   subst c10
   have H1 : ((slices_Clone_api_Share.f l0).bind fun t171 => (tally_Join.l0 kj2 t171 l1 (l1.length : Int) 0)) = some (r1, r2) := by rw [if_neg (show ¬ (false = true) by decide)] at H; exact H
   clear H
   have H := H1
   clear H1
   replace H := Option.bind_eq_some_iff.mp H
   obtain ⟨t171, A110, H⟩ := H
   replace H : (tally_Join.l0 kj2 t171 l1 (l1.length : Int) 0) = some (r1, r2) := H
   have A11 := Am A110
   clear A110
   have H' := Am H
   clear H
   go_wp2_with (first | ((with_reducible refine gate_callee (f := 22) rfl ?_); refine goesL_ (some 18) rfl rfl Try.func22 (by kernel_rfl) rfl #[.slice A0 l0.length c0] rfl pL ?_; (with_reducible refine (slices_Clone_api_Share.calls _ _ l0 t171 _ ?Ab ?Ac A11.out).mono ?_); (case Ab => exact pC (Kd.C_below HR0.out HB.out)); (case Ac => exact HC0.out); rintro e w12 ⟨v172, rfl, ho0, hb⟩; refine ⟨_, rfl, ?_⟩; have Ao := Am (Kd.R_lower ho0 (below_size (pB HB.out))); replace HB := Am (below_step (pB HB.out) hb); (try clear hb); (try clear hb2); (try clear hk); (try clear hi); (try clear ho0)))
   go_loopg [6, 21] kj2 (fun kq v6 v21 w' => ∃ (Af : List (S46)) (Aa : Int), v21 = .int .i64 Aa ∧ Aside0 (tally_Join.l0 kq Af l1 (l1.length : Int) Aa = some (r1, r2)) ∧ Aside0 (kq ≤ kj2) ∧ Aside0 (Kd.R k46 46 w' w.heap.size (fun _ => True) v6 Af) ∧ Aside0 (Below w.heap.size w w'))
   case atStart => exact ⟨(t171), (0), (by first | rfl | (simp; done) | (simp [*]; done)), H', ⟨Nat.le_refl _⟩, ⟨by (with_reducible repeat (first | apply Kd.R_alloc | apply Kd.R_drewN | apply Kd.R_drew)); exact Ao.out⟩, ⟨pB HB.out⟩⟩
   case round =>
    clear H'
    try clear c1
    try clear c2
    try clear p2
    try clear c5
    try clear c5b0
    try clear c5b1
    try clear c10
    try clear c12
    try clear p2
    obtain ⟨Af, Aa, rfl, HA, HK2, Ag, HB⟩ := hrel
    cases gk with
    | zero => exact absurd HA.out (by simp [tally_Join.l0])
    | succ k2 =>
     have H := HA.out
     clear HA
     simp only [tally_Join.l0] at H
     by_cases c13 : Aa < (l1.length : Int)
     rotate_left
     ·rw [if_neg c13] at H
      have c13b0 : decide (Aa < (l1.length : Int)) = false := decide_eq_false c13
      clear c13
      replace H := Option.bind_eq_some_iff.mp H
      obtain ⟨⟨t179, t182⟩, A230, H⟩ := H
      replace H : (some (t179, t182)) = some (r1, r2) := H
      have A23 := Am A230
      clear A230
      simp only [Option.some.injEq, Prod.mk.injEq] at H
      obtain ⟨rfl, rfl⟩ := H
      obtain ⟨Al, An, At⟩ := Kd.R_slice Ag.out
      subst At
      go_wp2_with (first | ((with_reducible refine gate_callee (f := 24) rfl ?_); refine goesL_ (some 33) rfl rfl Try.func24 (by kernel_rfl) rfl #[.slice Al Af.length An] rfl pL ?_; (with_reducible refine (tally_full.calls k2 (fun k_ => some k_ = (.slice Al Af.length An : Value).ownBlock) (.slice Al Af.length An) Af t179 t182 w _ ?Ab ?Ac A23.out).mono ?_); (case Ab => repeat (first | (with_reducible first | exact HB.out | apply below_alloc | apply pw_below_drewN | apply below_drew1) | exact HB.out)); (case Ac => exact Kd.R_tight rfl Ag.out); rintro e w25 ⟨v180, rfl, ho0, hb, hkp⟩; refine ⟨_, rfl, ?_⟩; have Ar := Am (Kd.R_mono (ok' := fun k_ => True) ho0 (fun k_ hk_ => trivial)); replace HB := Am (hb); clear Ag; (try clear hb); (try clear hkp); (try clear ho0)))
      go_ret2
      exact ⟨_, pX, by (with_reducible repeat (first | apply Kd.R_alloc | apply Kd.R_drewN | apply Kd.R_drew)); exact Ar.out, pB HB.out⟩
     rw [if_pos c13] at H
     have c13b0 : decide (Aa < (l1.length : Int)) = true := decide_eq_true c13
     clear c13
     by_cases c14 : 0 ≤ Aa
     rotate_left
     ·rw [if_neg c14] at H
      exact absurd H (by simp)
     rw [if_pos c14] at H
     have c14b0 : decide (0 ≤ Aa) = true := decide_eq_true c14
     clear c14
     by_cases c15 : Aa < (l1.length : Int)
     rotate_left
     ·rw [if_neg c15] at H
      exact absurd H (by simp)
     rw [if_pos c15] at H
     have c15b0 : decide (Aa < (l1.length : Int)) = true := decide_eq_true c15
     clear c15
     replace H := Option.bind_eq_some_iff.mp H
     obtain ⟨t176, A160, H⟩ := H
     replace H : (tally_Join.l0 k2 t176 l1 (l1.length : Int) (wrap64 (Aa + 1))) = some (r1, r2) := H
     have A16 := Am A160
     clear A160
     have H' := Am H
     clear H
     have p174 : 0 ≤ (Aa : Int) := of_decide_eq_true pS
     have q174 : Aa < (l1.length : Int) := of_decide_eq_true pS
     obtain ⟨ad174, e174, hx174_0, hx174_1⟩ := at_T46u HR1.out Aa p174 q174 HB.out
     cases e174
     replace p174 := eq_true p174
     replace q174 := eq_true q174
     go_wp2_with (first | ((with_reducible refine gate_dst (N := 8) rfl ?_); refine box_event ?hg (N := 8) ?hd (cs := #[.int .i64 0, .int .i64 0]) (t := 46) ?hr ?_; (case hd => rfl); (case hg => rfl); (case hr => first | (go_simp; done) | (go_simp; rfl)); intro Ad hg w17 hbox hb; replace Ag := Am (Kd.R_below (Kd.R_elderB (pR Ag.out) Ad (Nat.le_of_eq hg.symm)) hb); have Ae := Am (hbox); have Ap := Am ((by rw [hg]; exact (below_size (pB HB.out)) : w.heap.size ≤ Ad)); replace HB := Am (below_step (pB HB.out) hb); have Ai := Ap; clear hb hbox hg; obtain ⟨_, _⟩ := bc2 Ae.out; obtain ⟨_, _⟩ := bf2 Ae.out) | ((with_reducible refine gate_store (t := 46) (p := 8) rfl ?_); refine store_event (t := 46) (p := 8) (v := ?vo_w19) (w1 := ((w17.setCell ⟨Ad, 0, none⟩ (.int .i64 ((rd_T46 l1 Aa).f0))).setCell ⟨Ad, 1, none⟩ (.int .i64 ((rd_T46 l1 Aa).f1)))) ?hg ?ho ?hn ?hr ?_; (case ho => rfl); (case hg => rfl); (case hn => rfl); (case hr => first | (go_simp; done) | (go_simp; rfl)); intro w19 hw; replace Ag : Aside0 (Kd.R k46 46 w19 w.heap.size (fun k_ => k_ ≠ Ad) u6 Af) := ⟨(by rw [hw]; exact (by (with_reducible repeat (first | apply Kd.R_alloc | apply Kd.R_drewN | apply Kd.R_drew)); exact Kd.R_mono (Rf2 (g := Ad) (Kd.R_mono Ag.out (fun k_ hk => (⟨hk, hk.2⟩ : _ ∧ k_ ≠ Ad))) (fun _ hk => hk.2)) (fun _ hk => hk.1.2)))⟩; replace Ae : Aside0 (w19.heap[Ad]? = some (.cells #[.int .i64 ((rd_T46 l1 Aa).f0), .int .i64 ((rd_T46 l1 Aa).f1)] 46 (0, 0))) := ⟨(by rw [hw]; exact (kX0 Ae.out))⟩; replace HB : Aside0 (Below w.heap.size w w19) := ⟨(by rw [hw]; exact (pE HB.out Ai.out))⟩; clear hw; obtain ⟨_, _⟩ := bc2 Ae.out; obtain ⟨_, _⟩ := bf2 Ae.out; obtain ⟨Aj, Ak, As⟩ := Kd.R_slice Ag.out; subst As) | ((with_reducible refine gate_callee (f := 23) rfl ?_); refine goesL_ (some 30) rfl rfl Try.func23 (by kernel_rfl) rfl #[.slice Aj Af.length Ak, .int .i64 ((rd_T46 l1 Aa).f0), .int .i64 ((rd_T46 l1 Aa).f1)] rfl pL ?_; (with_reducible refine (tally_more.calls k2 (fun k_ => some k_ = (.slice Aj Af.length Ak : Value).ownBlock) (.slice Aj Af.length Ak) Af ((rd_T46 l1 Aa).f0) ((rd_T46 l1 Aa).f1) t176 w _ ?Ab ?Ac A16.out).mono ?_); (case Ab => repeat (first | (with_reducible first | exact HB.out | apply below_alloc | apply pw_below_drewN | apply below_drew1 | refine below_set ?_ Ai.out) | exact HB.out)); (case Ac => exact Kd.R_tight rfl Ag.out); rintro e w22 ⟨v177, rfl, ho0, hb, hkp⟩; refine ⟨_, rfl, ?_⟩; have Aq := Am (Kd.R_mono (ok' := fun k_ => k_ ≠ Ad) ho0 (fun k_ hk_ => Or.elim hk_ (fun hs_ => fun e_ => (Kd.R_away Ag.out (fun _ hk => hk)) (by rw [← e_]; exact hs_)) (fun hn_ => (kF Ae.out k_ hn_)))); replace Ae := Am (blk_kept (pK Ae.out) hkp (fun hs_ => (fun e_ => (Kd.R_away Ag.out (fun _ hk => hk)) e_) hs_)); replace HB := Am (hb); clear Ag; (try clear hb); (try clear hkp); (try clear ho0)))
     go_roundg k2
     case measure => have := HJ2.out; have := HK2.out; omega
     case rel => exact ⟨(t176), (wrap64 (Aa + 1)), (by first | rfl | (simp; done) | (simp [*]; done)), H', ⟨by have := HJ2.out; have := HK2.out; omega⟩, ⟨by (with_reducible repeat (first | apply Kd.R_alloc | apply Kd.R_drewN | apply Kd.R_drew)); exact Kd.R_mono Aq.out (fun _ hk => trivial)⟩, ⟨pE HB.out Ai.out⟩⟩
end Go.Proofs.Ytkapmlijeilieaa.PTallyJoins
