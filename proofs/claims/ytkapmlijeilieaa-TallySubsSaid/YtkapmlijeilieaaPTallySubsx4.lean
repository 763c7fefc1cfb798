/- What the law reaches, as plain Lean functions, and that the machine's calls answer just that. -/
import Derived.Test.YtkapmlijeilieaaPTallySubsx0
import Derived.Test.YtkapmlijeilieaaPTallySubsx1
import Derived.Test.YtkapmlijeilieaaPTallySubsx2
import Derived.Test.YtkapmlijeilieaaPTallySubsx3
namespace Go.Proofs.Ytkapmlijeilieaa.PTallySubs
open Go.RowKit Go.Proofs.YtkapmlijeilieaaW.PrintWords Go.Proofs.YtkapmlijeilieaaW.PrintLast Go.Proofs.YtkapmlijeilieaaW.PrintMore
attribute [local go_sem] max2_int min2_int max_two min_two max_three min_three max_four min_four
set_option linter.unusedVariables false
set_option linter.unusedSimpArgs false
attribute [local go_sem] wrap64_l1 wrap64_l2 wrap64_l3 wrap64_l4 wrap64_l5
attribute [local go_sem high] eqA46
def garnerlaw09_awake.f (k : Nat)  : Option (Bool) := (tally_Of.f k (([(⟨3, 0, 5, 0⟩ : S43), (⟨3, 9, 7, 0⟩ : S43)] : List (S43)))).bind fun bt156 => (if bt156.2 = 0 then ((tally_Get.f k bt156.1 3).bind fun t160 => (if t160 = 12 then (some ((bt156.1.length : Int) == 1)) else (some false))) else (some false))
theorem garnerlaw09_awake.mono : ∀ k, LeO (garnerlaw09_awake.f k ) (garnerlaw09_awake.f (k + 1) ) := by
 intro  k
 unfold garnerlaw09_awake.f
 repeat' first
   | (with_reducible exact tally_Get.mono _ _ _)
   | (with_reducible exact tally_Of.mono _ _)
   | (with_reducible exact LeO.refl _)
   | (with_reducible exact LeO.none _)
   | (with_reducible refine LeO.ite ?_ ?_)
   | (with_reducible refine LeO.bind ?_ (fun _ => ?_))
   | exact tally_Get.mono _ _ _
   | exact tally_Of.mono _ _
   | exact LeO.none _
   | refine LeO.ite ?_ ?_
   | refine LeO.bind ?_ (fun _ => ?_)
set_option maxHeartbeats 8000000 in
set_option maxRecDepth 100000 in
theorem garnerlaw09_awake.calls (k : Nat)  (r : Bool) (w : World) (h : garnerlaw09_awake.f k  = some r) :
  Calls Try.prog 8 #[] w fun e w' => e = .returned (.bool r) ∧ Below w.heap.size w w' := by
 have hu43 := Try.underlying43
 have HB := Am (Below.refl w.heap.size w)
 have H : ((tally_Of.f k (([(⟨3, 0, 5, 0⟩ : S43), (⟨3, 9, 7, 0⟩ : S43)] : List (S43)))).bind fun bt156 => (if bt156.2 = 0 then ((tally_Get.f k bt156.1 3).bind fun t160 => (if t160 = 12 then (some ((bt156.1.length : Int) == 1)) else (some false))) else (some false))) = some r := h
 clear h
 obtain ⟨y153, hy153⟩ : ∃ y_ : List (S43), y_ = (([(⟨3, 0, 5, 0⟩ : S43), (⟨3, 9, 7, 0⟩ : S43)] : List (S43))) := ⟨_, rfl⟩
 replace H : ((tally_Of.f k y153).bind fun bt156 => (if bt156.2 = 0 then ((tally_Get.f k bt156.1 3).bind fun t160 => (if t160 = 12 then (some ((bt156.1.length : Int) == 1)) else (some false))) else (some false))) = some r := by first | (rw [hy153]; with_reducible exact H) | (have H2_ := (Option.bind_some _ _).symm.trans H; rw [hy153]; with_reducible exact H2_) | (have H2_ := (Option.bind_some _ _).symm.trans H; with_reducible exact H2_) | with_reducible exact H | (rw [hy153]; exact H) | exact H
 have Ny153 := Am hy153
 clear hy153
 replace H := Option.bind_eq_some_iff.mp H
 obtain ⟨⟨t156, t157⟩, A10, H⟩ := H
 replace H : (if t157 = 0 then ((tally_Get.f k t156 3).bind fun t160 => (if t160 = 12 then (some ((t156.length : Int) == 1)) else (some false))) else (some false)) = some r := H
 have A1 := Am A10
 clear A10
 by_cases c2 : t157 = 0
 rotate_left
 ·rw [if_neg c2] at H
  have c2b0 : (t157 == 0) = false := beq_eq_false_iff_ne.mpr c2
  have c2b1 : (t157 != 0) = true := bne_iff_ne.mpr c2
  obtain rfl := Option.some.inj H
  go_enter Try.func8, Try.ntmps8
  go_wp2_with (first | ((with_reducible refine gate_dst (N := 6) rfl ?_); (try (refine gate_guard (by rfl) ?_; dsimp only)); refine Kd.R_lit k43 _ 43 ?hg (N := 6) ?hd (xs := ([(⟨3, 0, 5, 0⟩ : S43), (⟨3, 9, 7, 0⟩ : S43)] : List (S43))) (inner := [.int .i64 3, .int .i64 0, .int .i64 5, .int .u32 0, .int .i64 3, .int .i64 9, .int .i64 7, .int .u32 0]) (ok := fun _ => True) (okp := fun _ => True) ?hr ?hp (fun _ hk => hk) trivial (Below.refl _ _) (Nat.le_refl _) (by simp) ?_; (case hd => rfl); (case hg => rfl); (case hr => first | (go_simp; done) | (go_simp; rfl)); (case hp => exact (Reps.c4 (show Kd.M k43 _ _ _ (⟨3, 0, 5, 0⟩ : S43) [.int .i64 3, .int .i64 0, .int .i64 5, .int .u32 0] from (k43_mkM _ _ _ (⟨3, 0, 5, 0⟩ : S43) )) (Reps.c4 (show Kd.M k43 _ _ _ (⟨3, 9, 7, 0⟩ : S43) [.int .i64 3, .int .i64 9, .int .i64 7, .int .u32 0] from (k43_mkM _ _ _ (⟨3, 9, 7, 0⟩ : S43) )) (Reps.none _ _)))); intro v154 w17 ho18 hb hg_ hnew_; clear hg_ hnew_; (first | rw [← Ny153.out] at ho18 | (simp only [Int.reduceToNat] at ho18; rw [← Ny153.out] at ho18)); have Aa := Am (Kd.R_lower ho18 (below_size (pB HB.out))); replace HB := Am (below_step (pB HB.out) hb); clear hb ho18; obtain ⟨Ai, Aj, Ak⟩ := Kd.R_slice Aa.out; subst Ak) | ((with_reducible refine gate_callee (f := 15) rfl ?_); refine goesL_ (some 7) rfl rfl Try.func15 (by kernel_rfl) rfl #[.slice Ai y153.length Aj] rfl pL ?_; (with_reducible refine (tally_Of.calls k _ _ y153 t156 t157 _ ?Ac ?Ad A1.out).mono ?_); (case Ac => exact pC (Kd.R_reads' Aa.out).2.2); (case Ad => exact (Kd.R_reads' Aa.out).2.1); rintro e w20 ⟨v158, rfl, ho0, hb⟩; refine ⟨_, rfl, ?_⟩; replace Aa := bRa Aa hb; have Ab := Am (Kd.R_lower ho0 (below_size (pB HB.out))); replace HB := Am (below_step (pB HB.out) hb); (try clear hb); (try clear hb2); (try clear hk); (try clear hi); (try clear ho0)))
  go_ret
  exact ⟨pX, pB HB.out⟩
 rw [if_pos c2] at H
 have c2b0 : (t157 == 0) = true := beq_iff_eq.mpr c2
 have c2b1 : (t157 != 0) = false := bne_eq_false_iff_eq.mpr c2
 clear c2
 replace H := Option.bind_eq_some_iff.mp H
 obtain ⟨t160, A30, H⟩ := H
 replace H : (if t160 = 12 then (some ((t156.length : Int) == 1)) else (some false)) = some r := H
 have A3 := Am A30
 clear A30
 by_cases c4 : t160 = 12
 rotate_left
 ·rw [if_neg c4] at H
  have c4b0 : (t160 == 12) = false := beq_eq_false_iff_ne.mpr c4
  have c4b1 : (t160 != 12) = true := bne_iff_ne.mpr c4
  obtain rfl := Option.some.inj H
  go_enter Try.func8, Try.ntmps8
  go_wp2_with (first | ((with_reducible refine gate_dst (N := 6) rfl ?_); (try (refine gate_guard (by rfl) ?_; dsimp only)); refine Kd.R_lit k43 _ 43 ?hg (N := 6) ?hd (xs := ([(⟨3, 0, 5, 0⟩ : S43), (⟨3, 9, 7, 0⟩ : S43)] : List (S43))) (inner := [.int .i64 3, .int .i64 0, .int .i64 5, .int .u32 0, .int .i64 3, .int .i64 9, .int .i64 7, .int .u32 0]) (ok := fun _ => True) (okp := fun _ => True) ?hr ?hp (fun _ hk => hk) trivial (Below.refl _ _) (Nat.le_refl _) (by simp) ?_; (case hd => rfl); (case hg => rfl); (case hr => first | (go_simp; done) | (go_simp; rfl)); (case hp => exact (Reps.c4 (show Kd.M k43 _ _ _ (⟨3, 0, 5, 0⟩ : S43) [.int .i64 3, .int .i64 0, .int .i64 5, .int .u32 0] from (k43_mkM _ _ _ (⟨3, 0, 5, 0⟩ : S43) )) (Reps.c4 (show Kd.M k43 _ _ _ (⟨3, 9, 7, 0⟩ : S43) [.int .i64 3, .int .i64 9, .int .i64 7, .int .u32 0] from (k43_mkM _ _ _ (⟨3, 9, 7, 0⟩ : S43) )) (Reps.none _ _)))); intro v154 w11 ho12 hb hg_ hnew_; clear hg_ hnew_; (first | rw [← Ny153.out] at ho12 | (simp only [Int.reduceToNat] at ho12; rw [← Ny153.out] at ho12)); have Aa := Am (Kd.R_lower ho12 (below_size (pB HB.out))); replace HB := Am (below_step (pB HB.out) hb); clear hb ho12; obtain ⟨Ae, Af, Ag⟩ := Kd.R_slice Aa.out; subst Ag) | ((with_reducible refine gate_callee (f := 15) rfl ?_); refine goesL_ (some 7) rfl rfl Try.func15 (by kernel_rfl) rfl #[.slice Ae y153.length Af] rfl pL ?_; (with_reducible refine (tally_Of.calls k _ _ y153 t156 t157 _ ?Ac ?Ad A1.out).mono ?_); (case Ac => exact pC (Kd.R_reads' Aa.out).2.2); (case Ad => exact (Kd.R_reads' Aa.out).2.1); rintro e w14 ⟨v158, rfl, ho0, hb⟩; refine ⟨_, rfl, ?_⟩; replace Aa := bRa Aa hb; have Ab := Am (Kd.R_lower ho0 (below_size (pB HB.out))); replace HB := Am (below_step (pB HB.out) hb); (try clear hb); (try clear hb2); (try clear hk); (try clear hi); (try clear ho0); obtain ⟨Ao15, co15, Ah⟩ := Kd.R_slice Ab.out; subst Ah) | (go_at_call 13; (with_reducible refine (tally_Get.calls k _ _ t156 3 t160 _ ?Ac ?Ad A3.out).mono ?_); (case Ac => exact pC (Kd.R_reads' Ab.out).2.2); (case Ad => exact (Kd.R_reads' Ab.out).2.1); rintro e w16 ⟨rfl, hb⟩; replace Aa := bRa Aa hb; replace Ab := bRa Ab hb; replace HB := Am (below_step (pB HB.out) hb); (try clear hb); (try clear hb2); (try clear hk); (try clear hi)))
  go_ret
  exact ⟨pX, pB HB.out⟩
 rw [if_pos c4] at H
 have c4b0 : (t160 == 12) = true := beq_iff_eq.mpr c4
 have c4b1 : (t160 != 12) = false := bne_eq_false_iff_eq.mpr c4
 clear c4
 obtain rfl := Option.some.inj H
 go_enter Try.func8, Try.ntmps8
 go_wp2_with (first | ((with_reducible refine gate_dst (N := 6) rfl ?_); (try (refine gate_guard (by rfl) ?_; dsimp only)); refine Kd.R_lit k43 _ 43 ?hg (N := 6) ?hd (xs := ([(⟨3, 0, 5, 0⟩ : S43), (⟨3, 9, 7, 0⟩ : S43)] : List (S43))) (inner := [.int .i64 3, .int .i64 0, .int .i64 5, .int .u32 0, .int .i64 3, .int .i64 9, .int .i64 7, .int .u32 0]) (ok := fun _ => True) (okp := fun _ => True) ?hr ?hp (fun _ hk => hk) trivial (Below.refl _ _) (Nat.le_refl _) (by simp) ?_; (case hd => rfl); (case hg => rfl); (case hr => first | (go_simp; done) | (go_simp; rfl)); (case hp => exact (Reps.c4 (show Kd.M k43 _ _ _ (⟨3, 0, 5, 0⟩ : S43) [.int .i64 3, .int .i64 0, .int .i64 5, .int .u32 0] from (k43_mkM _ _ _ (⟨3, 0, 5, 0⟩ : S43) )) (Reps.c4 (show Kd.M k43 _ _ _ (⟨3, 9, 7, 0⟩ : S43) [.int .i64 3, .int .i64 9, .int .i64 7, .int .u32 0] from (k43_mkM _ _ _ (⟨3, 9, 7, 0⟩ : S43) )) (Reps.none _ _)))); intro v154 w5 ho6 hb hg_ hnew_; clear hg_ hnew_; (first | rw [← Ny153.out] at ho6 | (simp only [Int.reduceToNat] at ho6; rw [← Ny153.out] at ho6)); have Aa := Am (Kd.R_lower ho6 (below_size (pB HB.out))); replace HB := Am (below_step (pB HB.out) hb); clear hb ho6; obtain ⟨Al, An, Ao⟩ := Kd.R_slice Aa.out; subst Ao) | ((with_reducible refine gate_callee (f := 15) rfl ?_); refine goesL_ (some 7) rfl rfl Try.func15 (by kernel_rfl) rfl #[.slice Al y153.length An] rfl pL ?_; (with_reducible refine (tally_Of.calls k _ _ y153 t156 t157 _ ?Ac ?Ad A1.out).mono ?_); (case Ac => exact pC (Kd.R_reads' Aa.out).2.2); (case Ad => exact (Kd.R_reads' Aa.out).2.1); rintro e w8 ⟨v158, rfl, ho0, hb⟩; refine ⟨_, rfl, ?_⟩; replace Aa := bRa Aa hb; have Ab := Am (Kd.R_lower ho0 (below_size (pB HB.out))); replace HB := Am (below_step (pB HB.out) hb); (try clear hb); (try clear hb2); (try clear hk); (try clear hi); (try clear ho0); obtain ⟨Ao9, co9, Ap⟩ := Kd.R_slice Ab.out; subst Ap) | (go_at_call 13; (with_reducible refine (tally_Get.calls k _ _ t156 3 t160 _ ?Ac ?Ad A3.out).mono ?_); (case Ac => exact pC (Kd.R_reads' Ab.out).2.2); (case Ad => exact (Kd.R_reads' Ab.out).2.1); rintro e w10 ⟨rfl, hb⟩; replace Aa := bRa Aa hb; replace Ab := bRa Ab hb; replace HB := Am (below_step (pB HB.out) hb); (try clear hb); (try clear hb2); (try clear hk); (try clear hi)))
 go_ret
 exact ⟨pX, pB HB.out⟩
def garnerref09_May.l0 : Nat → List (S46) → Int → Option (Bool)
 | 0, _, _ => none
 | k + 1, x0, x3 => if x3 < (x0.length : Int) then (if 0 ≤ x3 then (if ((rd_T46 x0 x3).f0) < 1 then (some false) else (if ((rd_T46 x0 x3).f0) > 2147483647 then (some false) else (if ((rd_T46 x0 x3).f1) < 1 then (some false) else (if ((rd_T46 x0 x3).f1) > 1099511627776 then (some false) else (if x3 > 0 then (if 0 ≤ (wrap64 (x3 - 1)) then (if (wrap64 (x3 - 1)) < (x0.length : Int) then (if ((rd_T46 x0 x3).f0) ≤ ((rd_T46 x0 (wrap64 (x3 - 1))).f0) then (some false) else (garnerref09_May.l0 k x0 (wrap64 (x3 + 1)))) else (none)) else (none)) else (garnerref09_May.l0 k x0 (wrap64 (x3 + 1)))))))) else (none)) else (some (decide ((x0.length : Int) ≤ 4096)))
def garnerref09_May.f (k : Nat) (l0 : List (S46)) : Option (Bool) := garnerref09_May.l0 k l0 0
theorem garnerref09_May.mono_l : ∀ k, (∀ y0 y1, LeO (garnerref09_May.l0 k y0 y1) (garnerref09_May.l0 (k + 1) y0 y1))
 | 0 => fun _ _ r h => by simp [garnerref09_May.l0] at h
 | k + 1 => by
  have ih0 := garnerref09_May.mono_l k
  ·intro y0 y1
   unfold garnerref09_May.l0
   repeat' first
   | (with_reducible exact ih0 _ _)
   | (with_reducible exact LeO.refl _)
   | (with_reducible exact LeO.none _)
   | (with_reducible refine LeO.ite ?_ ?_)
   | (with_reducible refine LeO.bind ?_ (fun _ => ?_))
   | exact ih0 _ _
   | exact LeO.none _
   | refine LeO.ite ?_ ?_
   | refine LeO.bind ?_ (fun _ => ?_)
theorem garnerref09_May.mono : ∀ a0 k, LeO (garnerref09_May.f k a0) (garnerref09_May.f (k + 1) a0) := by
 intro a0 k
 have ih0 := garnerref09_May.mono_l k
 unfold garnerref09_May.f
 repeat' first
   | (with_reducible exact ih0 _ _)
   | (with_reducible exact LeO.refl _)
   | (with_reducible exact LeO.none _)
   | (with_reducible refine LeO.ite ?_ ?_)
   | (with_reducible refine LeO.bind ?_ (fun _ => ?_))
   | exact ih0 _ _
   | exact LeO.none _
   | refine LeO.ite ?_ ?_
   | refine LeO.bind ?_ (fun _ => ?_)
set_option maxHeartbeats 8000000 in
set_option maxRecDepth 100000 in
theorem garnerref09_May.calls (k : Nat) (A0 : Option Addr) (c0 : Nat) (l0 : List (S46)) (r : Bool) (w : World) (hr0 : Kd.C k46 w A0 l0.length l0) (hc0 : l0.length ≤ c0) (h : garnerref09_May.f k l0 = some r) :
  Calls Try.prog 10 #[.slice A0 l0.length c0] w fun e w' => e = .returned (.bool r) ∧ Drawn0 w w' := by
 have HR0 := Am hr0
 have HC0 := Am hc0
 clear hr0 hc0
 have H : (garnerref09_May.l0 k l0 0) = some r := h
 clear h
 have H' := Am H
 clear H
 go_enter Try.func10, Try.ntmps10
 go_wp2
 repeat (go_quiet (fail); try go_wp2)
 go_loopg [3] k (fun kq v3 w' => ∃ (Aa : Int), v3 = .int .i64 Aa ∧ Aside0 (garnerref09_May.l0 kq l0 Aa = some r) ∧ Aside0 (kq ≤ k) ∧ Drawn0 w w')
 case atStart => exact ⟨(0), (by first | rfl | (simp; done) | (simp [*]; done)), H', ⟨Nat.le_refl _⟩, by repeat (first | exact Drawn0.refl _ | apply Drawn0.step)⟩
 case round =>
  clear H'
  try clear c1
  obtain ⟨Aa, rfl, HA, HK1, ⟨m1, rfl⟩⟩ := hrel
  cases gk with
  | zero => exact absurd HA.out (by simp [garnerref09_May.l0])
  | succ k1 =>
   have H := HA.out
   clear HA
   simp only [garnerref09_May.l0] at H
   by_cases c2 : Aa < (l0.length : Int)
   rotate_left
   ·rw [if_neg c2] at H
    have c2b0 : decide (Aa < (l0.length : Int)) = false := decide_eq_false c2
    clear c2
    obtain rfl := Option.some.inj H
    go_wp2
    repeat (go_quiet (fail); try go_wp2)
    go_ret
    exact ⟨by first | rfl | (simp; done) | (simp [*]; done), by repeat (first | exact Drawn0.refl _ | apply Drawn0.step)⟩
   rw [if_pos c2] at H
   have c2b0 : decide (Aa < (l0.length : Int)) = true := decide_eq_true c2
   clear c2
   by_cases c3 : 0 ≤ Aa
   rotate_left
   ·rw [if_neg c3] at H
    exact absurd H (by simp)
   rw [if_pos c3] at H
   have c3b0 : decide (0 ≤ Aa) = true := decide_eq_true c3
   clear c3
   by_cases c4 : ((rd_T46 l0 Aa).f0) < 1
   ·rw [if_pos c4] at H
    have c4b0 : decide (((rd_T46 l0 Aa).f0) < 1) = true := decide_eq_true c4
    clear c4
    obtain rfl := Option.some.inj H
    have p161 : 0 ≤ (Aa : Int) := of_decide_eq_true pS
    have q161 : Aa < (l0.length : Int) := of_decide_eq_true pS
    obtain ⟨Ad, e161, Ab, Ac⟩ := at_T46 HR0.out Aa p161 q161
    cases e161
    replace p161 := eq_true p161
    replace q161 := eq_true q161
    go_wp2
    repeat (go_quiet (fail); try go_wp2)
    go_ret
    exact ⟨by first | rfl | (simp; done) | (simp [*]; done), by repeat (first | exact Drawn0.refl _ | apply Drawn0.step)⟩
   rw [if_neg c4] at H
   have c4b0 : decide (((rd_T46 l0 Aa).f0) < 1) = false := decide_eq_false c4
   clear c4
   by_cases c5 : ((rd_T46 l0 Aa).f0) > 2147483647
   ·rw [if_pos c5] at H
    have c5b0 : decide (2147483647 < ((rd_T46 l0 Aa).f0)) = true := decide_eq_true c5
    clear c5
    obtain rfl := Option.some.inj H
    have p161 : 0 ≤ (Aa : Int) := of_decide_eq_true pS
    have q161 : Aa < (l0.length : Int) := of_decide_eq_true pS
    obtain ⟨Ad, e161, Ab, Ac⟩ := at_T46 HR0.out Aa p161 q161
    cases e161
    replace p161 := eq_true p161
    replace q161 := eq_true q161
    go_wp2
    repeat (go_quiet (fail); try go_wp2)
    go_ret
    exact ⟨by first | rfl | (simp; done) | (simp [*]; done), by repeat (first | exact Drawn0.refl _ | apply Drawn0.step)⟩
   rw [if_neg c5] at H
   have c5b0 : decide (2147483647 < ((rd_T46 l0 Aa).f0)) = false := decide_eq_false c5
   clear c5
   by_cases c6 : ((rd_T46 l0 Aa).f1) < 1
   ·rw [if_pos c6] at H
    have c6b0 : decide (((rd_T46 l0 Aa).f1) < 1) = true := decide_eq_true c6
    clear c6
    obtain rfl := Option.some.inj H
    have p161 : 0 ≤ (Aa : Int) := of_decide_eq_true pS
    have q161 : Aa < (l0.length : Int) := of_decide_eq_true pS
    obtain ⟨Ad, e161, Ab, Ac⟩ := at_T46 HR0.out Aa p161 q161
    cases e161
    replace p161 := eq_true p161
    replace q161 := eq_true q161
    go_wp2
    repeat (go_quiet (fail); try go_wp2)
    go_ret
    exact ⟨by first | rfl | (simp; done) | (simp [*]; done), by repeat (first | exact Drawn0.refl _ | apply Drawn0.step)⟩
   rw [if_neg c6] at H
   have c6b0 : decide (((rd_T46 l0 Aa).f1) < 1) = false := decide_eq_false c6
   clear c6
   by_cases c7 : ((rd_T46 l0 Aa).f1) > 1099511627776
   ·rw [if_pos c7] at H
    have c7b0 : decide (1099511627776 < ((rd_T46 l0 Aa).f1)) = true := decide_eq_true c7
    clear c7
    obtain rfl := Option.some.inj H
    have p161 : 0 ≤ (Aa : Int) := of_decide_eq_true pS
    have q161 : Aa < (l0.length : Int) := of_decide_eq_true pS
    obtain ⟨Ad, e161, Ab, Ac⟩ := at_T46 HR0.out Aa p161 q161
    cases e161
    replace p161 := eq_true p161
    replace q161 := eq_true q161
    go_wp2
    repeat (go_quiet (fail); try go_wp2)
    go_ret
    exact ⟨by first | rfl | (simp; done) | (simp [*]; done), by repeat (first | exact Drawn0.refl _ | apply Drawn0.step)⟩
   rw [if_neg c7] at H
   have c7b0 : decide (1099511627776 < ((rd_T46 l0 Aa).f1)) = false := decide_eq_false c7
   clear c7
   by_cases c8 : Aa > 0
   rotate_left
   ·rw [if_neg c8] at H
    have c8b0 : decide (0 < Aa) = false := decide_eq_false c8
    clear c8
    have H' := Am H
    clear H
    have p161 : 0 ≤ (Aa : Int) := of_decide_eq_true pS
    have q161 : Aa < (l0.length : Int) := of_decide_eq_true pS
    obtain ⟨Ad, e161, Ab, Ac⟩ := at_T46 HR0.out Aa p161 q161
    cases e161
    replace p161 := eq_true p161
    replace q161 := eq_true q161
    go_wp2
    repeat (go_quiet (fail); try go_wp2)
    go_roundg k1
    case measure => have := HK1.out; omega
    case rel => exact ⟨(wrap64 (Aa + 1)), (by first | rfl | (simp; done) | (simp [*]; done)), H', ⟨by have := HK1.out; omega⟩, by repeat (first | exact Drawn0.refl _ | apply Drawn0.step)⟩
   rw [if_pos c8] at H
   have c8b0 : decide (0 < Aa) = true := decide_eq_true c8
   clear c8
   obtain ⟨ji9, hji9⟩ : ∃ j_ : Int, (wrap64 (Aa - 1)) = j_ := ⟨_, rfl⟩
   replace H : (if 0 ≤ (ji9) then (if (ji9) < (l0.length : Int) then (if ((rd_T46 l0 Aa).f0) ≤ ((rd_T46 l0 (ji9)).f0) then (some false) else (garnerref09_May.l0 k1 l0 (wrap64 (Aa + 1)))) else (none)) else (none)) = some r := by first | (rw [hji9] at H; exact H) | (simp only [hji9] at H ⊢; exact H)
   have hji9w : (IntKind.i64.wrap (Aa - 1)) = ji9 := (i64_w _).trans hji9
   by_cases c10 : 0 ≤ (ji9)
   rotate_left
   ·rw [if_neg c10] at H
    exact absurd H (by simp)
   rw [if_pos c10] at H
   have c10b0 : decide (0 ≤ (ji9)) = true := decide_eq_true c10
   clear c10
   by_cases c11 : (ji9) < (l0.length : Int)
   rotate_left
   ·rw [if_neg c11] at H
    exact absurd H (by simp)
   rw [if_pos c11] at H
   have c11b0 : decide ((ji9) < (l0.length : Int)) = true := decide_eq_true c11
   clear c11
   by_cases c12 : ((rd_T46 l0 Aa).f0) ≤ ((rd_T46 l0 (ji9)).f0)
   ·rw [if_pos c12] at H
    have c12b0 : decide (((rd_T46 l0 Aa).f0) ≤ ((rd_T46 l0 (ji9)).f0)) = true := decide_eq_true c12
    clear c12
    obtain rfl := Option.some.inj H
    have p161 : 0 ≤ (Aa : Int) := of_decide_eq_true pS
    have q161 : Aa < (l0.length : Int) := of_decide_eq_true pS
    obtain ⟨Ad, e161, Ab, Ac⟩ := at_T46 HR0.out Aa p161 q161
    cases e161
    replace p161 := eq_true p161
    replace q161 := eq_true q161
    have p166 : 0 ≤ ((ji9) : Int) := of_decide_eq_true pS
    have q166 : (ji9) < (l0.length : Int) := of_decide_eq_true pS
    obtain ⟨Ae, e166, Af, Ag⟩ := at_T46 HR0.out (ji9) p166 q166
    obtain rfl : Ad = Ae := (by injection e166)
    replace p166 := eq_true p166
    replace q166 := eq_true q166
    go_wp2
    repeat (go_quiet (fail); try go_wp2)
    go_ret
    exact ⟨by first | rfl | (simp; done) | (simp only [← hji9] <;> (first | rfl | simp)) | (simp [*]; done), by repeat (first | exact Drawn0.refl _ | apply Drawn0.step)⟩
   rw [if_neg c12] at H
   have c12b0 : decide (((rd_T46 l0 Aa).f0) ≤ ((rd_T46 l0 (ji9)).f0)) = false := decide_eq_false c12
   clear c12
   have H' := Am H
   clear H
   have p161 : 0 ≤ (Aa : Int) := of_decide_eq_true pS
   have q161 : Aa < (l0.length : Int) := of_decide_eq_true pS
   obtain ⟨Ad, e161, Ab, Ac⟩ := at_T46 HR0.out Aa p161 q161
   cases e161
   replace p161 := eq_true p161
   replace q161 := eq_true q161
   have p166 : 0 ≤ ((ji9) : Int) := of_decide_eq_true pS
   have q166 : (ji9) < (l0.length : Int) := of_decide_eq_true pS
   obtain ⟨Ae, e166, Af, Ag⟩ := at_T46 HR0.out (ji9) p166 q166
   obtain rfl : Ad = Ae := (by injection e166)
   replace p166 := eq_true p166
   replace q166 := eq_true q166
   go_wp2
   repeat (go_quiet (fail); try go_wp2)
   go_roundg k1
   case measure => have := HK1.out; omega
   case rel => exact ⟨(wrap64 (Aa + 1)), (by first | rfl | (simp; done) | (simp [*]; done)), H', ⟨by have := HK1.out; omega⟩, by repeat (first | exact Drawn0.refl _ | apply Drawn0.step)⟩
def garnerref04_May.f (a0_0 : Int) (a0_1 : Int) (a0_2 : Int) (a0_3 : Int) : Option (Bool) := if a0_0 ≥ 1 then (if a0_0 ≤ 2147483647 then (if a0_1 ≥ 0 then (if a0_1 ≤ 2147483647 then (if a0_2 ≥ 0 then (some (decide (a0_2 ≤ 4096))) else (some false)) else (some false)) else (some false)) else (some false)) else (some false)
set_option maxHeartbeats 8000000 in
set_option maxRecDepth 100000 in
theorem garnerref04_May.calls (a0_0 : Int) (a0_1 : Int) (a0_2 : Int) (a0_3 : Int) (r : Bool) (w : World) (h : garnerref04_May.f a0_0 a0_1 a0_2 a0_3 = some r) :
  Calls Try.prog 25 #[.agg #[.int .i64 a0_0, .int .i64 a0_1, .int .i64 a0_2, .int .u32 a0_3]] w fun e w' => e = .returned (.bool r) ∧ Below w.heap.size w w' := by
 have hu43 := Try.underlying43
 have HB := Am (Below.refl w.heap.size w)
 have H : (if a0_0 ≥ 1 then (if a0_0 ≤ 2147483647 then (if a0_1 ≥ 0 then (if a0_1 ≤ 2147483647 then (if a0_2 ≥ 0 then (some (decide (a0_2 ≤ 4096))) else (some false)) else (some false)) else (some false)) else (some false)) else (some false)) = some r := h
 clear h
 by_cases c2 : a0_0 ≥ 1
 rotate_left
 ·rw [if_neg c2] at H
  have c2b0 : decide (1 ≤ a0_0) = false := decide_eq_false c2
  clear c2
  obtain rfl := Option.some.inj H
  go_enter Try.func25, Try.ntmps25
  go_wp2_with (first | ((with_reducible refine gate_dst (N := 1) rfl ?_); refine box_event ?hg (N := 1) ?hd (cs := #[.int .i64 a0_0, .int .i64 a0_1, .int .i64 a0_2, .int .u32 a0_3]) (t := 43) ?hr ?_; (case hd => rfl); (case hg => rfl); (case hr => first | (go_simp; done) | (go_simp; rfl)); intro Ab hg w17 hbox hb; have Aa := Am (hbox); have Ac := Am ((by rw [hg]; exact (below_size (pB HB.out)) : w.heap.size ≤ Ab)); replace HB := Am (below_step (pB HB.out) hb); have Ad := Ac; clear hb hbox hg; obtain ⟨_, _, _, _⟩ := bc4 Aa.out; obtain ⟨_, _, _, _⟩ := bf4 Aa.out))
  go_ret
  exact ⟨pX, pE HB.out Ad.out⟩
 rw [if_pos c2] at H
 have c2b0 : decide (1 ≤ a0_0) = true := decide_eq_true c2
 clear c2
 by_cases c3 : a0_0 ≤ 2147483647
 rotate_left
 ·rw [if_neg c3] at H
  have c3b0 : decide (a0_0 ≤ 2147483647) = false := decide_eq_false c3
  clear c3
  obtain rfl := Option.some.inj H
  go_enter Try.func25, Try.ntmps25
  go_wp2_with (first | ((with_reducible refine gate_dst (N := 1) rfl ?_); refine box_event ?hg (N := 1) ?hd (cs := #[.int .i64 a0_0, .int .i64 a0_1, .int .i64 a0_2, .int .u32 a0_3]) (t := 43) ?hr ?_; (case hd => rfl); (case hg => rfl); (case hr => first | (go_simp; done) | (go_simp; rfl)); intro Ab hg w15 hbox hb; have Aa := Am (hbox); have Ac := Am ((by rw [hg]; exact (below_size (pB HB.out)) : w.heap.size ≤ Ab)); replace HB := Am (below_step (pB HB.out) hb); have Ad := Ac; clear hb hbox hg; obtain ⟨_, _, _, _⟩ := bc4 Aa.out; obtain ⟨_, _, _, _⟩ := bf4 Aa.out))
  go_ret
  exact ⟨pX, pE HB.out Ad.out⟩
 rw [if_pos c3] at H
 have c3b0 : decide (a0_0 ≤ 2147483647) = true := decide_eq_true c3
 clear c3
 by_cases c4 : a0_1 ≥ 0
 rotate_left
 ·rw [if_neg c4] at H
  have c4b0 : decide (0 ≤ a0_1) = false := decide_eq_false c4
  clear c4
  obtain rfl := Option.some.inj H
  go_enter Try.func25, Try.ntmps25
  go_wp2_with (first | ((with_reducible refine gate_dst (N := 1) rfl ?_); refine box_event ?hg (N := 1) ?hd (cs := #[.int .i64 a0_0, .int .i64 a0_1, .int .i64 a0_2, .int .u32 a0_3]) (t := 43) ?hr ?_; (case hd => rfl); (case hg => rfl); (case hr => first | (go_simp; done) | (go_simp; rfl)); intro Ab hg w13 hbox hb; have Aa := Am (hbox); have Ac := Am ((by rw [hg]; exact (below_size (pB HB.out)) : w.heap.size ≤ Ab)); replace HB := Am (below_step (pB HB.out) hb); have Ad := Ac; clear hb hbox hg; obtain ⟨_, _, _, _⟩ := bc4 Aa.out; obtain ⟨_, _, _, _⟩ := bf4 Aa.out))
  go_ret
  exact ⟨pX, pE HB.out Ad.out⟩
 rw [if_pos c4] at H
 have c4b0 : decide (0 ≤ a0_1) = true := decide_eq_true c4
 clear c4
 by_cases c5 : a0_1 ≤ 2147483647
 rotate_left
 ·rw [if_neg c5] at H
  have c5b0 : decide (a0_1 ≤ 2147483647) = false := decide_eq_false c5
  clear c5
  obtain rfl := Option.some.inj H
  go_enter Try.func25, Try.ntmps25
  go_wp2_with (first | ((with_reducible refine gate_dst (N := 1) rfl ?_); refine box_event ?hg (N := 1) ?hd (cs := #[.int .i64 a0_0, .int .i64 a0_1, .int .i64 a0_2, .int .u32 a0_3]) (t := 43) ?hr ?_; (case hd => rfl); (case hg => rfl); (case hr => first | (go_simp; done) | (go_simp; rfl)); intro Ab hg w11 hbox hb; have Aa := Am (hbox); have Ac := Am ((by rw [hg]; exact (below_size (pB HB.out)) : w.heap.size ≤ Ab)); replace HB := Am (below_step (pB HB.out) hb); have Ad := Ac; clear hb hbox hg; obtain ⟨_, _, _, _⟩ := bc4 Aa.out; obtain ⟨_, _, _, _⟩ := bf4 Aa.out))
  go_ret
  exact ⟨pX, pE HB.out Ad.out⟩
 rw [if_pos c5] at H
 have c5b0 : decide (a0_1 ≤ 2147483647) = true := decide_eq_true c5
 clear c5
 by_cases c6 : a0_2 ≥ 0
 ·rw [if_pos c6] at H
  have c6b0 : decide (0 ≤ a0_2) = true := decide_eq_true c6
  clear c6
  obtain rfl := Option.some.inj H
  go_enter Try.func25, Try.ntmps25
  go_wp2_with (first | ((with_reducible refine gate_dst (N := 1) rfl ?_); refine box_event ?hg (N := 1) ?hd (cs := #[.int .i64 a0_0, .int .i64 a0_1, .int .i64 a0_2, .int .u32 a0_3]) (t := 43) ?hr ?_; (case hd => rfl); (case hg => rfl); (case hr => first | (go_simp; done) | (go_simp; rfl)); intro Ab hg w7 hbox hb; have Aa := Am (hbox); have Ac := Am ((by rw [hg]; exact (below_size (pB HB.out)) : w.heap.size ≤ Ab)); replace HB := Am (below_step (pB HB.out) hb); have Ad := Ac; clear hb hbox hg; obtain ⟨_, _, _, _⟩ := bc4 Aa.out; obtain ⟨_, _, _, _⟩ := bf4 Aa.out))
  go_ret
  exact ⟨pX, pE HB.out Ad.out⟩
 rw [if_neg c6] at H
 have c6b0 : decide (0 ≤ a0_2) = false := decide_eq_false c6
 clear c6
 obtain rfl := Option.some.inj H
 go_enter Try.func25, Try.ntmps25
 go_wp2_with (first | ((with_reducible refine gate_dst (N := 1) rfl ?_); refine box_event ?hg (N := 1) ?hd (cs := #[.int .i64 a0_0, .int .i64 a0_1, .int .i64 a0_2, .int .u32 a0_3]) (t := 43) ?hr ?_; (case hd => rfl); (case hg => rfl); (case hr => first | (go_simp; done) | (go_simp; rfl)); intro Ab hg w9 hbox hb; have Aa := Am (hbox); have Ac := Am ((by rw [hg]; exact (below_size (pB HB.out)) : w.heap.size ≤ Ab)); replace HB := Am (below_step (pB HB.out) hb); have Ad := Ac; clear hb hbox hg; obtain ⟨_, _, _, _⟩ := bc4 Aa.out; obtain ⟨_, _, _, _⟩ := bf4 Aa.out))
 go_ret
 exact ⟨pX, pE HB.out Ad.out⟩
def garnerref09_Points.l0 : Nat → List (S43) → Int → Option (Bool)
 | 0, _, _ => none
 | k + 1, x0, x3 => if x3 < (x0.length : Int) then (if 0 ≤ x3 then ((garnerref04_May.f ((rd_T43 x0 x3).f0) ((rd_T43 x0 x3).f1) ((rd_T43 x0 x3).f2) ((rd_T43 x0 x3).f3)).bind fun t169 => (if t169 = true then (garnerref09_Points.l0 k x0 (wrap64 (x3 + 1))) else (some false))) else (none)) else (some true)
def garnerref09_Points.f (k : Nat) (l0 : List (S43)) : Option (Bool) := garnerref09_Points.l0 k l0 0
theorem garnerref09_Points.mono_l : ∀ k, (∀ y0 y1, LeO (garnerref09_Points.l0 k y0 y1) (garnerref09_Points.l0 (k + 1) y0 y1))
 | 0 => fun _ _ r h => by simp [garnerref09_Points.l0] at h
 | k + 1 => by
  have ih0 := garnerref09_Points.mono_l k
  ·intro y0 y1
   unfold garnerref09_Points.l0
   repeat' first
   | (with_reducible exact ih0 _ _)
   | (with_reducible exact LeO.refl _)
   | (with_reducible exact LeO.none _)
   | (with_reducible refine LeO.ite ?_ ?_)
   | (with_reducible refine LeO.bind ?_ (fun _ => ?_))
   | exact ih0 _ _
   | exact LeO.none _
   | refine LeO.ite ?_ ?_
   | refine LeO.bind ?_ (fun _ => ?_)
theorem garnerref09_Points.mono : ∀ a0 k, LeO (garnerref09_Points.f k a0) (garnerref09_Points.f (k + 1) a0) := by
 intro a0 k
 have ih0 := garnerref09_Points.mono_l k
 unfold garnerref09_Points.f
 repeat' first
   | (with_reducible exact ih0 _ _)
   | (with_reducible exact LeO.refl _)
   | (with_reducible exact LeO.none _)
   | (with_reducible refine LeO.ite ?_ ?_)
   | (with_reducible refine LeO.bind ?_ (fun _ => ?_))
   | exact ih0 _ _
   | exact LeO.none _
   | refine LeO.ite ?_ ?_
   | refine LeO.bind ?_ (fun _ => ?_)
set_option maxHeartbeats 8000000 in
set_option maxRecDepth 100000 in
theorem garnerref09_Points.calls (k : Nat) (A0 : Option Addr) (c0 : Nat) (l0 : List (S43)) (r : Bool) (w : World) (hr0 : Kd.C k43 w A0 l0.length l0) (hc0 : l0.length ≤ c0) (h : garnerref09_Points.f k l0 = some r) :
  Calls Try.prog 11 #[.slice A0 l0.length c0] w fun e w' => e = .returned (.bool r) ∧ Below w.heap.size w w' := by
 have hu43 := Try.underlying43
 have HR0 := Am hr0
 have HC0 := Am hc0
 clear hr0 hc0
 have HB := Am (Below.refl w.heap.size w)
 have H : (garnerref09_Points.l0 k l0 0) = some r := h
 clear h
 have H' := Am H
 clear H
 go_enter Try.func11, Try.ntmps11
 go_wp2
 go_loopg [3] k (fun kq v3 w' => ∃ (Aa : Int), v3 = .int .i64 Aa ∧ Aside0 (garnerref09_Points.l0 kq l0 Aa = some r) ∧ Aside0 (kq ≤ k) ∧ Aside0 (Below w.heap.size w w'))
 case atStart => exact ⟨(0), (by first | rfl | (simp; done) | (simp [*]; done)), H', ⟨Nat.le_refl _⟩, ⟨pB HB.out⟩⟩
 case round =>
  clear H'
  try clear c1
  obtain ⟨Aa, rfl, HA, HK1, HB⟩ := hrel
  cases gk with
  | zero => exact absurd HA.out (by simp [garnerref09_Points.l0])
  | succ k1 =>
   have H := HA.out
   clear HA
   simp only [garnerref09_Points.l0] at H
   by_cases c2 : Aa < (l0.length : Int)
   rotate_left
   ·rw [if_neg c2] at H
    have c2b0 : decide (Aa < (l0.length : Int)) = false := decide_eq_false c2
    clear c2
    obtain rfl := Option.some.inj H
    go_wp2
    go_ret
    exact ⟨pX, pB HB.out⟩
   rw [if_pos c2] at H
   have c2b0 : decide (Aa < (l0.length : Int)) = true := decide_eq_true c2
   clear c2
   by_cases c3 : 0 ≤ Aa
   rotate_left
   ·rw [if_neg c3] at H
    exact absurd H (by simp)
   rw [if_pos c3] at H
   have c3b0 : decide (0 ≤ Aa) = true := decide_eq_true c3
   clear c3
   replace H := Option.bind_eq_some_iff.mp H
   obtain ⟨t169, A40, H⟩ := H
   replace H : (if t169 = true then (garnerref09_Points.l0 k1 l0 (wrap64 (Aa + 1))) else (some false)) = some r := H
   have A4 := Am A40
   clear A40
   by_cases c5 : t169 = true
   rotate_left
   ·replace c5 := Bool.eq_false_iff.mpr c5
    subst c5
    have H1 : (some false) = some r := by rw [if_neg (show ¬ (false = true) by decide)] at H; exact H
    clear H
    have H := H1
    clear H1
    obtain rfl := Option.some.inj H
    have p168 : 0 ≤ (Aa : Int) := of_decide_eq_true pS
    have q168 : Aa < (l0.length : Int) := of_decide_eq_true pS
    obtain ⟨Af, e168, Ab, Ac, Ad, Ae⟩ := at_T43u HR0.out Aa p168 q168 HB.out
    cases e168
    replace p168 := eq_true p168
    replace q168 := eq_true q168
    go_wp2_with (first | ((with_reducible refine gate_callee (f := 25) rfl ?_); refine goesL_ (some 14) rfl rfl Try.func25 (by kernel_rfl) rfl #[.agg #[.int .i64 ((rd_T43 l0 Aa).f0), .int .i64 ((rd_T43 l0 Aa).f1), .int .i64 ((rd_T43 l0 Aa).f2), .int .u32 ((rd_T43 l0 Aa).f3)]] rfl pL ?_; (with_reducible refine (garnerref04_May.calls ((rd_T43 l0 Aa).f0) ((rd_T43 l0 Aa).f1) ((rd_T43 l0 Aa).f2) ((rd_T43 l0 Aa).f3) false _ A4.out).mono ?_); rintro e w7 ⟨rfl, hb⟩; refine ⟨_, rfl, ?_⟩; replace HB := Am (below_step (pB HB.out) hb); (try clear hb); (try clear hb2); (try clear hk); (try clear hi)))
    go_ret
    exact ⟨pX, pB HB.out⟩
   subst c5
   have H1 : (garnerref09_Points.l0 k1 l0 (wrap64 (Aa + 1))) = some r := by rw [if_pos rfl] at H; exact H
   clear H
   have H := H1
   clear H1
   have H' := Am H
   clear H
   have p168 : 0 ≤ (Aa : Int) := of_decide_eq_true pS
   have q168 : Aa < (l0.length : Int) := of_decide_eq_true pS
   obtain ⟨Af, e168, Ab, Ac, Ad, Ae⟩ := at_T43u HR0.out Aa p168 q168 HB.out
   cases e168
   replace p168 := eq_true p168
   replace q168 := eq_true q168
   go_wp2_with (first | ((with_reducible refine gate_callee (f := 25) rfl ?_); refine goesL_ (some 14) rfl rfl Try.func25 (by kernel_rfl) rfl #[.agg #[.int .i64 ((rd_T43 l0 Aa).f0), .int .i64 ((rd_T43 l0 Aa).f1), .int .i64 ((rd_T43 l0 Aa).f2), .int .u32 ((rd_T43 l0 Aa).f3)]] rfl pL ?_; (with_reducible refine (garnerref04_May.calls ((rd_T43 l0 Aa).f0) ((rd_T43 l0 Aa).f1) ((rd_T43 l0 Aa).f2) ((rd_T43 l0 Aa).f3) true _ A4.out).mono ?_); rintro e w6 ⟨rfl, hb⟩; refine ⟨_, rfl, ?_⟩; replace HB := Am (below_step (pB HB.out) hb); (try clear hb); (try clear hb2); (try clear hk); (try clear hi)))
   go_roundg k1
   case measure => have := HK1.out; omega
   case rel => exact ⟨(wrap64 (Aa + 1)), (by first | rfl | (simp; done) | (simp [*]; done)), H', ⟨by have := HK1.out; omega⟩, ⟨pB HB.out⟩⟩
def garnerref09_Same.l0 : Nat → List (S46) → List (S46) → Int → Option (Bool)
 | 0, _, _, _ => none
 | k + 1, x0, x1, x5 => if x5 < (x0.length : Int) then (if 0 ≤ x5 then (if x5 < (x1.length : Int) then (if (!(((rd_T46 x0 x5).f0) == ((rd_T46 x1 x5).f0)) || (!(((rd_T46 x0 x5).f1) == ((rd_T46 x1 x5).f1)))) = true then (some false) else (garnerref09_Same.l0 k x0 x1 (wrap64 (x5 + 1)))) else (none)) else (none)) else (some true)
def garnerref09_Same.f (k : Nat) (l0 : List (S46)) (l1 : List (S46)) : Option (Bool) := if (l0.length : Int) = (l1.length : Int) then (garnerref09_Same.l0 k l0 l1 0) else (some false)
theorem garnerref09_Same.mono_l : ∀ k, (∀ y0 y1 y2, LeO (garnerref09_Same.l0 k y0 y1 y2) (garnerref09_Same.l0 (k + 1) y0 y1 y2))
 | 0 => fun _ _ _ r h => by simp [garnerref09_Same.l0] at h
 | k + 1 => by
  have ih0 := garnerref09_Same.mono_l k
  ·intro y0 y1 y2
   unfold garnerref09_Same.l0
   repeat' first
   | (with_reducible exact ih0 _ _ _)
   | (with_reducible exact LeO.refl _)
   | (with_reducible exact LeO.none _)
   | (with_reducible refine LeO.ite ?_ ?_)
   | (with_reducible refine LeO.bind ?_ (fun _ => ?_))
   | exact ih0 _ _ _
   | exact LeO.none _
   | refine LeO.ite ?_ ?_
   | refine LeO.bind ?_ (fun _ => ?_)
theorem garnerref09_Same.mono : ∀ a0 a1 k, LeO (garnerref09_Same.f k a0 a1) (garnerref09_Same.f (k + 1) a0 a1) := by
 intro a0 a1 k
 have ih0 := garnerref09_Same.mono_l k
 unfold garnerref09_Same.f
 repeat' first
   | (with_reducible exact ih0 _ _ _)
   | (with_reducible exact LeO.refl _)
   | (with_reducible exact LeO.none _)
   | (with_reducible refine LeO.ite ?_ ?_)
   | (with_reducible refine LeO.bind ?_ (fun _ => ?_))
   | exact ih0 _ _ _
   | exact LeO.none _
   | refine LeO.ite ?_ ?_
   | refine LeO.bind ?_ (fun _ => ?_)
set_option maxHeartbeats 8000000 in
set_option maxRecDepth 100000 in
theorem garnerref09_Same.calls (k : Nat) (A0 : Option Addr) (c0 : Nat) (l0 : List (S46)) (A1 : Option Addr) (c1 : Nat) (l1 : List (S46)) (r : Bool) (w : World) (hr0 : Kd.C k46 w A0 l0.length l0) (hc0 : l0.length ≤ c0) (hr1 : Kd.C k46 w A1 l1.length l1) (hc1 : l1.length ≤ c1) (h : garnerref09_Same.f k l0 l1 = some r) :
  Calls Try.prog 16 #[.slice A0 l0.length c0, .slice A1 l1.length c1] w fun e w' => e = .returned (.bool r) ∧ Drawn0 w w' := by
 have hu46 := Try.underlying46
 have HR0 := Am hr0
 have HC0 := Am hc0
 clear hr0 hc0
 have HR1 := Am hr1
 have HC1 := Am hc1
 clear hr1 hc1
 have H : (if (l0.length : Int) = (l1.length : Int) then (garnerref09_Same.l0 k l0 l1 0) else (some false)) = some r := h
 clear h
 by_cases c3 : (l0.length : Int) = (l1.length : Int)
 rotate_left
 ·rw [if_neg c3] at H
  have c3b0 : ((l0.length : Int) == (l1.length : Int)) = false := beq_eq_false_iff_ne.mpr c3
  have c3b1 : ((l0.length : Int) != (l1.length : Int)) = true := bne_iff_ne.mpr c3
  have c3b2 : (l0.length == l1.length) = false := by first | simpa using c3 | (simp at c3 ⊢; omega)
  obtain rfl := Option.some.inj H
  go_enter Try.func16, Try.ntmps16
  go_wp2
  repeat (go_quiet (fail); try go_wp2)
  go_ret
  exact ⟨by first | rfl | (simp; done) | (simp [*]; done), by repeat (first | exact Drawn0.refl _ | apply Drawn0.step)⟩
 rw [if_pos c3] at H
 have c3b0 : ((l0.length : Int) == (l1.length : Int)) = true := beq_iff_eq.mpr c3
 have c3b1 : ((l0.length : Int) != (l1.length : Int)) = false := bne_eq_false_iff_eq.mpr c3
 have c3b2 : (l0.length == l1.length) = true := by first | simpa using c3 | (simp at c3 ⊢; omega)
 clear c3
 have H' := Am H
 clear H
 go_enter Try.func16, Try.ntmps16
 go_wp2
 repeat (go_quiet (fail); try go_wp2)
 go_loopg [5] k (fun kq v5 w' => ∃ (Aa : Int), v5 = .int .i64 Aa ∧ Aside0 (garnerref09_Same.l0 kq l0 l1 Aa = some r) ∧ Aside0 (kq ≤ k) ∧ Drawn0 w w')
 case atStart => exact ⟨(0), (by first | rfl | (simp; done) | (simp [*]; done)), H', ⟨Nat.le_refl _⟩, by repeat (first | exact Drawn0.refl _ | apply Drawn0.step)⟩
 case round =>
  clear H'
  try clear c1
  try clear p2
  try clear c3
  try clear c3b0
  try clear c3b1
  try clear c3b2
  obtain ⟨Aa, rfl, HA, HK1, ⟨m1, rfl⟩⟩ := hrel
  cases gk with
  | zero => exact absurd HA.out (by simp [garnerref09_Same.l0])
  | succ k1 =>
   have H := HA.out
   clear HA
   simp only [garnerref09_Same.l0] at H
   by_cases c4 : Aa < (l0.length : Int)
   rotate_left
   ·rw [if_neg c4] at H
    have c4b0 : decide (Aa < (l0.length : Int)) = false := decide_eq_false c4
    clear c4
    obtain rfl := Option.some.inj H
    go_wp2
    repeat (go_quiet (fail); try go_wp2)
    go_ret
    exact ⟨by first | rfl | (simp; done) | (simp [*]; done), by repeat (first | exact Drawn0.refl _ | apply Drawn0.step)⟩
   rw [if_pos c4] at H
   have c4b0 : decide (Aa < (l0.length : Int)) = true := decide_eq_true c4
   clear c4
   by_cases c5 : 0 ≤ Aa
   rotate_left
   ·rw [if_neg c5] at H
    exact absurd H (by simp)
   rw [if_pos c5] at H
   have c5b0 : decide (0 ≤ Aa) = true := decide_eq_true c5
   clear c5
   by_cases c6 : Aa < (l1.length : Int)
   rotate_left
   ·rw [if_neg c6] at H
    exact absurd H (by simp)
   rw [if_pos c6] at H
   have c6b0 : decide (Aa < (l1.length : Int)) = true := decide_eq_true c6
   clear c6
   by_cases c7 : (!(((rd_T46 l0 Aa).f0) == ((rd_T46 l1 Aa).f0)) || (!(((rd_T46 l0 Aa).f1) == ((rd_T46 l1 Aa).f1)))) = true
   ·rw [if_pos c7] at H
    have c7b0 : (!(((rd_T46 l0 Aa).f0) == ((rd_T46 l1 Aa).f0)) || (!(((rd_T46 l0 Aa).f1) == ((rd_T46 l1 Aa).f1)))) = true := c7
    clear c7
    obtain rfl := Option.some.inj H
    have p170 : 0 ≤ (Aa : Int) := of_decide_eq_true pS
    have q170 : Aa < (l0.length : Int) := of_decide_eq_true pS
    obtain ⟨Af, e170, Ab, Ac⟩ := at_T46 HR0.out Aa p170 q170
    cases e170
    replace p170 := eq_true p170
    replace q170 := eq_true q170
    have p171 : 0 ≤ (Aa : Int) := of_decide_eq_true pS
    have q171 : Aa < (l1.length : Int) := of_decide_eq_true pS
    obtain ⟨Ag, e171, Ad, Ae⟩ := at_T46 HR1.out Aa p171 q171
    cases e171
    replace p171 := eq_true p171
    replace q171 := eq_true q171
    go_wp2
    repeat (go_quiet (fail); try go_wp2)
    go_ret
    exact ⟨by first | rfl | (simp; done) | (simp [*]; done), by repeat (first | exact Drawn0.refl _ | apply Drawn0.step)⟩
   rw [if_neg c7] at H
   have c7b0 : (!(((rd_T46 l0 Aa).f0) == ((rd_T46 l1 Aa).f0)) || (!(((rd_T46 l0 Aa).f1) == ((rd_T46 l1 Aa).f1)))) = false := by simpa using c7
   clear c7
   have H' := Am H
   clear H
   have p170 : 0 ≤ (Aa : Int) := of_decide_eq_true pS
   have q170 : Aa < (l0.length : Int) := of_decide_eq_true pS
   obtain ⟨Af, e170, Ab, Ac⟩ := at_T46 HR0.out Aa p170 q170
   cases e170
   replace p170 := eq_true p170
   replace q170 := eq_true q170
   have p171 : 0 ≤ (Aa : Int) := of_decide_eq_true pS
   have q171 : Aa < (l1.length : Int) := of_decide_eq_true pS
   obtain ⟨Ag, e171, Ad, Ae⟩ := at_T46 HR1.out Aa p171 q171
   cases e171
   replace p171 := eq_true p171
   replace q171 := eq_true q171
   go_wp2
   repeat (go_quiet (fail); try go_wp2)
   go_roundg k1
   case measure => have := HK1.out; omega
   case rel => exact ⟨(wrap64 (Aa + 1)), (by first | rfl | (simp; done) | (simp [*]; done)), H', ⟨by have := HK1.out; omega⟩, by repeat (first | exact Drawn0.refl _ | apply Drawn0.step)⟩
section
variable {P : Program}
theorem slices_Delete_api_Share.run_append_rowN (w : World) (t tx ty e : TypeId) (i : TypeInfo) (ht : P.underlying t = some (.slice e)) (hi : P.info? e = some i) (g sLen sCap : Nat) (x : Value) (n : Nat) (news : List Value) (hs : Src P i.size tx x n news w)
  (hroom : sLen + n ≤ sCap) (cur : Array Value) (T : TypeId) (hg : w.heap[g]? = some (.cells cur T (0, 0))) (hfit : sLen * i.size + news.length ≤ cur.size) :
  (Builtin.append_ #[t, tx] ty #[.slice (some ⟨g, 0, none⟩) sLen sCap, x]).run P w = .ok (.slice (some ⟨g, 0, none⟩) (sLen + n) sCap) (w.setRow g (cur.toList.take (sLen * i.size) ++ news ++ cur.toList.drop (sLen * i.size + news.length)).toArray) := by
 have hst := run_storeCells_at P g (sLen * i.size) T news 0 cur w hg (by simpa using hfit) hs.one
 simp only [Nat.add_zero] at hst
 rcases hs.kind with ⟨e', hk⟩ | hk <;> simp [Builtin.append_, run_underlying ht, run_underlying hk, sizeOf, typeInfo, hi, hs.len, hroom, hs.cells, Addr.add_lit, hst]
theorem slices_Delete_api_Share.run_clear_rowN (w : World) (t e ty : TypeId) (z : Value) (ht : P.underlying t = some (.slice e)) (hv : ∀ w, (zeroValue e).run P w = .ok z w) (g o n c : Nat) (hn : 0 < n) (cur : Array Value) (T : TypeId) (hg : w.heap[g]? = some (.cells cur T (0, 0)))
  (zs : List Value) (hz : zs = (Builtin.zeroCells z.cells n).toList) (h1 : ∀ u ∈ zs, u.oneCell' = true) (hfit : o + zs.length ≤ cur.size) :
  (Builtin.clear_ #[t] ty #[.slice (some ⟨g, o, none⟩) n c]).run P w = .ok (.tuple #[]) (w.setRow g (cur.toList.take o ++ zs ++ cur.toList.drop (o + zs.length)).toArray) := by
 have hst := run_storeCells_at P g o T zs 0 cur w hg (by simpa using hfit) h1
 simp only [Nat.add_zero] at hst
 cases n with
 | zero => omega
 | succ n => simp [Builtin.clear_, run_underlying ht, hv, ← hz, hst]
theorem slices_Delete_api_Share.step_append_runN {ops : Array Oper} {o : Oper} {a : Act} {w : World} {K : Act → World → Prop} {Q : Exit → Act → World → Prop} {E : Prop}
  (hg : o.guard = none) (d x : Operand) (dT sT : TypeId) (hop : o.op = Op.call { callee := Callee.builtin Builtin.append, args := #[d, x], argTypes := #[dT, sT] })
  (v u : Value) (hd : a.eval d = v) (hx : a.eval x = u) {v' : Value} {w' : World} (hr : (Builtin.append_ #[dT, sT] o.type #[v, u]).run P w = .ok v' w') (hK : K (a.put o.dst v') w') :
  if Region.wanted o (yielded ops a.tmps) = true then Oper.wp P o a w K Q else E := by
 have hw : Region.wanted o (yielded ops a.tmps) = true := by simp [Region.wanted, hg]
 rw [if_pos hw]
 unfold Oper.wp
 simp [execOp, hop, resolve, invoke, builtin, hd, hx, hr, Result.andThen]
 exact hK
theorem slices_Delete_api_Share.wpList_clear_runN (w : World) {ops : Array Oper} {rest : List Oper} {o : Oper} {a : Act} {Q : Exit → Act → World → Prop} (hgd : o.guard = none) (s : Operand) (t : TypeId)
  (ho : o.op = .call { callee := .builtin .clear, args := #[s], argTypes := #[t] }) (v : Value) (hs : a.eval s = v) {v' : Value} {w' : World}
  (hr : (Builtin.clear_ #[t] o.type #[v]).run P w = .ok v' w') (h : wpList P ops Q rest (a.put o.dst v') w') : wpList P ops Q (o :: rest) a w :=
 wpList_plain hgd fun _ hK => by
  unfold Oper.wp execOp
  simp only [ho, resolve, invoke, builtin, Sem.run_bind, Sem.run_pure, Result.andThen_ok, List.map_toArray, List.map_cons, List.map_nil, hs, hr]
  exact hK _ _ h
end
set_option maxHeartbeats 4000000 in
set_option maxRecDepth 100000 in
theorem slices_Delete_api_Share.del_cells (b n c i j : Nat) (cur : Array Value) (w : World) (hi : i < j) (hj : j ≤ n) (hnc : n ≤ c) (hcm : c ≤ maxLen)
  (hb : w.heap[b]? = some (.cells cur 46 (0, 0))) (hcs : cur.size = c * 2) (h1 : ∀ u ∈ cur.toList.take (n * 2), u.oneCell' = true) :
  Calls Try.prog 28 #[.slice (some ⟨b, 0, none⟩) n c, .int .i64 i, .int .i64 j] w fun e w' =>
   e = .returned (.slice (some ⟨b, 0, none⟩) (i + (n - j)) c) ∧ w.grownBy w' (some b) ∧ ∃ cur' : Array Value, w'.heap[b]? = some (.cells cur' 46 (0, 0)) ∧ cur'.size = c * 2 ∧
    cur'.toList.take ((i + (n - j)) * 2) = cur.toList.take (i * 2) ++ (cur.toList.drop (j * 2)).take ((n - j) * 2) := by
 have hu22 := Try.underlying22
 have c63 : (c : Int) ≤ 9223372036854775807 := by unfold maxLen at hcm; omega
 obtain ⟨i0, hi0, hz0, hzs, hzb⟩ := info_parts info46
 have q1 : ¬ ((i : Int) = (j : Int)) := by omega
 have q2 : i ≤ n := by omega
 have q3 : (i : Int) ≤ (j : Int) := by omega
 have q4 : (j : Int) ≤ (n : Int) := by omega
 have q5 : ¬ (c = i) := by omega
 have q6 : i ≤ c := by omega
 have q7 : j ≤ c := by omega
 have q8 : (i : Int) ≤ (n : Int) := by omega
 have q9 : (i : Int) ≤ (c : Int) := by omega
 have q10 : (j : Int) ≤ (c : Int) := by omega
 obtain ⟨cs1, hcs1⟩ : ∃ cs1, cs1 = (cur.toList.drop (j * 2)).take ((n - j) * 2) := ⟨_, rfl⟩
 have hl1 : cs1.length = (n - j) * 2 := by rw [hcs1, List.length_take, List.length_drop, Array.length_toList]; omega
 have o1 : ∀ u ∈ cs1, u.oneCell' = true := fun u hu => h1 u (by rw [hcs1] at hu; have e : (cur.toList.take (n * 2)).drop (j * 2) = (cur.toList.drop (j * 2)).take ((n - j) * 2) := (by rw [List.drop_take, show n * 2 - j * 2 = (n - j) * 2 by omega]); rw [← e] at hu; exact List.mem_of_mem_drop hu)
 obtain ⟨cur1, hc1⟩ : ∃ cur1 : Array Value, cur1 = (cur.toList.take (i * 2) ++ cs1 ++ cur.toList.drop (i * 2 + cs1.length)).toArray := ⟨_, rfl⟩
 have hc1s : cur1.size = cur.size := by rw [hc1, List.size_toArray, List.length_append, List.length_append, List.length_take, List.length_drop, Array.length_toList, hl1]; omega
 have hap : ∀ (A : Addr), (n - j = 0 ∨ A = ⟨b, j * 2, none⟩) → ∀ ty sc, (Builtin.append_ #[22, 22] ty #[.slice (some ⟨b, 0, none⟩) i c, .slice (some A) (n - j) sc]).run Try.prog w.drew = .ok (.slice (some ⟨b, 0, none⟩) (i + (n - j)) c) (w.drew.setRow b cur1) := fun A hA ty sc => by
  have hsrc : Src Try.prog i0.size 22 (.slice (some A) (n - j) sc) (n - j) cs1 w.drew := by
   rw [hzs]
   exact Src.ofSlice w.drew Try.underlying22 A (n - j) sc cs1 hl1 (fun k v hk => by
    rcases hA with hA | rfl
    ·rw [hA] at hl1
     rw [List.eq_nil_of_length_eq_zero hl1] at hk
     cases hk
    ·rw [hcs1, List.getElem?_take] at hk
     split at hk
     ·rw [List.getElem?_drop] at hk
      rw [Addr.add_lit]
      show w.cell? _ = _
      simp [World.cell?, hb]
      simpa using hk
     ·cases hk) o1
  have := slices_Delete_api_Share.run_append_rowN (P := Try.prog) w.drew 22 22 ty 46 i0 Try.underlying22 hi0 b i c _ (n - j) cs1 hsrc (by omega) cur 46 hb (by rw [hzs, hl1]; omega)
  rw [hzs, ← hc1] at this
  exact this
 have hb1 : (w.drew.setRow b cur1).heap[b]? = some (.cells cur1 46 (0, 0)) := setRow_heap w.drew b cur cur1 46 (0, 0) hb
 obtain ⟨zs, hzs'⟩ : ∃ zs : List Value, zs = (Builtin.zeroCells (Value.agg #[.int .i64 0, .int .i64 0]).cells (j - i)).toList := ⟨_, rfl⟩
 have hlz : zs.length = (j - i) * 2 := by rw [hzs']; simp [Builtin.zeroCells, Value.cells]
 have oz : ∀ u ∈ zs, u.oneCell' = true := by
  rw [hzs']
  exact slices_Insert_api_Share.m46_one (w := w) (base := 0) (ok := fun _ => True) (Kd.reps_zeros (z := .agg #[.int .i64 0, .int .i64 0]) (z0 := z46) rfl (by decide) (k46_mkM w 0 (fun _ => True) z46) (j - i))
 have hz1 : ∀ u ∈ zs, u.oneCell' = true := oz
 have hcl : ∀ (cu : Array Value) (W : World), W.heap[b]? = some (.cells cu 46 (0, 0)) → cu.size = cur.size → ∀ ty cc, (Builtin.clear_ #[22] ty #[.slice (some ⟨b, (i + (n - j)) * 2, none⟩) (n - (i + (n - j))) cc]).run Try.prog W = .ok (.tuple #[]) (W.setRow b (cu.toList.take ((i + (n - j)) * 2) ++ zs ++ cu.toList.drop ((i + (n - j)) * 2 + zs.length)).toArray) := fun cu W hW hcu ty cc =>
  slices_Delete_api_Share.run_clear_rowN (P := Try.prog) W 22 46 ty _ Try.underlying22 (fun w => by kernel_rfl) b ((i + (n - j)) * 2) (n - (i + (n - j))) cc (by omega) cu 46 hW zs (by rw [hzs', show n - (i + (n - j)) = j - i by omega]) oz (by rw [hlz, hcu]; omega)
 have hsz : ∀ cu : Array Value, cu.size = cur.size → (cu.toList.take ((i + (n - j)) * 2) ++ zs ++ cu.toList.drop ((i + (n - j)) * 2 + zs.length)).toArray.size = c * 2 := fun cu hcu => by
  rw [List.size_toArray, List.length_append, List.length_append, List.length_take, List.length_drop, Array.length_toList, hlz]
  omega
 have htk : ∀ (cu : Array Value), cu.size = cur.size → (cu.toList.take ((i + (n - j)) * 2) ++ zs ++ cu.toList.drop ((i + (n - j)) * 2 + zs.length)).take ((i + (n - j)) * 2) = cu.toList.take ((i + (n - j)) * 2) := fun cu hcu => by
  have hl : (cu.toList.take ((i + (n - j)) * 2)).length = (i + (n - j)) * 2 := by rw [List.length_take, Array.length_toList]; omega
  rw [List.append_assoc, List.take_append_of_le_length (by omega), List.take_take, Nat.min_self]
 have htk1 : cur1.toList.take ((i + (n - j)) * 2) = cur.toList.take (i * 2) ++ cs1 := by
  rw [hc1]
  show (cur.toList.take (i * 2) ++ cs1 ++ _).take ((i + (n - j)) * 2) = _
  have hl : (cur.toList.take (i * 2) ++ cs1).length = (i + (n - j)) * 2 := by rw [List.length_append, List.length_take, Array.length_toList, hl1]; omega
  rw [← hl]
  exact List.take_left
 by_cases hcj : c = j
 ·have h0 : n - j = 0 := by omega
  have hnj : n = j := by omega
  subst hnj
  subst hcj
  rw [h0, Nat.add_zero] at hcl hsz htk ⊢
  have ecs : (cur.toList.drop (c * 2)).take (0 * 2) = [] := by simp
  rw [ecs, List.append_nil]
  obtain ⟨cur2, hc2⟩ : ∃ cur2 : Array Value, cur2 = (cur.toList.take (i * 2) ++ zs ++ cur.toList.drop (i * 2 + zs.length)).toArray := ⟨_, rfl⟩
  have hclr : ∀ ty cc, (Builtin.clear_ #[22] ty #[.slice (some ⟨b, i * 2, none⟩) (c - i) cc]).run Try.prog w.drew = .ok (.tuple #[]) (w.drew.setRow b cur2) := fun ty cc => by
   rw [hc2]
   exact hcl cur w.drew hb rfl ty cc
  have HX : Aside0 (w.grownBy (w.drew.setRow b cur2) (some b) ∧ ∃ cur' : Array Value, (w.drew.setRow b cur2).heap[b]? = some (.cells cur' 46 (0, 0)) ∧ cur'.size = c * 2 ∧ cur'.toList.take (i * 2) = cur.toList.take (i * 2)) :=
   ⟨(slices_Insert_api_Share.grown_drew w _).trans (slices_Insert_api_Share.grown_setRow _ _ _), cur2, setRow_heap w.drew b cur cur2 46 (0, 0) hb, by rw [hc2]; exact hsz cur rfl, by rw [hc2]; exact htk cur rfl⟩
  clear hzs' hc1 hc2 hcs1 hl1 hc1s hlz oz hz0 hi0 hzs hzb o1 hcl hsz htk htk1 hap ecs
  go_enter Try.func28, Try.ntmps28
  go_wp2
  go_region_law (refine slices_Delete_api_Share.step_append_runN rfl _ _ 22 22 rfl _ _ (by simp [Act.eval, Act.put]) (by simp [Act.eval, Act.put]) (by exact True.elim trivial) ?_)
  go_wp2_with (at_builtin; refine slices_Delete_api_Share.wpList_clear_runN _ rfl _ 22 rfl _ rfl (hclr _ _) ?_)
  go_ret
  exact ⟨rfl, HX.out⟩
 ·obtain ⟨cur2, hc2⟩ : ∃ cur2 : Array Value, cur2 = (cur1.toList.take ((i + (n - j)) * 2) ++ zs ++ cur1.toList.drop ((i + (n - j)) * 2 + zs.length)).toArray := ⟨_, rfl⟩
  have hclr : ∀ ty cc, (Builtin.clear_ #[22] ty #[.slice (some ⟨b, (i + (n - j)) * 2, none⟩) (n - (i + (n - j))) cc]).run Try.prog (w.drew.setRow b cur1) = .ok (.tuple #[]) ((w.drew.setRow b cur1).setRow b cur2) := fun ty cc => by
   rw [hc2]
   exact hcl cur1 _ hb1 hc1s ty cc
  have HX : Aside0 (w.grownBy ((w.drew.setRow b cur1).setRow b cur2) (some b) ∧ ∃ cur' : Array Value, ((w.drew.setRow b cur1).setRow b cur2).heap[b]? = some (.cells cur' 46 (0, 0)) ∧ cur'.size = c * 2 ∧ cur'.toList.take ((i + (n - j)) * 2) = cur.toList.take (i * 2) ++ (cur.toList.drop (j * 2)).take ((n - j) * 2)) :=
   ⟨((slices_Insert_api_Share.grown_drew w _).trans (slices_Insert_api_Share.grown_setRow _ _ _)).trans (slices_Insert_api_Share.grown_setRow _ _ _), cur2, setRow_heap _ b cur1 cur2 46 (0, 0) hb1, by rw [hc2]; exact hsz cur1 hc1s, by rw [hc2, ← hcs1, ← htk1]; exact htk cur1 hc1s⟩
  have hapj := hap ⟨b, j * 2, none⟩ (.inr rfl)
  have r1 : i + (n - j) ≤ n := by omega
  have r2 : ((i + (n - j) : Nat) : Int) ≤ (n : Int) := by omega
  have r3 : ¬ (c = i + (n - j)) := by omega
  clear hzs' hc1 hc2 hcs1 hl1 hc1s hlz oz hz0 hi0 hzs hzb o1 hcl hsz htk htk1 hap
  go_enter Try.func28, Try.ntmps28
  go_wp2
  go_region_law (refine slices_Delete_api_Share.step_append_runN rfl _ _ 22 22 rfl (.slice (some ⟨b, 0, none⟩) i c) (.slice (some ⟨b, j * 2, none⟩) (n - j) (c - j)) (by simp [Act.eval, Act.put]) (by simp [Act.eval, Act.put]) (hapj 22 (c - j)) ?_)
  go_wp2_with (at_builtin; refine slices_Delete_api_Share.wpList_clear_runN _ rfl _ 22 rfl _ rfl (hclr _ _) ?_)
  go_ret
  exact ⟨rfl, HX.out⟩
def slices_Delete_api_Share.f (l0 : List S46) (a1 : Int) (a2 : Int) : Option (List S46) := if 0 ≤ a1 ∧ a1 < a2 ∧ a2 ≤ l0.length then some (l0.take a1.toNat ++ l0.drop a2.toNat) else none
theorem slices_Delete_api_Share.calls (P0_ : Nat → Prop) (u9000_ : Value) (l0 : List (S46)) (a1 : Int) (a2 : Int) (r : List (S46)) (w0 w : World) (hB : Below w0.heap.size w0 w) (ho0 : Kd.R k46 46 w w0.heap.size P0_ u9000_ l0) (h : slices_Delete_api_Share.f l0 a1 a2 = some r) :
  Calls Try.prog 28 #[u9000_, .int .i64 a1, .int .i64 a2] w fun e w' => ∃ v0_ : Value, e = .returned (v0_) ∧ Kd.R k46 46 w' w0.heap.size (fun k_ => (P0_ k_ ∨ w.heap.size ≤ k_)) v0_ r ∧ Below w0.heap.size w0 w' ∧ Kept w w' (fun k_ => P0_ k_) := by
 unfold slices_Delete_api_Share.f at h
 split at h
 rotate_left
 ·cases h
 rename_i hc
 obtain ⟨hc1, hc2, hc3⟩ := hc
 obtain rfl := Option.some.inj h
 clear h
 obtain ⟨i, rfl⟩ : ∃ i : Nat, a1 = i := ⟨a1.toNat, by omega⟩
 obtain ⟨j, rfl⟩ : ∃ j : Nat, a2 = j := ⟨a2.toNat, by omega⟩
 rw [Int.toNat_natCast, Int.toNat_natCast]
 obtain ⟨hk0, inner0, ⟨hlen0, hown0⟩, hrep0⟩ := ho0
 rcases hown0 with ⟨_, hn0⟩ | ⟨g, c, cur, rfl, hbg, hhg, hng, hmg, hsg, htg⟩
 ·omega
 have hP0g : P0_ g := hk0 g rfl
 replace htg : cur.toList.take (l0.length * 2) = inner0 := htg
 replace hsg : cur.size = c * 2 := hsg
 have e1 : cur.toList.take (i * 2) = inner0.take (i * 2) := by rw [← htg, List.take_take, Nat.min_eq_left (by omega)]
 have e2 : (cur.toList.drop (j * 2)).take ((l0.length - j) * 2) = inner0.drop (j * 2) := by rw [← htg, List.drop_take, show l0.length * 2 - j * 2 = (l0.length - j) * 2 by omega]
 have hrep : Reps (k46.M w w0.heap.size (fun _ => True)) 2 (l0.take i ++ l0.drop j) (inner0.take (i * 2) ++ inner0.drop (j * 2)) := Kd.reps_append (Kd.reps_take (slices_Insert_api_Share.m46_any hrep0) (by omega)) (Kd.reps_drop (slices_Insert_api_Share.m46_any hrep0))
 have hrl : (l0.take i ++ l0.drop j).length = i + (l0.length - j) := by rw [List.length_append, List.length_take, List.length_drop]; omega
 refine (slices_Delete_api_Share.del_cells g l0.length c i j cur w (by omega) (by omega) hng hmg hhg hsg (by rw [htg]; exact slices_Insert_api_Share.m46_one hrep0)).mono ?_
 rintro e w' ⟨rfl, hg1, cur', hh', hs', ht'⟩
 rw [e1, e2] at ht'
 refine ⟨_, rfl, ?_, hB.grown hg1 hB.size (fun k hk => by cases hk; exact hbg), Kept.of_grown hg1 (Kept.refl w _) (fun k hk => by cases hk; exact .inl hP0g)⟩
 rw [← hrl]
 exact slices_Insert_api_Share.r46_mk (.inl hP0g) hbg hh' (by omega) hmg hs' (by rw [hrl]; exact ht') hrep
end Go.Proofs.Ytkapmlijeilieaa.PTallySubs
