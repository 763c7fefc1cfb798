/- What the law reaches, as plain Lean functions, and that the machine's calls answer just that. -/
import Derived.Test.YtkapmlijeilieaaPTallyAddsx0
import Derived.Test.YtkapmlijeilieaaPTallyAddsx2
import Derived.Test.YtkapmlijeilieaaPTallyAddsx3
namespace Go.Proofs.Ytkapmlijeilieaa.PTallyAdds
open Go.RowKit Go.Proofs.YtkapmlijeilieaaW.PrintWords Go.Proofs.YtkapmlijeilieaaW.PrintLast Go.Proofs.YtkapmlijeilieaaW.PrintMore
attribute [local go_sem] max2_int min2_int max_two min_two max_three min_three max_four min_four
set_option linter.unusedVariables false
set_option linter.unusedSimpArgs false
attribute [local go_sem] wrap64_l1 wrap64_l2 wrap64_l3 wrap64_l4 wrap64_l5
def garnerlaw09_awake.f (k : Nat)  : Option (Bool) := (tally_Of.f k (([(⟨3, 0, 5, 0⟩ : S43), (⟨3, 9, 7, 0⟩ : S43)] : List (S43)))).bind fun bt156 => (if bt156.2 = 0 then ((tally_Get.f k bt156.1 3).bind fun t160 => (if t160 = 12 then (some ((bt156.1.length : Int) == 1)) else (some false))) else (some false))
theorem garnerlaw09_awake.mono : ∀ k, LeO (garnerlaw09_awake.f k ) (garnerlaw09_awake.f (k + 1) ) := by
 intro  k
 unfold garnerlaw09_awake.f
 repeat' first
   | (with_reducible exact tally_Get.mono _ _ _)
   | (with_reducible exact tally_Of.mono _ _)
   | (with_reducible exact LeO.refl _)
   | (with_reducible exact LeO.none _)
   | (with_reducible refine LeO.ite ?_ ?_)
   | (with_reducible refine LeO.bind ?_ (fun _ => ?_))
   | exact tally_Get.mono _ _ _
   | exact tally_Of.mono _ _
   | exact LeO.none _
   | refine LeO.ite ?_ ?_
   | refine LeO.bind ?_ (fun _ => ?_)
set_option maxHeartbeats 8000000 in
set_option maxRecDepth 100000 in
theorem garnerlaw09_awake.calls (k : Nat)  (r : Bool) (w : World) (h : garnerlaw09_awake.f k  = some r) :
  Calls Try.prog 8 #[] w fun e w' => e = .returned (.bool r) ∧ Below w.heap.size w w' := by
 have hu43 := Try.underlying43
 have HB := Am (Below.refl w.heap.size w)
 have H : ((tally_Of.f k (([(⟨3, 0, 5, 0⟩ : S43), (⟨3, 9, 7, 0⟩ : S43)] : List (S43)))).bind fun bt156 => (if bt156.2 = 0 then ((tally_Get.f k bt156.1 3).bind fun t160 => (if t160 = 12 then (some ((bt156.1.length : Int) == 1)) else (some false))) else (some false))) = some r := h
 clear h
 obtain ⟨y153, hy153⟩ : ∃ y_ : List (S43), y_ = (([(⟨3, 0, 5, 0⟩ : S43), (⟨3, 9, 7, 0⟩ : S43)] : List (S43))) := ⟨_, rfl⟩
 replace H : ((tally_Of.f k y153).bind fun bt156 => (if bt156.2 = 0 then ((tally_Get.f k bt156.1 3).bind fun t160 => (if t160 = 12 then (some ((bt156.1.length : Int) == 1)) else (some false))) else (some false))) = some r := by first | (rw [hy153]; with_reducible exact H) | (have H2_ := (Option.bind_some _ _).symm.trans H; rw [hy153]; with_reducible exact H2_) | (have H2_ := (Option.bind_some _ _).symm.trans H; with_reducible exact H2_) | with_reducible exact H | (rw [hy153]; exact H) | exact H
 have Ny153 := Am hy153
 clear hy153
 replace H := Option.bind_eq_some_iff.mp H
 obtain ⟨⟨t156, t157⟩, A10, H⟩ := H
 replace H : (if t157 = 0 then ((tally_Get.f k t156 3).bind fun t160 => (if t160 = 12 then (some ((t156.length : Int) == 1)) else (some false))) else (some false)) = some r := H
 have A1 := Am A10
 clear A10
 by_cases c2 : t157 = 0
 rotate_left
 ·rw [if_neg c2] at H
  have c2b0 : (t157 == 0) = false := beq_eq_false_iff_ne.mpr c2
  have c2b1 : (t157 != 0) = true := bne_iff_ne.mpr c2
  obtain rfl := Option.some.inj H
  go_enter Try.func8, Try.ntmps8
  go_wp2_with (first | ((with_reducible refine gate_dst (N := 6) rfl ?_); (try (refine gate_guard (by rfl) ?_; dsimp only)); refine Kd.R_lit k43 _ 43 ?hg (N := 6) ?hd (xs := ([(⟨3, 0, 5, 0⟩ : S43), (⟨3, 9, 7, 0⟩ : S43)] : List (S43))) (inner := [.int .i64 3, .int .i64 0, .int .i64 5, .int .u32 0, .int .i64 3, .int .i64 9, .int .i64 7, .int .u32 0]) (ok := fun _ => True) (okp := fun _ => True) ?hr ?hp (fun _ hk => hk) trivial (Below.refl _ _) (Nat.le_refl _) (by simp) ?_; (case hd => rfl); (case hg => rfl); (case hr => first | (go_simp; done) | (go_simp; rfl)); (case hp => exact (Reps.c4 (show Kd.M k43 _ _ _ (⟨3, 0, 5, 0⟩ : S43) [.int .i64 3, .int .i64 0, .int .i64 5, .int .u32 0] from (k43_mkM _ _ _ (⟨3, 0, 5, 0⟩ : S43) )) (Reps.c4 (show Kd.M k43 _ _ _ (⟨3, 9, 7, 0⟩ : S43) [.int .i64 3, .int .i64 9, .int .i64 7, .int .u32 0] from (k43_mkM _ _ _ (⟨3, 9, 7, 0⟩ : S43) )) (Reps.none _ _)))); intro v154 w17 ho18 hb hg_ hnew_; clear hg_ hnew_; (first | rw [← Ny153.out] at ho18 | (simp only [Int.reduceToNat] at ho18; rw [← Ny153.out] at ho18)); have Aa := Am (Kd.R_lower ho18 (below_size (pB HB.out))); replace HB := Am (below_step (pB HB.out) hb); clear hb ho18; obtain ⟨Ai, Aj, Ak⟩ := Kd.R_slice Aa.out; subst Ak) | ((with_reducible refine gate_callee (f := 15) rfl ?_); refine goesL_ (some 7) rfl rfl Try.func15 (by kernel_rfl) rfl #[.slice Ai y153.length Aj] rfl pL ?_; (with_reducible refine (tally_Of.calls k _ _ y153 t156 t157 _ ?Ac ?Ad A1.out).mono ?_); (case Ac => exact pC (Kd.R_reads' Aa.out).2.2); (case Ad => exact (Kd.R_reads' Aa.out).2.1); rintro e w20 ⟨v158, rfl, ho0, hb⟩; refine ⟨_, rfl, ?_⟩; replace Aa := bRa Aa hb; have Ab := Am (Kd.R_lower ho0 (below_size (pB HB.out))); replace HB := Am (below_step (pB HB.out) hb); (try clear hb); (try clear hb2); (try clear hk); (try clear hi); (try clear ho0)))
  go_ret
  exact ⟨pX, pB HB.out⟩
 rw [if_pos c2] at H
 have c2b0 : (t157 == 0) = true := beq_iff_eq.mpr c2
 have c2b1 : (t157 != 0) = false := bne_eq_false_iff_eq.mpr c2
 clear c2
 replace H := Option.bind_eq_some_iff.mp H
 obtain ⟨t160, A30, H⟩ := H
 replace H : (if t160 = 12 then (some ((t156.length : Int) == 1)) else (some false)) = some r := H
 have A3 := Am A30
 clear A30
 by_cases c4 : t160 = 12
 rotate_left
 ·rw [if_neg c4] at H
  have c4b0 : (t160 == 12) = false := beq_eq_false_iff_ne.mpr c4
  have c4b1 : (t160 != 12) = true := bne_iff_ne.mpr c4
  obtain rfl := Option.some.inj H
  go_enter Try.func8, Try.ntmps8
  go_wp2_with (first | ((with_reducible refine gate_dst (N := 6) rfl ?_); (try (refine gate_guard (by rfl) ?_; dsimp only)); refine Kd.R_lit k43 _ 43 ?hg (N := 6) ?hd (xs := ([(⟨3, 0, 5, 0⟩ : S43), (⟨3, 9, 7, 0⟩ : S43)] : List (S43))) (inner := [.int .i64 3, .int .i64 0, .int .i64 5, .int .u32 0, .int .i64 3, .int .i64 9, .int .i64 7, .int .u32 0]) (ok := fun _ => True) (okp := fun _ => True) ?hr ?hp (fun _ hk => hk) trivial (Below.refl _ _) (Nat.le_refl _) (by simp) ?_; (case hd => rfl); (case hg => rfl); (case hr => first | (go_simp; done) | (go_simp; rfl)); (case hp => exact (Reps.c4 (show Kd.M k43 _ _ _ (⟨3, 0, 5, 0⟩ : S43) [.int .i64 3, .int .i64 0, .int .i64 5, .int .u32 0] from (k43_mkM _ _ _ (⟨3, 0, 5, 0⟩ : S43) )) (Reps.c4 (show Kd.M k43 _ _ _ (⟨3, 9, 7, 0⟩ : S43) [.int .i64 3, .int .i64 9, .int .i64 7, .int .u32 0] from (k43_mkM _ _ _ (⟨3, 9, 7, 0⟩ : S43) )) (Reps.none _ _)))); intro v154 w11 ho12 hb hg_ hnew_; clear hg_ hnew_; (first | rw [← Ny153.out] at ho12 | (simp only [Int.reduceToNat] at ho12; rw [← Ny153.out] at ho12)); have Aa := Am (Kd.R_lower ho12 (below_size (pB HB.out))); replace HB := Am (below_step (pB HB.out) hb); clear hb ho12; obtain ⟨Ae, Af, Ag⟩ := Kd.R_slice Aa.out; subst Ag) | ((with_reducible refine gate_callee (f := 15) rfl ?_); refine goesL_ (some 7) rfl rfl Try.func15 (by kernel_rfl) rfl #[.slice Ae y153.length Af] rfl pL ?_; (with_reducible refine (tally_Of.calls k _ _ y153 t156 t157 _ ?Ac ?Ad A1.out).mono ?_); (case Ac => exact pC (Kd.R_reads' Aa.out).2.2); (case Ad => exact (Kd.R_reads' Aa.out).2.1); rintro e w14 ⟨v158, rfl, ho0, hb⟩; refine ⟨_, rfl, ?_⟩; replace Aa := bRa Aa hb; have Ab := Am (Kd.R_lower ho0 (below_size (pB HB.out))); replace HB := Am (below_step (pB HB.out) hb); (try clear hb); (try clear hb2); (try clear hk); (try clear hi); (try clear ho0); obtain ⟨Ao15, co15, Ah⟩ := Kd.R_slice Ab.out; subst Ah) | (go_at_call 13; (with_reducible refine (tally_Get.calls k _ _ t156 3 t160 _ ?Ac ?Ad A3.out).mono ?_); (case Ac => exact pC (Kd.R_reads' Ab.out).2.2); (case Ad => exact (Kd.R_reads' Ab.out).2.1); rintro e w16 ⟨rfl, hb⟩; replace Aa := bRa Aa hb; replace Ab := bRa Ab hb; replace HB := Am (below_step (pB HB.out) hb); (try clear hb); (try clear hb2); (try clear hk); (try clear hi)))
  go_ret
  exact ⟨pX, pB HB.out⟩
 rw [if_pos c4] at H
 have c4b0 : (t160 == 12) = true := beq_iff_eq.mpr c4
 have c4b1 : (t160 != 12) = false := bne_eq_false_iff_eq.mpr c4
 clear c4
 obtain rfl := Option.some.inj H
 go_enter Try.func8, Try.ntmps8
 go_wp2_with (first | ((with_reducible refine gate_dst (N := 6) rfl ?_); (try (refine gate_guard (by rfl) ?_; dsimp only)); refine Kd.R_lit k43 _ 43 ?hg (N := 6) ?hd (xs := ([(⟨3, 0, 5, 0⟩ : S43), (⟨3, 9, 7, 0⟩ : S43)] : List (S43))) (inner := [.int .i64 3, .int .i64 0, .int .i64 5, .int .u32 0, .int .i64 3, .int .i64 9, .int .i64 7, .int .u32 0]) (ok := fun _ => True) (okp := fun _ => True) ?hr ?hp (fun _ hk => hk) trivial (Below.refl _ _) (Nat.le_refl _) (by simp) ?_; (case hd => rfl); (case hg => rfl); (case hr => first | (go_simp; done) | (go_simp; rfl)); (case hp => exact (Reps.c4 (show Kd.M k43 _ _ _ (⟨3, 0, 5, 0⟩ : S43) [.int .i64 3, .int .i64 0, .int .i64 5, .int .u32 0] from (k43_mkM _ _ _ (⟨3, 0, 5, 0⟩ : S43) )) (Reps.c4 (show Kd.M k43 _ _ _ (⟨3, 9, 7, 0⟩ : S43) [.int .i64 3, .int .i64 9, .int .i64 7, .int .u32 0] from (k43_mkM _ _ _ (⟨3, 9, 7, 0⟩ : S43) )) (Reps.none _ _)))); intro v154 w5 ho6 hb hg_ hnew_; clear hg_ hnew_; (first | rw [← Ny153.out] at ho6 | (simp only [Int.reduceToNat] at ho6; rw [← Ny153.out] at ho6)); have Aa := Am (Kd.R_lower ho6 (below_size (pB HB.out))); replace HB := Am (below_step (pB HB.out) hb); clear hb ho6; obtain ⟨Al, An, Ao⟩ := Kd.R_slice Aa.out; subst Ao) | ((with_reducible refine gate_callee (f := 15) rfl ?_); refine goesL_ (some 7) rfl rfl Try.func15 (by kernel_rfl) rfl #[.slice Al y153.length An] rfl pL ?_; (with_reducible refine (tally_Of.calls k _ _ y153 t156 t157 _ ?Ac ?Ad A1.out).mono ?_); (case Ac => exact pC (Kd.R_reads' Aa.out).2.2); (case Ad => exact (Kd.R_reads' Aa.out).2.1); rintro e w8 ⟨v158, rfl, ho0, hb⟩; refine ⟨_, rfl, ?_⟩; replace Aa := bRa Aa hb; have Ab := Am (Kd.R_lower ho0 (below_size (pB HB.out))); replace HB := Am (below_step (pB HB.out) hb); (try clear hb); (try clear hb2); (try clear hk); (try clear hi); (try clear ho0); obtain ⟨Ao9, co9, Ap⟩ := Kd.R_slice Ab.out; subst Ap) | (go_at_call 13; (with_reducible refine (tally_Get.calls k _ _ t156 3 t160 _ ?Ac ?Ad A3.out).mono ?_); (case Ac => exact pC (Kd.R_reads' Ab.out).2.2); (case Ad => exact (Kd.R_reads' Ab.out).2.1); rintro e w10 ⟨rfl, hb⟩; replace Aa := bRa Aa hb; replace Ab := bRa Ab hb; replace HB := Am (below_step (pB HB.out) hb); (try clear hb); (try clear hb2); (try clear hk); (try clear hi)))
 go_ret
 exact ⟨pX, pB HB.out⟩
def garnerref09_May.l0 : Nat → List (S46) → Int → Option (Bool)
 | 0, _, _ => none
 | k + 1, x0, x3 => if x3 < (x0.length : Int) then (if 0 ≤ x3 then (if ((rd_T46 x0 x3).f0) < 1 then (some false) else (if ((rd_T46 x0 x3).f0) > 2147483647 then (some false) else (if ((rd_T46 x0 x3).f1) < 1 then (some false) else (if ((rd_T46 x0 x3).f1) > 1099511627776 then (some false) else (if x3 > 0 then (if 0 ≤ (wrap64 (x3 - 1)) then (if (wrap64 (x3 - 1)) < (x0.length : Int) then (if ((rd_T46 x0 x3).f0) ≤ ((rd_T46 x0 (wrap64 (x3 - 1))).f0) then (some false) else (garnerref09_May.l0 k x0 (wrap64 (x3 + 1)))) else (none)) else (none)) else (garnerref09_May.l0 k x0 (wrap64 (x3 + 1)))))))) else (none)) else (some (decide ((x0.length : Int) ≤ 4096)))
def garnerref09_May.f (k : Nat) (l0 : List (S46)) : Option (Bool) := garnerref09_May.l0 k l0 0
theorem garnerref09_May.mono_l : ∀ k, (∀ y0 y1, LeO (garnerref09_May.l0 k y0 y1) (garnerref09_May.l0 (k + 1) y0 y1))
 | 0 => fun _ _ r h => by simp [garnerref09_May.l0] at h
 | k + 1 => by
  have ih0 := garnerref09_May.mono_l k
  ·intro y0 y1
   unfold garnerref09_May.l0
   repeat' first
   | (with_reducible exact ih0 _ _)
   | (with_reducible exact LeO.refl _)
   | (with_reducible exact LeO.none _)
   | (with_reducible refine LeO.ite ?_ ?_)
   | (with_reducible refine LeO.bind ?_ (fun _ => ?_))
   | exact ih0 _ _
   | exact LeO.none _
   | refine LeO.ite ?_ ?_
   | refine LeO.bind ?_ (fun _ => ?_)
theorem garnerref09_May.mono : ∀ a0 k, LeO (garnerref09_May.f k a0) (garnerref09_May.f (k + 1) a0) := by
 intro a0 k
 have ih0 := garnerref09_May.mono_l k
 unfold garnerref09_May.f
 repeat' first
   | (with_reducible exact ih0 _ _)
   | (with_reducible exact LeO.refl _)
   | (with_reducible exact LeO.none _)
   | (with_reducible refine LeO.ite ?_ ?_)
   | (with_reducible refine LeO.bind ?_ (fun _ => ?_))
   | exact ih0 _ _
   | exact LeO.none _
   | refine LeO.ite ?_ ?_
   | refine LeO.bind ?_ (fun _ => ?_)
set_option maxHeartbeats 8000000 in
set_option maxRecDepth 100000 in
theorem garnerref09_May.calls (k : Nat) (A0 : Option Addr) (c0 : Nat) (l0 : List (S46)) (r : Bool) (w : World) (hr0 : Kd.C k46 w A0 l0.length l0) (hc0 : l0.length ≤ c0) (h : garnerref09_May.f k l0 = some r) :
  Calls Try.prog 10 #[.slice A0 l0.length c0] w fun e w' => e = .returned (.bool r) ∧ Drawn0 w w' := by
 have HR0 := Am hr0
 have HC0 := Am hc0
 clear hr0 hc0
 have H : (garnerref09_May.l0 k l0 0) = some r := h
 clear h
 have H' := Am H
 clear H
 go_enter Try.func10, Try.ntmps10
 go_wp2
 repeat (go_quiet (fail); try go_wp2)
 go_loopg [3] k (fun kq v3 w' => ∃ (Aa : Int), v3 = .int .i64 Aa ∧ Aside0 (garnerref09_May.l0 kq l0 Aa = some r) ∧ Aside0 (kq ≤ k) ∧ Drawn0 w w')
 case atStart => exact ⟨(0), (by first | rfl | (simp; done) | (simp [*]; done)), H', ⟨Nat.le_refl _⟩, by repeat (first | exact Drawn0.refl _ | apply Drawn0.step)⟩
 case round =>
  clear H'
  try clear c1
  obtain ⟨Aa, rfl, HA, HK1, ⟨m1, rfl⟩⟩ := hrel
  cases gk with
  | zero => exact absurd HA.out (by simp [garnerref09_May.l0])
  | succ k1 =>
   have H := HA.out
   clear HA
   simp only [garnerref09_May.l0] at H
   by_cases c2 : Aa < (l0.length : Int)
   rotate_left
   ·rw [if_neg c2] at H
    have c2b0 : decide (Aa < (l0.length : Int)) = false := decide_eq_false c2
    clear c2
    obtain rfl := Option.some.inj H
    go_wp2
    repeat (go_quiet (fail); try go_wp2)
    go_ret
    exact ⟨by first | rfl | (simp; done) | (simp [*]; done), by repeat (first | exact Drawn0.refl _ | apply Drawn0.step)⟩
   rw [if_pos c2] at H
   have c2b0 : decide (Aa < (l0.length : Int)) = true := decide_eq_true c2
   clear c2
   by_cases c3 : 0 ≤ Aa
   rotate_left
   ·rw [if_neg c3] at H
    exact absurd H (by simp)
   rw [if_pos c3] at H
   have c3b0 : decide (0 ≤ Aa) = true := decide_eq_true c3
   clear c3
   by_cases c4 : ((rd_T46 l0 Aa).f0) < 1
   ·rw [if_pos c4] at H
    have c4b0 : decide (((rd_T46 l0 Aa).f0) < 1) = true := decide_eq_true c4
    clear c4
    obtain rfl := Option.some.inj H
    have p161 : 0 ≤ (Aa : Int) := of_decide_eq_true pS
    have q161 : Aa < (l0.length : Int) := of_decide_eq_true pS
    obtain ⟨Ad, e161, Ab, Ac⟩ := at_T46 HR0.out Aa p161 q161
    cases e161
    replace p161 := eq_true p161
    replace q161 := eq_true q161
    go_wp2
    repeat (go_quiet (fail); try go_wp2)
    go_ret
    exact ⟨by first | rfl | (simp; done) | (simp [*]; done), by repeat (first | exact Drawn0.refl _ | apply Drawn0.step)⟩
   rw [if_neg c4] at H
   have c4b0 : decide (((rd_T46 l0 Aa).f0) < 1) = false := decide_eq_false c4
   clear c4
   by_cases c5 : ((rd_T46 l0 Aa).f0) > 2147483647
   ·rw [if_pos c5] at H
    have c5b0 : decide (2147483647 < ((rd_T46 l0 Aa).f0)) = true := decide_eq_true c5
    clear c5
    obtain rfl := Option.some.inj H
    have p161 : 0 ≤ (Aa : Int) := of_decide_eq_true pS
    have q161 : Aa < (l0.length : Int) := of_decide_eq_true pS
    obtain ⟨Ad, e161, Ab, Ac⟩ := at_T46 HR0.out Aa p161 q161
    cases e161
    replace p161 := eq_true p161
    replace q161 := eq_true q161
    go_wp2
    repeat (go_quiet (fail); try go_wp2)
    go_ret
    exact ⟨by first | rfl | (simp; done) | (simp [*]; done), by repeat (first | exact Drawn0.refl _ | apply Drawn0.step)⟩
   rw [if_neg c5] at H
   have c5b0 : decide (2147483647 < ((rd_T46 l0 Aa).f0)) = false := decide_eq_false c5
   clear c5
   by_cases c6 : ((rd_T46 l0 Aa).f1) < 1
   ·rw [if_pos c6] at H
    have c6b0 : decide (((rd_T46 l0 Aa).f1) < 1) = true := decide_eq_true c6
    clear c6
    obtain rfl := Option.some.inj H
    have p161 : 0 ≤ (Aa : Int) := of_decide_eq_true pS
    have q161 : Aa < (l0.length : Int) := of_decide_eq_true pS
    obtain ⟨Ad, e161, Ab, Ac⟩ := at_T46 HR0.out Aa p161 q161
    cases e161
    replace p161 := eq_true p161
    replace q161 := eq_true q161
    go_wp2
    repeat (go_quiet (fail); try go_wp2)
    go_ret
    exact ⟨by first | rfl | (simp; done) | (simp [*]; done), by repeat (first | exact Drawn0.refl _ | apply Drawn0.step)⟩
   rw [if_neg c6] at H
   have c6b0 : decide (((rd_T46 l0 Aa).f1) < 1) = false := decide_eq_false c6
   clear c6
   by_cases c7 : ((rd_T46 l0 Aa).f1) > 1099511627776
   ·rw [if_pos c7] at H
    have c7b0 : decide (1099511627776 < ((rd_T46 l0 Aa).f1)) = true := decide_eq_true c7
    clear c7
    obtain rfl := Option.some.inj H
    have p161 : 0 ≤ (Aa : Int) := of_decide_eq_true pS
    have q161 : Aa < (l0.length : Int) := of_decide_eq_true pS
    obtain ⟨Ad, e161, Ab, Ac⟩ := at_T46 HR0.out Aa p161 q161
    cases e161
    replace p161 := eq_true p161
    replace q161 := eq_true q161
    go_wp2
    repeat (go_quiet (fail); try go_wp2)
    go_ret
    exact ⟨by first | rfl | (simp; done) | (simp [*]; done), by repeat (first | exact Drawn0.refl _ | apply Drawn0.step)⟩
   rw [if_neg c7] at H
   have c7b0 : decide (1099511627776 < ((rd_T46 l0 Aa).f1)) = false := decide_eq_false c7
   clear c7
   by_cases c8 : Aa > 0
   rotate_left
   ·rw [if_neg c8] at H
    have c8b0 : decide (0 < Aa) = false := decide_eq_false c8
    clear c8
    have H' := Am H
    clear H
    have p161 : 0 ≤ (Aa : Int) := of_decide_eq_true pS
    have q161 : Aa < (l0.length : Int) := of_decide_eq_true pS
    obtain ⟨Ad, e161, Ab, Ac⟩ := at_T46 HR0.out Aa p161 q161
    cases e161
    replace p161 := eq_true p161
    replace q161 := eq_true q161
    go_wp2
    repeat (go_quiet (fail); try go_wp2)
    go_roundg k1
    case measure => have := HK1.out; omega
    case rel => exact ⟨(wrap64 (Aa + 1)), (by first | rfl | (simp; done) | (simp [*]; done)), H', ⟨by have := HK1.out; omega⟩, by repeat (first | exact Drawn0.refl _ | apply Drawn0.step)⟩
   rw [if_pos c8] at H
   have c8b0 : decide (0 < Aa) = true := decide_eq_true c8
   clear c8
   obtain ⟨ji9, hji9⟩ : ∃ j_ : Int, (wrap64 (Aa - 1)) = j_ := ⟨_, rfl⟩
   replace H : (if 0 ≤ (ji9) then (if (ji9) < (l0.length : Int) then (if ((rd_T46 l0 Aa).f0) ≤ ((rd_T46 l0 (ji9)).f0) then (some false) else (garnerref09_May.l0 k1 l0 (wrap64 (Aa + 1)))) else (none)) else (none)) = some r := by first | (rw [hji9] at H; exact H) | (simp only [hji9] at H ⊢; exact H)
   have hji9w : (IntKind.i64.wrap (Aa - 1)) = ji9 := (i64_w _).trans hji9
   by_cases c10 : 0 ≤ (ji9)
   rotate_left
   ·rw [if_neg c10] at H
    exact absurd H (by simp)
   rw [if_pos c10] at H
   have c10b0 : decide (0 ≤ (ji9)) = true := decide_eq_true c10
   clear c10
   by_cases c11 : (ji9) < (l0.length : Int)
   rotate_left
   ·rw [if_neg c11] at H
    exact absurd H (by simp)
   rw [if_pos c11] at H
   have c11b0 : decide ((ji9) < (l0.length : Int)) = true := decide_eq_true c11
   clear c11
   by_cases c12 : ((rd_T46 l0 Aa).f0) ≤ ((rd_T46 l0 (ji9)).f0)
   ·rw [if_pos c12] at H
    have c12b0 : decide (((rd_T46 l0 Aa).f0) ≤ ((rd_T46 l0 (ji9)).f0)) = true := decide_eq_true c12
    clear c12
    obtain rfl := Option.some.inj H
    have p161 : 0 ≤ (Aa : Int) := of_decide_eq_true pS
    have q161 : Aa < (l0.length : Int) := of_decide_eq_true pS
    obtain ⟨Ad, e161, Ab, Ac⟩ := at_T46 HR0.out Aa p161 q161
    cases e161
    replace p161 := eq_true p161
    replace q161 := eq_true q161
    have p166 : 0 ≤ ((ji9) : Int) := of_decide_eq_true pS
    have q166 : (ji9) < (l0.length : Int) := of_decide_eq_true pS
    obtain ⟨Ae, e166, Af, Ag⟩ := at_T46 HR0.out (ji9) p166 q166
    obtain rfl : Ad = Ae := (by injection e166)
    replace p166 := eq_true p166
    replace q166 := eq_true q166
    go_wp2
    repeat (go_quiet (fail); try go_wp2)
    go_ret
    exact ⟨by first | rfl | (simp; done) | (simp only [← hji9] <;> (first | rfl | simp)) | (simp [*]; done), by repeat (first | exact Drawn0.refl _ | apply Drawn0.step)⟩
   rw [if_neg c12] at H
   have c12b0 : decide (((rd_T46 l0 Aa).f0) ≤ ((rd_T46 l0 (ji9)).f0)) = false := decide_eq_false c12
   clear c12
   have H' := Am H
   clear H
   have p161 : 0 ≤ (Aa : Int) := of_decide_eq_true pS
   have q161 : Aa < (l0.length : Int) := of_decide_eq_true pS
   obtain ⟨Ad, e161, Ab, Ac⟩ := at_T46 HR0.out Aa p161 q161
   cases e161
   replace p161 := eq_true p161
   replace q161 := eq_true q161
   have p166 : 0 ≤ ((ji9) : Int) := of_decide_eq_true pS
   have q166 : (ji9) < (l0.length : Int) := of_decide_eq_true pS
   obtain ⟨Ae, e166, Af, Ag⟩ := at_T46 HR0.out (ji9) p166 q166
   obtain rfl : Ad = Ae := (by injection e166)
   replace p166 := eq_true p166
   replace q166 := eq_true q166
   go_wp2
   repeat (go_quiet (fail); try go_wp2)
   go_roundg k1
   case measure => have := HK1.out; omega
   case rel => exact ⟨(wrap64 (Aa + 1)), (by first | rfl | (simp; done) | (simp [*]; done)), H', ⟨by have := HK1.out; omega⟩, by repeat (first | exact Drawn0.refl _ | apply Drawn0.step)⟩
def garnerref04_May.f (a0_0 : Int) (a0_1 : Int) (a0_2 : Int) (a0_3 : Int) : Option (Bool) := if a0_0 ≥ 1 then (if a0_0 ≤ 2147483647 then (if a0_1 ≥ 0 then (if a0_1 ≤ 2147483647 then (if a0_2 ≥ 0 then (some (decide (a0_2 ≤ 4096))) else (some false)) else (some false)) else (some false)) else (some false)) else (some false)
set_option maxHeartbeats 8000000 in
set_option maxRecDepth 100000 in
theorem garnerref04_May.calls (a0_0 : Int) (a0_1 : Int) (a0_2 : Int) (a0_3 : Int) (r : Bool) (w : World) (h : garnerref04_May.f a0_0 a0_1 a0_2 a0_3 = some r) :
  Calls Try.prog 25 #[.agg #[.int .i64 a0_0, .int .i64 a0_1, .int .i64 a0_2, .int .u32 a0_3]] w fun e w' => e = .returned (.bool r) ∧ Below w.heap.size w w' := by
 have hu43 := Try.underlying43
 have HB := Am (Below.refl w.heap.size w)
 have H : (if a0_0 ≥ 1 then (if a0_0 ≤ 2147483647 then (if a0_1 ≥ 0 then (if a0_1 ≤ 2147483647 then (if a0_2 ≥ 0 then (some (decide (a0_2 ≤ 4096))) else (some false)) else (some false)) else (some false)) else (some false)) else (some false)) = some r := h
 clear h
 by_cases c2 : a0_0 ≥ 1
 rotate_left
 ·rw [if_neg c2] at H
  have c2b0 : decide (1 ≤ a0_0) = false := decide_eq_false c2
  clear c2
  obtain rfl := Option.some.inj H
  go_enter Try.func25, Try.ntmps25
  go_wp2_with (first | ((with_reducible refine gate_dst (N := 1) rfl ?_); refine box_event ?hg (N := 1) ?hd (cs := #[.int .i64 a0_0, .int .i64 a0_1, .int .i64 a0_2, .int .u32 a0_3]) (t := 43) ?hr ?_; (case hd => rfl); (case hg => rfl); (case hr => first | (go_simp; done) | (go_simp; rfl)); intro Ab hg w17 hbox hb; have Aa := Am (hbox); have Ac := Am ((by rw [hg]; exact (below_size (pB HB.out)) : w.heap.size ≤ Ab)); replace HB := Am (below_step (pB HB.out) hb); have Ad := Ac; clear hb hbox hg; obtain ⟨_, _, _, _⟩ := bc4 Aa.out; obtain ⟨_, _, _, _⟩ := bf4 Aa.out))
  go_ret
  exact ⟨pX, pE HB.out Ad.out⟩
 rw [if_pos c2] at H
 have c2b0 : decide (1 ≤ a0_0) = true := decide_eq_true c2
 clear c2
 by_cases c3 : a0_0 ≤ 2147483647
 rotate_left
 ·rw [if_neg c3] at H
  have c3b0 : decide (a0_0 ≤ 2147483647) = false := decide_eq_false c3
  clear c3
  obtain rfl := Option.some.inj H
  go_enter Try.func25, Try.ntmps25
  go_wp2_with (first | ((with_reducible refine gate_dst (N := 1) rfl ?_); refine box_event ?hg (N := 1) ?hd (cs := #[.int .i64 a0_0, .int .i64 a0_1, .int .i64 a0_2, .int .u32 a0_3]) (t := 43) ?hr ?_; (case hd => rfl); (case hg => rfl); (case hr => first | (go_simp; done) | (go_simp; rfl)); intro Ab hg w15 hbox hb; have Aa := Am (hbox); have Ac := Am ((by rw [hg]; exact (below_size (pB HB.out)) : w.heap.size ≤ Ab)); replace HB := Am (below_step (pB HB.out) hb); have Ad := Ac; clear hb hbox hg; obtain ⟨_, _, _, _⟩ := bc4 Aa.out; obtain ⟨_, _, _, _⟩ := bf4 Aa.out))
  go_ret
  exact ⟨pX, pE HB.out Ad.out⟩
 rw [if_pos c3] at H
 have c3b0 : decide (a0_0 ≤ 2147483647) = true := decide_eq_true c3
 clear c3
 by_cases c4 : a0_1 ≥ 0
 rotate_left
 ·rw [if_neg c4] at H
  have c4b0 : decide (0 ≤ a0_1) = false := decide_eq_false c4
  clear c4
  obtain rfl := Option.some.inj H
  go_enter Try.func25, Try.ntmps25
  go_wp2_with (first | ((with_reducible refine gate_dst (N := 1) rfl ?_); refine box_event ?hg (N := 1) ?hd (cs := #[.int .i64 a0_0, .int .i64 a0_1, .int .i64 a0_2, .int .u32 a0_3]) (t := 43) ?hr ?_; (case hd => rfl); (case hg => rfl); (case hr => first | (go_simp; done) | (go_simp; rfl)); intro Ab hg w13 hbox hb; have Aa := Am (hbox); have Ac := Am ((by rw [hg]; exact (below_size (pB HB.out)) : w.heap.size ≤ Ab)); replace HB := Am (below_step (pB HB.out) hb); have Ad := Ac; clear hb hbox hg; obtain ⟨_, _, _, _⟩ := bc4 Aa.out; obtain ⟨_, _, _, _⟩ := bf4 Aa.out))
  go_ret
  exact ⟨pX, pE HB.out Ad.out⟩
 rw [if_pos c4] at H
 have c4b0 : decide (0 ≤ a0_1) = true := decide_eq_true c4
 clear c4
 by_cases c5 : a0_1 ≤ 2147483647
 rotate_left
 ·rw [if_neg c5] at H
  have c5b0 : decide (a0_1 ≤ 2147483647) = false := decide_eq_false c5
  clear c5
  obtain rfl := Option.some.inj H
  go_enter Try.func25, Try.ntmps25
  go_wp2_with (first | ((with_reducible refine gate_dst (N := 1) rfl ?_); refine box_event ?hg (N := 1) ?hd (cs := #[.int .i64 a0_0, .int .i64 a0_1, .int .i64 a0_2, .int .u32 a0_3]) (t := 43) ?hr ?_; (case hd => rfl); (case hg => rfl); (case hr => first | (go_simp; done) | (go_simp; rfl)); intro Ab hg w11 hbox hb; have Aa := Am (hbox); have Ac := Am ((by rw [hg]; exact (below_size (pB HB.out)) : w.heap.size ≤ Ab)); replace HB := Am (below_step (pB HB.out) hb); have Ad := Ac; clear hb hbox hg; obtain ⟨_, _, _, _⟩ := bc4 Aa.out; obtain ⟨_, _, _, _⟩ := bf4 Aa.out))
  go_ret
  exact ⟨pX, pE HB.out Ad.out⟩
 rw [if_pos c5] at H
 have c5b0 : decide (a0_1 ≤ 2147483647) = true := decide_eq_true c5
 clear c5
 by_cases c6 : a0_2 ≥ 0
 ·rw [if_pos c6] at H
  have c6b0 : decide (0 ≤ a0_2) = true := decide_eq_true c6
  clear c6
  obtain rfl := Option.some.inj H
  go_enter Try.func25, Try.ntmps25
  go_wp2_with (first | ((with_reducible refine gate_dst (N := 1) rfl ?_); refine box_event ?hg (N := 1) ?hd (cs := #[.int .i64 a0_0, .int .i64 a0_1, .int .i64 a0_2, .int .u32 a0_3]) (t := 43) ?hr ?_; (case hd => rfl); (case hg => rfl); (case hr => first | (go_simp; done) | (go_simp; rfl)); intro Ab hg w7 hbox hb; have Aa := Am (hbox); have Ac := Am ((by rw [hg]; exact (below_size (pB HB.out)) : w.heap.size ≤ Ab)); replace HB := Am (below_step (pB HB.out) hb); have Ad := Ac; clear hb hbox hg; obtain ⟨_, _, _, _⟩ := bc4 Aa.out; obtain ⟨_, _, _, _⟩ := bf4 Aa.out))
  go_ret
  exact ⟨pX, pE HB.out Ad.out⟩
 rw [if_neg c6] at H
 have c6b0 : decide (0 ≤ a0_2) = false := decide_eq_false c6
 clear c6
 obtain rfl := Option.some.inj H
 go_enter Try.func25, Try.ntmps25
 go_wp2_with (first | ((with_reducible refine gate_dst (N := 1) rfl ?_); refine box_event ?hg (N := 1) ?hd (cs := #[.int .i64 a0_0, .int .i64 a0_1, .int .i64 a0_2, .int .u32 a0_3]) (t := 43) ?hr ?_; (case hd => rfl); (case hg => rfl); (case hr => first | (go_simp; done) | (go_simp; rfl)); intro Ab hg w9 hbox hb; have Aa := Am (hbox); have Ac := Am ((by rw [hg]; exact (below_size (pB HB.out)) : w.heap.size ≤ Ab)); replace HB := Am (below_step (pB HB.out) hb); have Ad := Ac; clear hb hbox hg; obtain ⟨_, _, _, _⟩ := bc4 Aa.out; obtain ⟨_, _, _, _⟩ := bf4 Aa.out))
 go_ret
 exact ⟨pX, pE HB.out Ad.out⟩
def garnerref09_Points.l0 : Nat → List (S43) → Int → Option (Bool)
 | 0, _, _ => none
 | k + 1, x0, x3 => if x3 < (x0.length : Int) then (if 0 ≤ x3 then ((garnerref04_May.f ((rd_T43 x0 x3).f0) ((rd_T43 x0 x3).f1) ((rd_T43 x0 x3).f2) ((rd_T43 x0 x3).f3)).bind fun t169 => (if t169 = true then (garnerref09_Points.l0 k x0 (wrap64 (x3 + 1))) else (some false))) else (none)) else (some true)
def garnerref09_Points.f (k : Nat) (l0 : List (S43)) : Option (Bool) := garnerref09_Points.l0 k l0 0
theorem garnerref09_Points.mono_l : ∀ k, (∀ y0 y1, LeO (garnerref09_Points.l0 k y0 y1) (garnerref09_Points.l0 (k + 1) y0 y1))
 | 0 => fun _ _ r h => by simp [garnerref09_Points.l0] at h
 | k + 1 => by
  have ih0 := garnerref09_Points.mono_l k
  ·intro y0 y1
   unfold garnerref09_Points.l0
   repeat' first
   | (with_reducible exact ih0 _ _)
   | (with_reducible exact LeO.refl _)
   | (with_reducible exact LeO.none _)
   | (with_reducible refine LeO.ite ?_ ?_)
   | (with_reducible refine LeO.bind ?_ (fun _ => ?_))
   | exact ih0 _ _
   | exact LeO.none _
   | refine LeO.ite ?_ ?_
   | refine LeO.bind ?_ (fun _ => ?_)
theorem garnerref09_Points.mono : ∀ a0 k, LeO (garnerref09_Points.f k a0) (garnerref09_Points.f (k + 1) a0) := by
 intro a0 k
 have ih0 := garnerref09_Points.mono_l k
 unfold garnerref09_Points.f
 repeat' first
   | (with_reducible exact ih0 _ _)
   | (with_reducible exact LeO.refl _)
   | (with_reducible exact LeO.none _)
   | (with_reducible refine LeO.ite ?_ ?_)
   | (with_reducible refine LeO.bind ?_ (fun _ => ?_))
   | exact ih0 _ _
   | exact LeO.none _
   | refine LeO.ite ?_ ?_
   | refine LeO.bind ?_ (fun _ => ?_)
set_option maxHeartbeats 8000000 in
set_option maxRecDepth 100000 in
theorem garnerref09_Points.calls (k : Nat) (A0 : Option Addr) (c0 : Nat) (l0 : List (S43)) (r : Bool) (w : World) (hr0 : Kd.C k43 w A0 l0.length l0) (hc0 : l0.length ≤ c0) (h : garnerref09_Points.f k l0 = some r) :
  Calls Try.prog 11 #[.slice A0 l0.length c0] w fun e w' => e = .returned (.bool r) ∧ Below w.heap.size w w' := by
 have hu43 := Try.underlying43
 have HR0 := Am hr0
 have HC0 := Am hc0
 clear hr0 hc0
 have HB := Am (Below.refl w.heap.size w)
 have H : (garnerref09_Points.l0 k l0 0) = some r := h
 clear h
 have H' := Am H
 clear H
 go_enter Try.func11, Try.ntmps11
 go_wp2
 go_loopg [3] k (fun kq v3 w' => ∃ (Aa : Int), v3 = .int .i64 Aa ∧ Aside0 (garnerref09_Points.l0 kq l0 Aa = some r) ∧ Aside0 (kq ≤ k) ∧ Aside0 (Below w.heap.size w w'))
 case atStart => exact ⟨(0), (by first | rfl | (simp; done) | (simp [*]; done)), H', ⟨Nat.le_refl _⟩, ⟨pB HB.out⟩⟩
 case round =>
  clear H'
  try clear c1
  obtain ⟨Aa, rfl, HA, HK1, HB⟩ := hrel
  cases gk with
  | zero => exact absurd HA.out (by simp [garnerref09_Points.l0])
  | succ k1 =>
   have H := HA.out
   clear HA
   simp only [garnerref09_Points.l0] at H
   by_cases c2 : Aa < (l0.length : Int)
   rotate_left
   ·rw [if_neg c2] at H
    have c2b0 : decide (Aa < (l0.length : Int)) = false := decide_eq_false c2
    clear c2
    obtain rfl := Option.some.inj H
    go_wp2
    go_ret
    exact ⟨pX, pB HB.out⟩
   rw [if_pos c2] at H
   have c2b0 : decide (Aa < (l0.length : Int)) = true := decide_eq_true c2
   clear c2
   by_cases c3 : 0 ≤ Aa
   rotate_left
   ·rw [if_neg c3] at H
    exact absurd H (by simp)
   rw [if_pos c3] at H
   have c3b0 : decide (0 ≤ Aa) = true := decide_eq_true c3
   clear c3
   replace H := Option.bind_eq_some_iff.mp H
   obtain ⟨t169, A40, H⟩ := H
   replace H : (if t169 = true then (garnerref09_Points.l0 k1 l0 (wrap64 (Aa + 1))) else (some false)) = some r := H
   have A4 := Am A40
   clear A40
   by_cases c5 : t169 = true
   rotate_left
   ·replace c5 := Bool.eq_false_iff.mpr c5
    subst c5
    have H1 : (some false) = some r := by rw [if_neg (show ¬ (false = true) by decide)] at H; exact H
    clear H
    have H := H1
    clear H1
    obtain rfl := Option.some.inj H
    have p168 : 0 ≤ (Aa : Int) := of_decide_eq_true pS
    have q168 : Aa < (l0.length : Int) := of_decide_eq_true pS
    obtain ⟨Af, e168, Ab, Ac, Ad, Ae⟩ := at_T43u HR0.out Aa p168 q168 HB.out
    cases e168
    replace p168 := eq_true p168
    replace q168 := eq_true q168
    go_wp2_with (first | ((with_reducible refine gate_callee (f := 25) rfl ?_); refine goesL_ (some 14) rfl rfl Try.func25 (by kernel_rfl) rfl #[.agg #[.int .i64 ((rd_T43 l0 Aa).f0), .int .i64 ((rd_T43 l0 Aa).f1), .int .i64 ((rd_T43 l0 Aa).f2), .int .u32 ((rd_T43 l0 Aa).f3)]] rfl pL ?_; (with_reducible refine (garnerref04_May.calls ((rd_T43 l0 Aa).f0) ((rd_T43 l0 Aa).f1) ((rd_T43 l0 Aa).f2) ((rd_T43 l0 Aa).f3) false _ A4.out).mono ?_); rintro e w7 ⟨rfl, hb⟩; refine ⟨_, rfl, ?_⟩; replace HB := Am (below_step (pB HB.out) hb); (try clear hb); (try clear hb2); (try clear hk); (try clear hi)))
    go_ret
    exact ⟨pX, pB HB.out⟩
   subst c5
   have H1 : (garnerref09_Points.l0 k1 l0 (wrap64 (Aa + 1))) = some r := by rw [if_pos rfl] at H; exact H
   clear H
   have H := H1
   clear H1
   have H' := Am H
   clear H
   have p168 : 0 ≤ (Aa : Int) := of_decide_eq_true pS
   have q168 : Aa < (l0.length : Int) := of_decide_eq_true pS
   obtain ⟨Af, e168, Ab, Ac, Ad, Ae⟩ := at_T43u HR0.out Aa p168 q168 HB.out
   cases e168
   replace p168 := eq_true p168
   replace q168 := eq_true q168
   go_wp2_with (first | ((with_reducible refine gate_callee (f := 25) rfl ?_); refine goesL_ (some 14) rfl rfl Try.func25 (by kernel_rfl) rfl #[.agg #[.int .i64 ((rd_T43 l0 Aa).f0), .int .i64 ((rd_T43 l0 Aa).f1), .int .i64 ((rd_T43 l0 Aa).f2), .int .u32 ((rd_T43 l0 Aa).f3)]] rfl pL ?_; (with_reducible refine (garnerref04_May.calls ((rd_T43 l0 Aa).f0) ((rd_T43 l0 Aa).f1) ((rd_T43 l0 Aa).f2) ((rd_T43 l0 Aa).f3) true _ A4.out).mono ?_); rintro e w6 ⟨rfl, hb⟩; refine ⟨_, rfl, ?_⟩; replace HB := Am (below_step (pB HB.out) hb); (try clear hb); (try clear hb2); (try clear hk); (try clear hi)))
   go_roundg k1
   case measure => have := HK1.out; omega
   case rel => exact ⟨(wrap64 (Aa + 1)), (by first | rfl | (simp; done) | (simp [*]; done)), H', ⟨by have := HK1.out; omega⟩, ⟨pB HB.out⟩⟩
def garnerref09_Get.l0 : Nat → List (S46) → Int → Int → Option (Int)
 | 0, _, _, _ => none
 | k + 1, x0, x1, x5 => if x5 < (x0.length : Int) then (if 0 ≤ x5 then (if ((rd_T46 x0 x5).f0) = x1 then (some ((rd_T46 x0 x5).f1)) else (garnerref09_Get.l0 k x0 x1 (wrap64 (x5 + 1)))) else (none)) else (some 0)
def garnerref09_Get.f (k : Nat) (l0 : List (S46)) (a1 : Int) : Option (Int) := garnerref09_Get.l0 k l0 a1 0
theorem garnerref09_Get.mono_l : ∀ k, (∀ y0 y1 y2, LeO (garnerref09_Get.l0 k y0 y1 y2) (garnerref09_Get.l0 (k + 1) y0 y1 y2))
 | 0 => fun _ _ _ r h => by simp [garnerref09_Get.l0] at h
 | k + 1 => by
  have ih0 := garnerref09_Get.mono_l k
  ·intro y0 y1 y2
   unfold garnerref09_Get.l0
   repeat' first
   | (with_reducible exact ih0 _ _ _)
   | (with_reducible exact LeO.refl _)
   | (with_reducible exact LeO.none _)
   | (with_reducible refine LeO.ite ?_ ?_)
   | (with_reducible refine LeO.bind ?_ (fun _ => ?_))
   | exact ih0 _ _ _
   | exact LeO.none _
   | refine LeO.ite ?_ ?_
   | refine LeO.bind ?_ (fun _ => ?_)
theorem garnerref09_Get.mono : ∀ a0 a1 k, LeO (garnerref09_Get.f k a0 a1) (garnerref09_Get.f (k + 1) a0 a1) := by
 intro a0 a1 k
 have ih0 := garnerref09_Get.mono_l k
 unfold garnerref09_Get.f
 repeat' first
   | (with_reducible exact ih0 _ _ _)
   | (with_reducible exact LeO.refl _)
   | (with_reducible exact LeO.none _)
   | (with_reducible refine LeO.ite ?_ ?_)
   | (with_reducible refine LeO.bind ?_ (fun _ => ?_))
   | exact ih0 _ _ _
   | exact LeO.none _
   | refine LeO.ite ?_ ?_
   | refine LeO.bind ?_ (fun _ => ?_)
set_option maxHeartbeats 8000000 in
set_option maxRecDepth 100000 in
theorem garnerref09_Get.calls (k : Nat) (A0 : Option Addr) (c0 : Nat) (l0 : List (S46)) (a1 : Int) (r : Int) (w : World) (hr0 : Kd.C k46 w A0 l0.length l0) (hc0 : l0.length ≤ c0) (h : garnerref09_Get.f k l0 a1 = some r) :
  Calls Try.prog 17 #[.slice A0 l0.length c0, .int .i64 a1] w fun e w' => e = .returned (.int .i64 r) ∧ Drawn0 w w' := by
 have HR0 := Am hr0
 have HC0 := Am hc0
 clear hr0 hc0
 have H : (garnerref09_Get.l0 k l0 a1 0) = some r := h
 clear h
 have H' := Am H
 clear H
 go_enter Try.func17, Try.ntmps17
 go_wp2
 go_loopg [5] k (fun kq v5 w' => ∃ (Aa : Int), v5 = .int .i64 Aa ∧ Aside0 (garnerref09_Get.l0 kq l0 a1 Aa = some r) ∧ Aside0 (kq ≤ k) ∧ Drawn0 w w')
 case atStart => exact ⟨(0), (by first | rfl | (simp; done) | (simp [*]; done)), H', ⟨Nat.le_refl _⟩, by repeat (first | exact Drawn0.refl _ | apply Drawn0.step)⟩
 case round =>
  clear H'
  try clear c1
  try clear p2
  obtain ⟨Aa, rfl, HA, HK1, ⟨m1, rfl⟩⟩ := hrel
  cases gk with
  | zero => exact absurd HA.out (by simp [garnerref09_Get.l0])
  | succ k1 =>
   have H := HA.out
   clear HA
   simp only [garnerref09_Get.l0] at H
   by_cases c3 : Aa < (l0.length : Int)
   rotate_left
   ·rw [if_neg c3] at H
    have c3b0 : decide (Aa < (l0.length : Int)) = false := decide_eq_false c3
    clear c3
    obtain rfl := Option.some.inj H
    go_wp2
    go_ret
    exact ⟨by first | rfl | (simp; done) | (simp [*]; done), by repeat (first | exact Drawn0.refl _ | apply Drawn0.step)⟩
   rw [if_pos c3] at H
   have c3b0 : decide (Aa < (l0.length : Int)) = true := decide_eq_true c3
   clear c3
   by_cases c4 : 0 ≤ Aa
   rotate_left
   ·rw [if_neg c4] at H
    exact absurd H (by simp)
   rw [if_pos c4] at H
   have c4b0 : decide (0 ≤ Aa) = true := decide_eq_true c4
   clear c4
   by_cases c5 : ((rd_T46 l0 Aa).f0) = a1
   ·rw [if_pos c5] at H
    have c5b0 : (((rd_T46 l0 Aa).f0) == a1) = true := beq_iff_eq.mpr c5
    have c5b1 : (((rd_T46 l0 Aa).f0) != a1) = false := bne_eq_false_iff_eq.mpr c5
    clear c5
    obtain rfl := Option.some.inj H
    have p170 : 0 ≤ (Aa : Int) := of_decide_eq_true pS
    have q170 : Aa < (l0.length : Int) := of_decide_eq_true pS
    obtain ⟨Ad, e170, Ab, Ac⟩ := at_T46 HR0.out Aa p170 q170
    cases e170
    replace p170 := eq_true p170
    replace q170 := eq_true q170
    go_wp2
    go_ret
    exact ⟨by first | rfl | (simp; done) | (simp [*]; done), by repeat (first | exact Drawn0.refl _ | apply Drawn0.step)⟩
   rw [if_neg c5] at H
   have c5b0 : (((rd_T46 l0 Aa).f0) == a1) = false := beq_eq_false_iff_ne.mpr c5
   have c5b1 : (((rd_T46 l0 Aa).f0) != a1) = true := bne_iff_ne.mpr c5
   have H' := Am H
   clear H
   have p170 : 0 ≤ (Aa : Int) := of_decide_eq_true pS
   have q170 : Aa < (l0.length : Int) := of_decide_eq_true pS
   obtain ⟨Ad, e170, Ab, Ac⟩ := at_T46 HR0.out Aa p170 q170
   cases e170
   replace p170 := eq_true p170
   replace q170 := eq_true q170
   go_wp2
   go_roundg k1
   case measure => have := HK1.out; omega
   case rel => exact ⟨(wrap64 (Aa + 1)), (by first | rfl | (simp; done) | (simp [*]; done)), H', ⟨by have := HK1.out; omega⟩, by repeat (first | exact Drawn0.refl _ | apply Drawn0.step)⟩
end Go.Proofs.Ytkapmlijeilieaa.PTallyAdds
