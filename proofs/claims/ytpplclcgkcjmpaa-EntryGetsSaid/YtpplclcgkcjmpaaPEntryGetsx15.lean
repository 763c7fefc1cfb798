/- What the law reaches, as plain Lean functions, and that the machine's calls answer just that. -/
import Derived.Test.YtpplclcgkcjmpaaPEntryGetsx0
import Derived.Test.YtpplclcgkcjmpaaPEntryGetsx4
import Derived.Test.YtpplclcgkcjmpaaPEntryGetsx8
import Derived.Test.YtpplclcgkcjmpaaPEntryGetsx13
import Derived.Test.YtpplclcgkcjmpaaPEntryGetsx14
namespace Go.Proofs.Ytpplclcgkcjmpaa.PEntryGets
open Go.RowKit Go.Proofs.YtpplclcgkcjmpaaW.PrintWords Go.Proofs.YtpplclcgkcjmpaaW.PrintLast Go.Proofs.YtpplclcgkcjmpaaW.PrintMore
attribute [local go_sem] max2_int min2_int max_two min_two max_three min_three max_four min_four
set_option linter.unusedVariables false
set_option linter.unusedSimpArgs false
attribute [local go_sem] wrap64_l1 wrap64_l2 wrap64_l3 wrap64_l4 wrap64_l5
def garnerlaw06_EntryGets.f (k : Nat) (l0 : List Int) : Option (Bool) := if (l0.length : Int) > 3000 then ((garnerlaw06_awake.f k).bind fun t412 => (some t412)) else ((some (([] : List Int) : List Int)).bind fun y413 => (if y413.length + l0.length < 140737488355328 then ((entry_Get.f k (y413 ++ l0)).bind fun bt419 => ((garnerref06_Get.f k l0).bind fun t423 => ((garnerref06_Same.f k bt419.1 t423).bind fun t426 => (if t426 = true then (if ((bt419.2 == 0) == (decide ((t423.length : Int) > 0))) = true then (if ((bt419.2 == 2) == ((t423.length : Int) == 0)) = true then ((garnerlaw06_awake.f k).bind fun t427 => (some t427)) else (some false)) else (some false)) else (some false))))) else (none)))
theorem garnerlaw06_EntryGets.mono : ∀ a0 k, LeO (garnerlaw06_EntryGets.f k a0) (garnerlaw06_EntryGets.f (k + 1) a0) := by
 intro a0 k
 unfold garnerlaw06_EntryGets.f
 repeat' first
   | (with_reducible exact entry_Get.mono _ _)
   | (with_reducible exact garnerlaw06_awake.mono _)
   | (with_reducible exact garnerref06_Get.mono _ _)
   | (with_reducible exact garnerref06_Same.mono _ _ _)
   | (with_reducible exact LeO.refl _)
   | (with_reducible exact LeO.none _)
   | (with_reducible refine LeO.ite ?_ ?_)
   | (with_reducible refine LeO.bind ?_ (fun _ => ?_))
   | exact entry_Get.mono _ _
   | exact garnerlaw06_awake.mono _
   | exact garnerref06_Get.mono _ _
   | exact garnerref06_Same.mono _ _ _
   | exact LeO.none _
   | refine LeO.ite ?_ ?_
   | refine LeO.bind ?_ (fun _ => ?_)
set_option maxHeartbeats 8000000 in
set_option maxRecDepth 100000 in
theorem garnerlaw06_EntryGets.calls (k : Nat) (A0 : Option Addr) (c0 : Nat) (l0 : List Int) (r : Bool) (w : World) (hr0 : Kd.C (Kd.int .u8) w A0 l0.length l0) (hc0 : l0.length ≤ c0) (h : garnerlaw06_EntryGets.f k l0 = some r) :
  Calls Try.prog 3 #[.slice A0 l0.length c0] w fun e w' => e = .returned (.bool r) ∧ Below w.heap.size w w' := by
 have HR0 := Am hr0
 have HC0 := Am hc0
 clear hr0 hc0
 have HB := Am (Below.refl w.heap.size w)
 have H : (if (l0.length : Int) > 3000 then ((garnerlaw06_awake.f k).bind fun t412 => (some t412)) else ((some (([] : List Int) : List Int)).bind fun y413 => (if y413.length + l0.length < 140737488355328 then ((entry_Get.f k (y413 ++ l0)).bind fun bt419 => ((garnerref06_Get.f k l0).bind fun t423 => ((garnerref06_Same.f k bt419.1 t423).bind fun t426 => (if t426 = true then (if ((bt419.2 == 0) == (decide ((t423.length : Int) > 0))) = true then (if ((bt419.2 == 2) == ((t423.length : Int) == 0)) = true then ((garnerlaw06_awake.f k).bind fun t427 => (some t427)) else (some false)) else (some false)) else (some false))))) else (none)))) = some r := h
 clear h
 by_cases c2 : (l0.length : Int) > 3000
 ·rw [if_pos c2] at H
  have c2b0 : decide (3000 < (l0.length : Int)) = true := decide_eq_true c2
  have c2b1 : decide (3000 < l0.length) = true := decide_eq_true (by omega)
  clear c2
  replace H := Option.bind_eq_some_iff.mp H
  obtain ⟨t412, A30, H⟩ := H
  replace H : (some t412) = some r := H
  have A3 := Am A30
  clear A30
  obtain rfl := Option.some.inj H
  go_enter Try.func3, Try.ntmps3
  go_wp2_with (first | ((with_reducible refine gate_callee (f := 5) rfl ?_); refine goesL_ (some 9) rfl rfl Try.func5 (by kernel_rfl) rfl #[] rfl pL ?_; (with_reducible refine (garnerlaw06_awake.calls k  t412 _ A3.out).mono ?_); rintro e w4 ⟨rfl, hb⟩; refine ⟨_, rfl, ?_⟩; replace HB := Am (below_step (pB HB.out) hb); (try clear hb); (try clear hb2); (try clear hk); (try clear hi)))
  go_ret
  exact ⟨pX, pB HB.out⟩
 rw [if_neg c2] at H
 have c2b0 : decide (3000 < (l0.length : Int)) = false := decide_eq_false c2
 have c2b1 : decide (3000 < l0.length) = false := decide_eq_false (by omega)
 clear c2
 obtain ⟨y413, hy413⟩ : ∃ y_ : List Int, y_ = (([] : List Int)) := ⟨_, rfl⟩
 replace H : (if y413.length + l0.length < 140737488355328 then ((entry_Get.f k (y413 ++ l0)).bind fun bt419 => ((garnerref06_Get.f k l0).bind fun t423 => ((garnerref06_Same.f k bt419.1 t423).bind fun t426 => (if t426 = true then (if ((bt419.2 == 0) == (decide ((t423.length : Int) > 0))) = true then (if ((bt419.2 == 2) == ((t423.length : Int) == 0)) = true then ((garnerlaw06_awake.f k).bind fun t427 => (some t427)) else (some false)) else (some false)) else (some false))))) else (none)) = some r := by first | (rw [hy413]; with_reducible exact H) | (have H2_ := (Option.bind_some _ _).symm.trans H; rw [hy413]; with_reducible exact H2_) | (have H2_ := (Option.bind_some _ _).symm.trans H; with_reducible exact H2_) | with_reducible exact H | (rw [hy413]; exact H) | exact H
 have Ny413 := Am hy413
 clear hy413
 by_cases c5 : y413.length + l0.length < 140737488355328
 rotate_left
 ·rw [if_neg c5] at H
  exact absurd H (by simp)
 rw [if_pos c5] at H
 have LMc5 := Am c5
 clear c5
 obtain ⟨y416, hy416⟩ : ∃ y_ : List Int, y_ = (y413 ++ l0) := ⟨_, rfl⟩
 replace H : ((entry_Get.f k y416).bind fun bt419 => ((garnerref06_Get.f k l0).bind fun t423 => ((garnerref06_Same.f k bt419.1 t423).bind fun t426 => (if t426 = true then (if ((bt419.2 == 0) == (decide ((t423.length : Int) > 0))) = true then (if ((bt419.2 == 2) == ((t423.length : Int) == 0)) = true then ((garnerlaw06_awake.f k).bind fun t427 => (some t427)) else (some false)) else (some false)) else (some false))))) = some r := by first | (rw [hy416]; with_reducible exact H) | (have H2_ := (Option.bind_some _ _).symm.trans H; rw [hy416]; with_reducible exact H2_) | (have H2_ := (Option.bind_some _ _).symm.trans H; with_reducible exact H2_) | with_reducible exact H | (rw [hy416]; exact H) | exact H
 have Ny416 := Am hy416
 clear hy416
 replace H := Option.bind_eq_some_iff.mp H
 obtain ⟨⟨t419, t420⟩, A60, H⟩ := H
 replace H : ((garnerref06_Get.f k l0).bind fun t423 => ((garnerref06_Same.f k t419 t423).bind fun t426 => (if t426 = true then (if ((t420 == 0) == (decide ((t423.length : Int) > 0))) = true then (if ((t420 == 2) == ((t423.length : Int) == 0)) = true then ((garnerlaw06_awake.f k).bind fun t427 => (some t427)) else (some false)) else (some false)) else (some false)))) = some r := H
 have A6 := Am A60
 clear A60
 replace H := Option.bind_eq_some_iff.mp H
 obtain ⟨t423, A70, H⟩ := H
 replace H : ((garnerref06_Same.f k t419 t423).bind fun t426 => (if t426 = true then (if ((t420 == 0) == (decide ((t423.length : Int) > 0))) = true then (if ((t420 == 2) == ((t423.length : Int) == 0)) = true then ((garnerlaw06_awake.f k).bind fun t427 => (some t427)) else (some false)) else (some false)) else (some false))) = some r := H
 have A7 := Am A70
 clear A70
 replace H := Option.bind_eq_some_iff.mp H
 obtain ⟨t426, A80, H⟩ := H
 replace H : (if t426 = true then (if ((t420 == 0) == (decide ((t423.length : Int) > 0))) = true then (if ((t420 == 2) == ((t423.length : Int) == 0)) = true then ((garnerlaw06_awake.f k).bind fun t427 => (some t427)) else (some false)) else (some false)) else (some false)) = some r := H
 have A8 := Am A80
 clear A80
 by_cases c9 : t426 = true
 rotate_left
 ·replace c9 := Bool.eq_false_iff.mpr c9
  subst c9
  have H1 : (some false) = some r := by rw [if_neg (show ¬ (false = true) by decide)] at H; exact H
  clear H
  have H := H1
  clear H1
  obtain rfl := Option.some.inj H
  go_enter Try.func3, Try.ntmps3
  go_wp2_with (first | ((with_reducible refine gate_dst (N := 11) rfl ?_); (try (refine gate_guard (by rfl) ?_; dsimp only)); refine Kd.R_lit (Kd.int .u8) _ 5 ?hg (N := 11) ?hd (xs := ([] : List Int)) (inner := []) (ok := fun _ => True) (okp := fun _ => True) ?hr ?hp (fun _ hk => hk) trivial (Below.refl _ _) (Nat.le_refl _) (by simp) ?_; (case hd => rfl); (case hg => rfl); (case hr => first | (go_simp; done) | (go_simp; rfl)); (case hp => exact (Reps.none _ _)); intro v414 w41 ho42 hb hg_ hnew_; clear hg_ hnew_; (first | rw [← Ny413.out] at ho42 | (simp only [Int.reduceToNat] at ho42; rw [← Ny413.out] at ho42)); have Af := Am (Kd.R_lower ho42 (below_size (pB HB.out))); replace HB := Am (below_step (pB HB.out) hb); clear hb ho42) | ((with_reducible refine gate_builtin (b := .append) (xs := #[.tmp 11, .tmp 12]) rfl ?_); (try (refine gate_guard (by rfl) ?_; dsimp only)); at_builtin; refine Kd.R_append_rows (Kd.int .u8) (w0 := w) w.heap.size rfl (.tmp 11) (.tmp 12) 22 5 (.int .u8 0) 1 rfl Try.underlying22 info5 rfl (by decide) (by omega) v414 y413 l0 _ _ _ (fun _ => True) (fun _ => False) rfl rfl ?aO ?aR (fun _ _ h => h) (fun _ h => h.elim) ?aF ?aB ?aS ?aL ?_; (case aR => exact pC (Kd.C_below HR0.out HB.out)); (case aB => exact (pB HB.out)); (case aF => exact (fun _ _ => trivial)); (case aO => exact (pR Af.out)); (case aS => exact (below_size (pB HB.out))); (case aL => have := LMc5.out; omega); intro v417 w43 ho hb hg hat; rw [← Ny416.out] at ho; replace HB := Am (hb); have Aa := Am (ho); clear Af ho hb hg hat; obtain ⟨Bf, Bg, Bh⟩ := Kd.R_slice Aa.out; subst Bh) | ((with_reducible refine gate_callee (f := 6) rfl ?_); refine goesL_ (some 14) rfl rfl Try.func6 (by kernel_rfl) rfl #[.slice Bf y416.length Bg] rfl pL ?_; (with_reducible refine (entry_Get.calls k _ _ y416 t419 t420 _ ?Ad ?Ae A6.out).mono ?_); (case Ad => exact pC (Kd.R_reads' Aa.out).2.2); (case Ae => exact (Kd.R_reads' Aa.out).2.1); rintro e w45 ⟨v421, rfl, ho0, hb⟩; refine ⟨_, rfl, ?_⟩; have Ab := Am (Kd.S_lower (Kd.S_new' ho0 (Kd.R_lt (pR Aa.out))) (below_size (pB HB.out))); replace Aa := bRa Aa hb; replace HB := Am (below_step (pB HB.out) hb); (try clear hb); (try clear hb2); (try clear hk); (try clear hi); (try clear ho0)) | ((with_reducible refine gate_callee (f := 7) rfl ?_); refine goesL_ (some 18) rfl rfl Try.func7 (by kernel_rfl) rfl #[.slice A0 l0.length c0] rfl pL ?_; (with_reducible refine (garnerref06_Get.calls k _ _ l0 t423 _ ?Ad ?Ae A7.out).mono ?_); (case Ad => exact pC (Kd.C_below HR0.out HB.out)); (case Ae => exact HC0.out); rintro e w46 ⟨v424, rfl, ho0, hb⟩; refine ⟨_, rfl, ?_⟩; have Ac := Am (Kd.S_lower (Kd.S_new' (Kd.S_new' ho0 (Kd.R_lt (pR Aa.out))) (Kd.S_lt (by (with_reducible repeat (first | apply Kd.S_alloc | apply Kd.S_drewN | apply Kd.S_drew)); exact Ab.out))) (below_size (pB HB.out))); replace Aa := bRa Aa hb; replace Ab := Am (Kd.S_elder' (by (with_reducible repeat (first | apply Kd.S_alloc | apply Kd.S_drewN | apply Kd.S_drew)); exact Ab.out) (Kd.S_base ho0) hb); replace HB := Am (below_step (pB HB.out) hb); (try clear hb); (try clear hb2); (try clear hk); (try clear hi); (try clear ho0); obtain ⟨Bi, Bj, Bk⟩ := Kd.S_slice Ab.out; subst Bk; obtain ⟨Bl, Bm, Bn⟩ := Kd.S_slice Ac.out; subst Bn) | ((with_reducible refine gate_callee (f := 8) rfl ?_); refine goesL_ (some 21) rfl rfl Try.func8 (by kernel_rfl) rfl #[.slice Bi t419.length Bj, .slice Bl t423.length Bm] rfl pL ?_; (with_reducible refine (garnerref06_Same.calls k _ _ t419 _ _ t423 false _ ?Ad ?Ae ?Ag ?Ah A8.out).mono ?_); (case Ad => repeat (first | exact (Kd.S_reads' Ab.out).2.2 | (with_reducible refine Kd.C_alloc ?_ _) | (with_reducible refine Kd.C_drewN ?_ _) | (with_reducible refine Kd.C_drew ?_))); (case Ae => exact (Kd.S_reads' Ab.out).2.1); (case Ag => repeat (first | exact (Kd.S_reads' Ac.out).2.2 | (with_reducible refine Kd.C_alloc ?_ _) | (with_reducible refine Kd.C_drewN ?_ _) | (with_reducible refine Kd.C_drew ?_))); (case Ah => exact (Kd.S_reads' Ac.out).2.1); rintro e w49 ⟨rfl, hb⟩; refine ⟨_, rfl, ?_⟩; replace Aa := bRa Aa hb; replace Ab := Am (Kd.S_below (by (with_reducible repeat (first | apply Kd.S_alloc | apply Kd.S_drewN | apply Kd.S_drew)); exact Ab.out) hb); replace Ac := Am (Kd.S_below (by (with_reducible repeat (first | apply Kd.S_alloc | apply Kd.S_drewN | apply Kd.S_drew)); exact Ac.out) hb); replace HB := Am (below_step (pB HB.out) hb); (try clear hb); (try clear hb2); (try clear hk); (try clear hi)))
  go_ret
  exact ⟨pX, pB HB.out⟩
 subst c9
 have H1 : (if ((t420 == 0) == (decide ((t423.length : Int) > 0))) = true then (if ((t420 == 2) == ((t423.length : Int) == 0)) = true then ((garnerlaw06_awake.f k).bind fun t427 => (some t427)) else (some false)) else (some false)) = some r := by rw [if_pos rfl] at H; exact H
 clear H
 have H := H1
 clear H1
 by_cases c10 : ((t420 == 0) == (decide ((t423.length : Int) > 0))) = true
 rotate_left
 ·rw [if_neg c10] at H
  have c10b0 : ((t420 == 0) == (decide ((t423.length : Int) > 0))) = false := by simpa using c10
  have c10bz : ((t420 == 0) == (decide (0 < t423.length))) = false := by simpa using c10
  (try (have c10b1 : decide ((t420 == 0) = (decide ((t423.length : Int) > 0))) = false := by simpa using c10))
  (try (have c10b2 : ((t420 == 0) == (decide ((t423.length : Int) > 0))) = false := by simpa using c10))
  (try (have c10b3 : ¬ ((t420 == 0) = (decide ((t423.length : Int) > 0))) := by simpa using c10))
  clear c10
  obtain rfl := Option.some.inj H
  go_enter Try.func3, Try.ntmps3
  go_wp2_with (first | ((with_reducible refine gate_dst (N := 11) rfl ?_); (try (refine gate_guard (by rfl) ?_; dsimp only)); refine Kd.R_lit (Kd.int .u8) _ 5 ?hg (N := 11) ?hd (xs := ([] : List Int)) (inner := []) (ok := fun _ => True) (okp := fun _ => True) ?hr ?hp (fun _ hk => hk) trivial (Below.refl _ _) (Nat.le_refl _) (by simp) ?_; (case hd => rfl); (case hg => rfl); (case hr => first | (go_simp; done) | (go_simp; rfl)); (case hp => exact (Reps.none _ _)); intro v414 w32 ho33 hb hg_ hnew_; clear hg_ hnew_; (first | rw [← Ny413.out] at ho33 | (simp only [Int.reduceToNat] at ho33; rw [← Ny413.out] at ho33)); have Af := Am (Kd.R_lower ho33 (below_size (pB HB.out))); replace HB := Am (below_step (pB HB.out) hb); clear hb ho33) | ((with_reducible refine gate_builtin (b := .append) (xs := #[.tmp 11, .tmp 12]) rfl ?_); (try (refine gate_guard (by rfl) ?_; dsimp only)); at_builtin; refine Kd.R_append_rows (Kd.int .u8) (w0 := w) w.heap.size rfl (.tmp 11) (.tmp 12) 22 5 (.int .u8 0) 1 rfl Try.underlying22 info5 rfl (by decide) (by omega) v414 y413 l0 _ _ _ (fun _ => True) (fun _ => False) rfl rfl ?aO ?aR (fun _ _ h => h) (fun _ h => h.elim) ?aF ?aB ?aS ?aL ?_; (case aR => exact pC (Kd.C_below HR0.out HB.out)); (case aB => exact (pB HB.out)); (case aF => exact (fun _ _ => trivial)); (case aO => exact (pR Af.out)); (case aS => exact (below_size (pB HB.out))); (case aL => have := LMc5.out; omega); intro v417 w34 ho hb hg hat; rw [← Ny416.out] at ho; replace HB := Am (hb); have Aa := Am (ho); clear Af ho hb hg hat; obtain ⟨A2, A4, A5⟩ := Kd.R_slice Aa.out; subst A5) | ((with_reducible refine gate_callee (f := 6) rfl ?_); refine goesL_ (some 14) rfl rfl Try.func6 (by kernel_rfl) rfl #[.slice A2 y416.length A4] rfl pL ?_; (with_reducible refine (entry_Get.calls k _ _ y416 t419 t420 _ ?Ad ?Ae A6.out).mono ?_); (case Ad => exact pC (Kd.R_reads' Aa.out).2.2); (case Ae => exact (Kd.R_reads' Aa.out).2.1); rintro e w36 ⟨v421, rfl, ho0, hb⟩; refine ⟨_, rfl, ?_⟩; have Ab := Am (Kd.S_lower (Kd.S_new' ho0 (Kd.R_lt (pR Aa.out))) (below_size (pB HB.out))); replace Aa := bRa Aa hb; replace HB := Am (below_step (pB HB.out) hb); (try clear hb); (try clear hb2); (try clear hk); (try clear hi); (try clear ho0)) | ((with_reducible refine gate_callee (f := 7) rfl ?_); refine goesL_ (some 18) rfl rfl Try.func7 (by kernel_rfl) rfl #[.slice A0 l0.length c0] rfl pL ?_; (with_reducible refine (garnerref06_Get.calls k _ _ l0 t423 _ ?Ad ?Ae A7.out).mono ?_); (case Ad => exact pC (Kd.C_below HR0.out HB.out)); (case Ae => exact HC0.out); rintro e w37 ⟨v424, rfl, ho0, hb⟩; refine ⟨_, rfl, ?_⟩; have Ac := Am (Kd.S_lower (Kd.S_new' (Kd.S_new' ho0 (Kd.R_lt (pR Aa.out))) (Kd.S_lt (by (with_reducible repeat (first | apply Kd.S_alloc | apply Kd.S_drewN | apply Kd.S_drew)); exact Ab.out))) (below_size (pB HB.out))); replace Aa := bRa Aa hb; replace Ab := Am (Kd.S_elder' (by (with_reducible repeat (first | apply Kd.S_alloc | apply Kd.S_drewN | apply Kd.S_drew)); exact Ab.out) (Kd.S_base ho0) hb); replace HB := Am (below_step (pB HB.out) hb); (try clear hb); (try clear hb2); (try clear hk); (try clear hi); (try clear ho0); obtain ⟨A9, Ba, Bb⟩ := Kd.S_slice Ab.out; subst Bb; obtain ⟨Bc, Bd, Be⟩ := Kd.S_slice Ac.out; subst Be) | ((with_reducible refine gate_callee (f := 8) rfl ?_); refine goesL_ (some 21) rfl rfl Try.func8 (by kernel_rfl) rfl #[.slice A9 t419.length Ba, .slice Bc t423.length Bd] rfl pL ?_; (with_reducible refine (garnerref06_Same.calls k _ _ t419 _ _ t423 true _ ?Ad ?Ae ?Ag ?Ah A8.out).mono ?_); (case Ad => repeat (first | exact (Kd.S_reads' Ab.out).2.2 | (with_reducible refine Kd.C_alloc ?_ _) | (with_reducible refine Kd.C_drewN ?_ _) | (with_reducible refine Kd.C_drew ?_))); (case Ae => exact (Kd.S_reads' Ab.out).2.1); (case Ag => repeat (first | exact (Kd.S_reads' Ac.out).2.2 | (with_reducible refine Kd.C_alloc ?_ _) | (with_reducible refine Kd.C_drewN ?_ _) | (with_reducible refine Kd.C_drew ?_))); (case Ah => exact (Kd.S_reads' Ac.out).2.1); rintro e w40 ⟨rfl, hb⟩; refine ⟨_, rfl, ?_⟩; replace Aa := bRa Aa hb; replace Ab := Am (Kd.S_below (by (with_reducible repeat (first | apply Kd.S_alloc | apply Kd.S_drewN | apply Kd.S_drew)); exact Ab.out) hb); replace Ac := Am (Kd.S_below (by (with_reducible repeat (first | apply Kd.S_alloc | apply Kd.S_drewN | apply Kd.S_drew)); exact Ac.out) hb); replace HB := Am (below_step (pB HB.out) hb); (try clear hb); (try clear hb2); (try clear hk); (try clear hi)))
  go_ret
  exact ⟨pX, pB HB.out⟩
 rw [if_pos c10] at H
 have c10b0 : ((t420 == 0) == (decide ((t423.length : Int) > 0))) = true := c10
 have c10bz : ((t420 == 0) == (decide (0 < t423.length))) = true := by simpa using c10
 (try (have c10b1 : decide ((t420 == 0) = (decide ((t423.length : Int) > 0))) = true := by simpa using c10))
 (try (have c10b2 : ((t420 == 0) == (decide ((t423.length : Int) > 0))) = true := by simpa using c10))
 clear c10
 by_cases c11 : ((t420 == 2) == ((t423.length : Int) == 0)) = true
 rotate_left
 ·rw [if_neg c11] at H
  have c11b0 : ((t420 == 2) == ((t423.length : Int) == 0)) = false := by simpa using c11
  (try (have c11b1 : decide ((t420 == 2) = ((t423.length : Int) == 0)) = false := by simpa using c11))
  (try (have c11b2 : ((t420 == 2) == ((t423.length : Int) == 0)) = false := by simpa using c11))
  (try (have c11b3 : ¬ ((t420 == 2) = ((t423.length : Int) == 0)) := by simpa using c11))
  clear c11
  obtain rfl := Option.some.inj H
  go_enter Try.func3, Try.ntmps3
  go_wp2_with (first | ((with_reducible refine gate_dst (N := 11) rfl ?_); (try (refine gate_guard (by rfl) ?_; dsimp only)); refine Kd.R_lit (Kd.int .u8) _ 5 ?hg (N := 11) ?hd (xs := ([] : List Int)) (inner := []) (ok := fun _ => True) (okp := fun _ => True) ?hr ?hp (fun _ hk => hk) trivial (Below.refl _ _) (Nat.le_refl _) (by simp) ?_; (case hd => rfl); (case hg => rfl); (case hr => first | (go_simp; done) | (go_simp; rfl)); (case hp => exact (Reps.none _ _)); intro v414 w23 ho24 hb hg_ hnew_; clear hg_ hnew_; (first | rw [← Ny413.out] at ho24 | (simp only [Int.reduceToNat] at ho24; rw [← Ny413.out] at ho24)); have Af := Am (Kd.R_lower ho24 (below_size (pB HB.out))); replace HB := Am (below_step (pB HB.out) hb); clear hb ho24) | ((with_reducible refine gate_builtin (b := .append) (xs := #[.tmp 11, .tmp 12]) rfl ?_); (try (refine gate_guard (by rfl) ?_; dsimp only)); at_builtin; refine Kd.R_append_rows (Kd.int .u8) (w0 := w) w.heap.size rfl (.tmp 11) (.tmp 12) 22 5 (.int .u8 0) 1 rfl Try.underlying22 info5 rfl (by decide) (by omega) v414 y413 l0 _ _ _ (fun _ => True) (fun _ => False) rfl rfl ?aO ?aR (fun _ _ h => h) (fun _ h => h.elim) ?aF ?aB ?aS ?aL ?_; (case aR => exact pC (Kd.C_below HR0.out HB.out)); (case aB => exact (pB HB.out)); (case aF => exact (fun _ _ => trivial)); (case aO => exact (pR Af.out)); (case aS => exact (below_size (pB HB.out))); (case aL => have := LMc5.out; omega); intro v417 w25 ho hb hg hat; rw [← Ny416.out] at ho; replace HB := Am (hb); have Aa := Am (ho); clear Af ho hb hg hat; obtain ⟨As, At, Au⟩ := Kd.R_slice Aa.out; subst Au) | ((with_reducible refine gate_callee (f := 6) rfl ?_); refine goesL_ (some 14) rfl rfl Try.func6 (by kernel_rfl) rfl #[.slice As y416.length At] rfl pL ?_; (with_reducible refine (entry_Get.calls k _ _ y416 t419 t420 _ ?Ad ?Ae A6.out).mono ?_); (case Ad => exact pC (Kd.R_reads' Aa.out).2.2); (case Ae => exact (Kd.R_reads' Aa.out).2.1); rintro e w27 ⟨v421, rfl, ho0, hb⟩; refine ⟨_, rfl, ?_⟩; have Ab := Am (Kd.S_lower (Kd.S_new' ho0 (Kd.R_lt (pR Aa.out))) (below_size (pB HB.out))); replace Aa := bRa Aa hb; replace HB := Am (below_step (pB HB.out) hb); (try clear hb); (try clear hb2); (try clear hk); (try clear hi); (try clear ho0)) | ((with_reducible refine gate_callee (f := 7) rfl ?_); refine goesL_ (some 18) rfl rfl Try.func7 (by kernel_rfl) rfl #[.slice A0 l0.length c0] rfl pL ?_; (with_reducible refine (garnerref06_Get.calls k _ _ l0 t423 _ ?Ad ?Ae A7.out).mono ?_); (case Ad => exact pC (Kd.C_below HR0.out HB.out)); (case Ae => exact HC0.out); rintro e w28 ⟨v424, rfl, ho0, hb⟩; refine ⟨_, rfl, ?_⟩; have Ac := Am (Kd.S_lower (Kd.S_new' (Kd.S_new' ho0 (Kd.R_lt (pR Aa.out))) (Kd.S_lt (by (with_reducible repeat (first | apply Kd.S_alloc | apply Kd.S_drewN | apply Kd.S_drew)); exact Ab.out))) (below_size (pB HB.out))); replace Aa := bRa Aa hb; replace Ab := Am (Kd.S_elder' (by (with_reducible repeat (first | apply Kd.S_alloc | apply Kd.S_drewN | apply Kd.S_drew)); exact Ab.out) (Kd.S_base ho0) hb); replace HB := Am (below_step (pB HB.out) hb); (try clear hb); (try clear hb2); (try clear hk); (try clear hi); (try clear ho0); obtain ⟨Av, Aw, Ax⟩ := Kd.S_slice Ab.out; subst Ax; obtain ⟨Ay, Az, A1⟩ := Kd.S_slice Ac.out; subst A1) | ((with_reducible refine gate_callee (f := 8) rfl ?_); refine goesL_ (some 21) rfl rfl Try.func8 (by kernel_rfl) rfl #[.slice Av t419.length Aw, .slice Ay t423.length Az] rfl pL ?_; (with_reducible refine (garnerref06_Same.calls k _ _ t419 _ _ t423 true _ ?Ad ?Ae ?Ag ?Ah A8.out).mono ?_); (case Ad => repeat (first | exact (Kd.S_reads' Ab.out).2.2 | (with_reducible refine Kd.C_alloc ?_ _) | (with_reducible refine Kd.C_drewN ?_ _) | (with_reducible refine Kd.C_drew ?_))); (case Ae => exact (Kd.S_reads' Ab.out).2.1); (case Ag => repeat (first | exact (Kd.S_reads' Ac.out).2.2 | (with_reducible refine Kd.C_alloc ?_ _) | (with_reducible refine Kd.C_drewN ?_ _) | (with_reducible refine Kd.C_drew ?_))); (case Ah => exact (Kd.S_reads' Ac.out).2.1); rintro e w31 ⟨rfl, hb⟩; refine ⟨_, rfl, ?_⟩; replace Aa := bRa Aa hb; replace Ab := Am (Kd.S_below (by (with_reducible repeat (first | apply Kd.S_alloc | apply Kd.S_drewN | apply Kd.S_drew)); exact Ab.out) hb); replace Ac := Am (Kd.S_below (by (with_reducible repeat (first | apply Kd.S_alloc | apply Kd.S_drewN | apply Kd.S_drew)); exact Ac.out) hb); replace HB := Am (below_step (pB HB.out) hb); (try clear hb); (try clear hb2); (try clear hk); (try clear hi)))
  go_ret
  exact ⟨pX, pB HB.out⟩
 rw [if_pos c11] at H
 have c11b0 : ((t420 == 2) == ((t423.length : Int) == 0)) = true := c11
 (try (have c11b1 : decide ((t420 == 2) = ((t423.length : Int) == 0)) = true := by simpa using c11))
 (try (have c11b2 : ((t420 == 2) == ((t423.length : Int) == 0)) = true := by simpa using c11))
 clear c11
 replace H := Option.bind_eq_some_iff.mp H
 obtain ⟨t427, A120, H⟩ := H
 replace H : (some t427) = some r := H
 have A12 := Am A120
 clear A120
 obtain rfl := Option.some.inj H
 go_enter Try.func3, Try.ntmps3
 go_wp2_with (first | ((with_reducible refine gate_dst (N := 11) rfl ?_); (try (refine gate_guard (by rfl) ?_; dsimp only)); refine Kd.R_lit (Kd.int .u8) _ 5 ?hg (N := 11) ?hd (xs := ([] : List Int)) (inner := []) (ok := fun _ => True) (okp := fun _ => True) ?hr ?hp (fun _ hk => hk) trivial (Below.refl _ _) (Nat.le_refl _) (by simp) ?_; (case hd => rfl); (case hg => rfl); (case hr => first | (go_simp; done) | (go_simp; rfl)); (case hp => exact (Reps.none _ _)); intro v414 w13 ho14 hb hg_ hnew_; clear hg_ hnew_; (first | rw [← Ny413.out] at ho14 | (simp only [Int.reduceToNat] at ho14; rw [← Ny413.out] at ho14)); have Af := Am (Kd.R_lower ho14 (below_size (pB HB.out))); replace HB := Am (below_step (pB HB.out) hb); clear hb ho14) | ((with_reducible refine gate_builtin (b := .append) (xs := #[.tmp 11, .tmp 12]) rfl ?_); (try (refine gate_guard (by rfl) ?_; dsimp only)); at_builtin; refine Kd.R_append_rows (Kd.int .u8) (w0 := w) w.heap.size rfl (.tmp 11) (.tmp 12) 22 5 (.int .u8 0) 1 rfl Try.underlying22 info5 rfl (by decide) (by omega) v414 y413 l0 _ _ _ (fun _ => True) (fun _ => False) rfl rfl ?aO ?aR (fun _ _ h => h) (fun _ h => h.elim) ?aF ?aB ?aS ?aL ?_; (case aR => exact pC (Kd.C_below HR0.out HB.out)); (case aB => exact (pB HB.out)); (case aF => exact (fun _ _ => trivial)); (case aO => exact (pR Af.out)); (case aS => exact (below_size (pB HB.out))); (case aL => have := LMc5.out; omega); intro v417 w15 ho hb hg hat; rw [← Ny416.out] at ho; replace HB := Am (hb); have Aa := Am (ho); clear Af ho hb hg hat; obtain ⟨Ai, Aj, Ak⟩ := Kd.R_slice Aa.out; subst Ak) | ((with_reducible refine gate_callee (f := 6) rfl ?_); refine goesL_ (some 14) rfl rfl Try.func6 (by kernel_rfl) rfl #[.slice Ai y416.length Aj] rfl pL ?_; (with_reducible refine (entry_Get.calls k _ _ y416 t419 t420 _ ?Ad ?Ae A6.out).mono ?_); (case Ad => exact pC (Kd.R_reads' Aa.out).2.2); (case Ae => exact (Kd.R_reads' Aa.out).2.1); rintro e w17 ⟨v421, rfl, ho0, hb⟩; refine ⟨_, rfl, ?_⟩; have Ab := Am (Kd.S_lower (Kd.S_new' ho0 (Kd.R_lt (pR Aa.out))) (below_size (pB HB.out))); replace Aa := bRa Aa hb; replace HB := Am (below_step (pB HB.out) hb); (try clear hb); (try clear hb2); (try clear hk); (try clear hi); (try clear ho0)) | ((with_reducible refine gate_callee (f := 7) rfl ?_); refine goesL_ (some 18) rfl rfl Try.func7 (by kernel_rfl) rfl #[.slice A0 l0.length c0] rfl pL ?_; (with_reducible refine (garnerref06_Get.calls k _ _ l0 t423 _ ?Ad ?Ae A7.out).mono ?_); (case Ad => exact pC (Kd.C_below HR0.out HB.out)); (case Ae => exact HC0.out); rintro e w18 ⟨v424, rfl, ho0, hb⟩; refine ⟨_, rfl, ?_⟩; have Ac := Am (Kd.S_lower (Kd.S_new' (Kd.S_new' ho0 (Kd.R_lt (pR Aa.out))) (Kd.S_lt (by (with_reducible repeat (first | apply Kd.S_alloc | apply Kd.S_drewN | apply Kd.S_drew)); exact Ab.out))) (below_size (pB HB.out))); replace Aa := bRa Aa hb; replace Ab := Am (Kd.S_elder' (by (with_reducible repeat (first | apply Kd.S_alloc | apply Kd.S_drewN | apply Kd.S_drew)); exact Ab.out) (Kd.S_base ho0) hb); replace HB := Am (below_step (pB HB.out) hb); (try clear hb); (try clear hb2); (try clear hk); (try clear hi); (try clear ho0); obtain ⟨Al, An, Ao⟩ := Kd.S_slice Ab.out; subst Ao; obtain ⟨Ap, Aq, Ar⟩ := Kd.S_slice Ac.out; subst Ar) | ((with_reducible refine gate_callee (f := 8) rfl ?_); refine goesL_ (some 21) rfl rfl Try.func8 (by kernel_rfl) rfl #[.slice Al t419.length An, .slice Ap t423.length Aq] rfl pL ?_; (with_reducible refine (garnerref06_Same.calls k _ _ t419 _ _ t423 true _ ?Ad ?Ae ?Ag ?Ah A8.out).mono ?_); (case Ad => repeat (first | exact (Kd.S_reads' Ab.out).2.2 | (with_reducible refine Kd.C_alloc ?_ _) | (with_reducible refine Kd.C_drewN ?_ _) | (with_reducible refine Kd.C_drew ?_))); (case Ae => exact (Kd.S_reads' Ab.out).2.1); (case Ag => repeat (first | exact (Kd.S_reads' Ac.out).2.2 | (with_reducible refine Kd.C_alloc ?_ _) | (with_reducible refine Kd.C_drewN ?_ _) | (with_reducible refine Kd.C_drew ?_))); (case Ah => exact (Kd.S_reads' Ac.out).2.1); rintro e w21 ⟨rfl, hb⟩; refine ⟨_, rfl, ?_⟩; replace Aa := bRa Aa hb; replace Ab := Am (Kd.S_below (by (with_reducible repeat (first | apply Kd.S_alloc | apply Kd.S_drewN | apply Kd.S_drew)); exact Ab.out) hb); replace Ac := Am (Kd.S_below (by (with_reducible repeat (first | apply Kd.S_alloc | apply Kd.S_drewN | apply Kd.S_drew)); exact Ac.out) hb); replace HB := Am (below_step (pB HB.out) hb); (try clear hb); (try clear hb2); (try clear hk); (try clear hi)) | (go_at_call 5; (with_reducible refine (garnerlaw06_awake.calls k  t427 _ A12.out).mono ?_); rintro e w22 ⟨rfl, hb⟩; replace Aa := bRa Aa hb; replace Ab := Am (Kd.S_below (by (with_reducible repeat (first | apply Kd.S_alloc | apply Kd.S_drewN | apply Kd.S_drew)); exact Ab.out) hb); replace Ac := Am (Kd.S_below (by (with_reducible repeat (first | apply Kd.S_alloc | apply Kd.S_drewN | apply Kd.S_drew)); exact Ac.out) hb); replace HB := Am (below_step (pB HB.out) hb); (try clear hb); (try clear hb2); (try clear hk); (try clear hi)))
 go_ret
 exact ⟨pX, pB HB.out⟩
/-- THE ONE PURE STATEMENT of garnerlaw06_EntryGets: yours. -/
def garnerlaw06_EntryGets.Pure : Prop := ∀ (l0 : List Int), l0.length ≤ maxLen → l0.length * 1 ≤ 140737488351232 → (∀ x ∈ l0, (Lit.int .u8 x).wf = true) → ∃ k, garnerlaw06_EntryGets.f k l0 = some true
theorem garnerlaw06_EntryGets.walk (P : garnerlaw06_EntryGets.Pure) (a0 : Option Addr) (len0 cap0 : Nat) (z0 : List Int) (w : World) (w0 : (a0 = none ∧ len0 = 0 ∧ cap0 = 0 ∧ z0 = []) ∨ ∃ x, a0 = some x ∧ len0 ≤ cap0 ∧ cap0 ≤ maxLen ∧ z0.length = cap0 ∧ (∀ i, i < z0.length → w.cell? (x.add i) = some (.int .u8 (z0.getD i 0))) ∧ ∀ n ∈ z0, (Lit.int .u8 n).wf = true) (y0 : len0 * 1 ≤ 140737488351232) :
  Calls Try.prog 3 #[.slice a0 len0 cap0] w fun e w' => e = .returned (.bool true) ∧ Below w.heap.size w w' := by
 obtain ⟨l0, rfl, hr0, hm0, hw0, hc0⟩ := ReadsInt.ofRowC w0
 obtain ⟨k, h⟩ := P l0 hm0 y0 hw0
 refine (garnerlaw06_EntryGets.calls k _ _ l0 true w (Kd.C_of_reads (d := (0 : Int)) (h1 := fun _ => rfl) hr0) hc0 h).mono ?_
 rintro e w' ⟨rfl, hd⟩
 exact ⟨rfl, hd⟩
end Go.Proofs.Ytpplclcgkcjmpaa.PEntryGets
