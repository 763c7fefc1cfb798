/- What the law reaches, as plain Lean functions, and that the machine's calls answer just that. -/
import Derived.Test.YtjebpaahpehfnaaPRelayPutsx0
import Derived.Test.YtjebpaahpehfnaaPRelayPutsx2
import Derived.Test.YtjebpaahpehfnaaPRelayPutsx7
import Derived.Test.YtjebpaahpehfnaaPRelayPutsx8
import Derived.Test.YtjebpaahpehfnaaPRelayPutsx9
import Derived.Test.YtjebpaahpehfnaaPRelayPutsx10
import Derived.Test.YtjebpaahpehfnaaPRelayPutsx11
namespace Go.Proofs.Ytjebpaahpehfnaa.PRelayPuts
open Go.RowKit Go.Proofs.YtjebpaahpehfnaaW.PrintWords Go.Proofs.YtjebpaahpehfnaaW.PrintLast Go.Proofs.YtjebpaahpehfnaaW.PrintMore
attribute [local go_sem] max2_int min2_int max_two min_two max_three min_three max_four min_four
set_option linter.unusedVariables false
set_option linter.unusedSimpArgs false
attribute [local go_sem] wrap64_l1 wrap64_l2 wrap64_l3 wrap64_l4 wrap64_l5
def garnerlaw21_RelayPuts.f (k : Nat) (a0_0 : Int) (l0_1 : List (S46)) : Option (Bool) := if (l0_1.length : Int) > 100 then ((garnerlaw21_awake.f).bind fun t412 => (some t412)) else ((relay_Put.f k a0_0 l0_1).bind fun bt413 => ((garnerref21_May.f k a0_0 l0_1).bind fun t417 => (if t417 = true then ((relay_Get.f k bt413.1).bind fun bt419 => (if bt413.2 = 0 then ((garnerref21_Put.f k a0_0 l0_1).bind fun t424 => ((garnerref02_Bytes.f k bt413.1 t424).bind fun t427 => (if t427 = true then (if bt419.2.2 = 0 then (if bt419.1 = a0_0 then ((garnerref21_Hops.f k bt419.2.1 l0_1).bind fun t428 => (if t428 = true then ((garnerlaw21_awake.f).bind fun t429 => (some t429)) else (some false))) else (some false)) else (some false)) else (some false)))) else (some false))) else (if bt413.2 = 1 then (if (bt413.1.length : Int) = 0 then ((garnerlaw21_awake.f).bind fun t418 => (some t418)) else (some false)) else (some false)))))
theorem garnerlaw21_RelayPuts.mono : ∀ a0 a1 k, LeO (garnerlaw21_RelayPuts.f k a0 a1) (garnerlaw21_RelayPuts.f (k + 1) a0 a1) := by
 intro a0 a1 k
 unfold garnerlaw21_RelayPuts.f
 repeat' first
   | (with_reducible exact garnerref02_Bytes.mono _ _ _)
   | (with_reducible exact garnerref21_Hops.mono _ _ _)
   | (with_reducible exact garnerref21_May.mono _ _ _)
   | (with_reducible exact garnerref21_Put.mono _ _ _)
   | (with_reducible exact relay_Get.mono _ _)
   | (with_reducible exact relay_Put.mono _ _ _)
   | (with_reducible exact LeO.refl _)
   | (with_reducible exact LeO.none _)
   | (with_reducible refine LeO.ite ?_ ?_)
   | (with_reducible refine LeO.bind ?_ (fun _ => ?_))
   | exact garnerref02_Bytes.mono _ _ _
   | exact garnerref21_Hops.mono _ _ _
   | exact garnerref21_May.mono _ _ _
   | exact garnerref21_Put.mono _ _ _
   | exact relay_Get.mono _ _
   | exact relay_Put.mono _ _ _
   | exact LeO.none _
   | refine LeO.ite ?_ ?_
   | refine LeO.bind ?_ (fun _ => ?_)
set_option maxHeartbeats 8000000 in
set_option maxRecDepth 100000 in
theorem garnerlaw21_RelayPuts.calls (k : Nat) (a0_0 : Int) (A0_1 : Option Addr) (c0_1 : Nat) (l0_1 : List (S46)) (r : Bool) (w : World) (hr0_1 : Kd.C k46 w A0_1 l0_1.length l0_1) (hc0_1 : l0_1.length ≤ c0_1) (h : garnerlaw21_RelayPuts.f k a0_0 l0_1 = some r) :
  Calls Try.prog 4 #[.agg #[.int .i64 a0_0, .slice A0_1 l0_1.length c0_1]] w fun e w' => e = .returned (.bool r) ∧ Below w.heap.size w w' := by
 have hu29 := Try.underlying29
 have Af := Am hr0_1
 have Ag := Am hc0_1
 clear hr0_1 hc0_1
 have HB := Am (Below.refl w.heap.size w)
 have H : (if (l0_1.length : Int) > 100 then ((garnerlaw21_awake.f).bind fun t412 => (some t412)) else ((relay_Put.f k a0_0 l0_1).bind fun bt413 => ((garnerref21_May.f k a0_0 l0_1).bind fun t417 => (if t417 = true then ((relay_Get.f k bt413.1).bind fun bt419 => (if bt413.2 = 0 then ((garnerref21_Put.f k a0_0 l0_1).bind fun t424 => ((garnerref02_Bytes.f k bt413.1 t424).bind fun t427 => (if t427 = true then (if bt419.2.2 = 0 then (if bt419.1 = a0_0 then ((garnerref21_Hops.f k bt419.2.1 l0_1).bind fun t428 => (if t428 = true then ((garnerlaw21_awake.f).bind fun t429 => (some t429)) else (some false))) else (some false)) else (some false)) else (some false)))) else (some false))) else (if bt413.2 = 1 then (if (bt413.1.length : Int) = 0 then ((garnerlaw21_awake.f).bind fun t418 => (some t418)) else (some false)) else (some false)))))) = some r := h
 clear h
 by_cases c2 : (l0_1.length : Int) > 100
 ·rw [if_pos c2] at H
  have c2b0 : decide (100 < (l0_1.length : Int)) = true := decide_eq_true c2
  have c2b1 : decide (100 < l0_1.length) = true := decide_eq_true (by omega)
  clear c2
  replace H := Option.bind_eq_some_iff.mp H
  obtain ⟨t412, A30, H⟩ := H
  replace H : (some t412) = some r := H
  have A3 := Am A30
  clear A30
  obtain rfl := Option.some.inj H
  go_enter Try.func4, Try.ntmps4
  go_wp2_with (first | ((with_reducible refine gate_dst (N := 1) rfl ?_); (try (refine gate_guard (by rfl) ?_; dsimp only)); refine box_event ?hg (N := 1) ?hd (cs := #[.int .i64 a0_0, .slice A0_1 l0_1.length c0_1]) (t := 29) ?hr ?_; (case hd => rfl); (case hg => rfl); (case hr => first | (go_simp; done) | (go_simp; rfl)); intro Aj hg w4 hbox hb; have Aa := Am (hbox); have Ak := Am ((by rw [hg]; exact (below_size (pB HB.out)) : w.heap.size ≤ Aj)); replace HB := Am (below_step (pB HB.out) hb); have Ac := Ak; clear hb hbox hg; obtain ⟨_, _⟩ := bc2 Aa.out; obtain ⟨_, _⟩ := bf2 Aa.out) | ((with_reducible refine gate_callee (f := 5) rfl ?_); refine goesL_ (some 12) rfl rfl Try.func5 (by kernel_rfl) rfl #[] rfl pL ?_; (with_reducible refine (garnerlaw21_awake.calls  t412 _ A3.out).mono ?_); rintro e w6 ⟨rfl, hb⟩; refine ⟨_, rfl, ?_⟩; replace Aa := kBa Aa hb; replace HB := Am (below_step (pE HB.out Ac.out) hb); (try clear hb); (try clear hb2); (try clear hk); (try clear hi)))
  go_ret
  exact ⟨pX, pE HB.out Ac.out⟩
 rw [if_neg c2] at H
 have c2b0 : decide (100 < (l0_1.length : Int)) = false := decide_eq_false c2
 have c2b1 : decide (100 < l0_1.length) = false := decide_eq_false (by omega)
 clear c2
 replace H := Option.bind_eq_some_iff.mp H
 obtain ⟨⟨t413, t414⟩, A70, H⟩ := H
 replace H : ((garnerref21_May.f k a0_0 l0_1).bind fun t417 => (if t417 = true then ((relay_Get.f k t413).bind fun bt419 => (if t414 = 0 then ((garnerref21_Put.f k a0_0 l0_1).bind fun t424 => ((garnerref02_Bytes.f k t413 t424).bind fun t427 => (if t427 = true then (if bt419.2.2 = 0 then (if bt419.1 = a0_0 then ((garnerref21_Hops.f k bt419.2.1 l0_1).bind fun t428 => (if t428 = true then ((garnerlaw21_awake.f).bind fun t429 => (some t429)) else (some false))) else (some false)) else (some false)) else (some false)))) else (some false))) else (if t414 = 1 then (if (t413.length : Int) = 0 then ((garnerlaw21_awake.f).bind fun t418 => (some t418)) else (some false)) else (some false)))) = some r := H
 have A7 := Am A70
 clear A70
 replace H := Option.bind_eq_some_iff.mp H
 obtain ⟨t417, A80, H⟩ := H
 replace H : (if t417 = true then ((relay_Get.f k t413).bind fun bt419 => (if t414 = 0 then ((garnerref21_Put.f k a0_0 l0_1).bind fun t424 => ((garnerref02_Bytes.f k t413 t424).bind fun t427 => (if t427 = true then (if bt419.2.2 = 0 then (if bt419.1 = a0_0 then ((garnerref21_Hops.f k bt419.2.1 l0_1).bind fun t428 => (if t428 = true then ((garnerlaw21_awake.f).bind fun t429 => (some t429)) else (some false))) else (some false)) else (some false)) else (some false)))) else (some false))) else (if t414 = 1 then (if (t413.length : Int) = 0 then ((garnerlaw21_awake.f).bind fun t418 => (some t418)) else (some false)) else (some false))) = some r := H
 have A8 := Am A80
 clear A80
 by_cases c9 : t417 = true
 rotate_left
 ·replace c9 := Bool.eq_false_iff.mpr c9
  subst c9
  have H1 : (if t414 = 1 then (if (t413.length : Int) = 0 then ((garnerlaw21_awake.f).bind fun t418 => (some t418)) else (some false)) else (some false)) = some r := by rw [if_neg (show ¬ (false = true) by decide)] at H; exact H
  clear H
  have H := H1
  clear H1
  by_cases c83 : t414 = 1
  rotate_left
  ·rw [if_neg c83] at H
   have c83b0 : (t414 == 1) = false := beq_eq_false_iff_ne.mpr c83
   have c83b1 : (t414 != 1) = true := bne_iff_ne.mpr c83
   obtain rfl := Option.some.inj H
   go_enter Try.func4, Try.ntmps4
   go_wp2_with (first | ((with_reducible refine gate_dst (N := 1) rfl ?_); (try (refine gate_guard (by rfl) ?_; dsimp only)); refine box_event ?hg (N := 1) ?hd (cs := #[.int .i64 a0_0, .slice A0_1 l0_1.length c0_1]) (t := 29) ?hr ?_; (case hd => rfl); (case hg => rfl); (case hr => first | (go_simp; done) | (go_simp; rfl)); intro Aj hg w99 hbox hb; have Aa := Am (hbox); have Ak := Am ((by rw [hg]; exact (below_size (pB HB.out)) : w.heap.size ≤ Aj)); replace HB := Am (below_step (pB HB.out) hb); have Ac := Ak; clear hb hbox hg; obtain ⟨_, _⟩ := bc2 Aa.out; obtain ⟨_, _⟩ := bf2 Aa.out) | ((with_reducible refine gate_callee (f := 9) rfl ?_); refine goesL_ (some 18) rfl rfl Try.func9 (by kernel_rfl) rfl #[.int .i64 a0_0, .slice A0_1 l0_1.length c0_1] rfl pL ?_; (with_reducible refine (relay_Put.calls k a0_0 _ _ l0_1 t413 t414 _ ?Ad ?Ae A7.out).mono ?_); (case Ad => exact pC (Kd.C_below Af.out HB.out)); (case Ae => exact Ag.out); rintro e w101 ⟨v415, rfl, ho0, hb⟩; refine ⟨_, rfl, ?_⟩; have Ab := Am (Kd.R_lower ho0 (below_size (pE HB.out Ac.out))); replace Aa := kBa Aa hb; replace HB := Am (below_step (pE HB.out Ac.out) hb); (try clear hb); (try clear hb2); (try clear hk); (try clear hi); (try clear ho0); obtain ⟨_, _⟩ := bc2 Aa.out; obtain ⟨_, _⟩ := bf2 Aa.out) | ((with_reducible refine gate_callee (f := 10) rfl ?_); refine goesL_ (some 22) rfl rfl Try.func10 (by kernel_rfl) rfl #[.agg #[.int .i64 a0_0, .slice A0_1 l0_1.length c0_1]] rfl pL ?_; (with_reducible refine (garnerref21_May.calls k a0_0 _ _ l0_1 false _ ?Ad ?Ae A8.out).mono ?_); (case Ad => exact pC (Kd.C_below Af.out HB.out)); (case Ae => exact Ag.out); rintro e w103 ⟨rfl, hb⟩; refine ⟨_, rfl, ?_⟩; replace Ab := bRa Ab hb; replace Aa := kBa Aa hb; replace HB := Am (below_step (pE HB.out Ac.out) hb); (try clear hb); (try clear hb2); (try clear hk); (try clear hi)))
   go_ret
   exact ⟨pX, pE HB.out Ac.out⟩
  rw [if_pos c83] at H
  have c83b0 : (t414 == 1) = true := beq_iff_eq.mpr c83
  have c83b1 : (t414 != 1) = false := bne_eq_false_iff_eq.mpr c83
  clear c83
  by_cases c84 : (t413.length : Int) = 0
  rotate_left
  ·rw [if_neg c84] at H
   have c84b0 : ((t413.length : Int) == 0) = false := beq_eq_false_iff_ne.mpr c84
   have c84b1 : ((t413.length : Int) != 0) = true := bne_iff_ne.mpr c84
   have c84b2 : ¬ (t413 = []) := fun h_ => c84 (by rw [h_]; rfl)
   obtain rfl := Option.some.inj H
   go_enter Try.func4, Try.ntmps4
   go_wp2_with (first | ((with_reducible refine gate_dst (N := 1) rfl ?_); (try (refine gate_guard (by rfl) ?_; dsimp only)); refine box_event ?hg (N := 1) ?hd (cs := #[.int .i64 a0_0, .slice A0_1 l0_1.length c0_1]) (t := 29) ?hr ?_; (case hd => rfl); (case hg => rfl); (case hr => first | (go_simp; done) | (go_simp; rfl)); intro Aj hg w93 hbox hb; have Aa := Am (hbox); have Ak := Am ((by rw [hg]; exact (below_size (pB HB.out)) : w.heap.size ≤ Aj)); replace HB := Am (below_step (pB HB.out) hb); have Ac := Ak; clear hb hbox hg; obtain ⟨_, _⟩ := bc2 Aa.out; obtain ⟨_, _⟩ := bf2 Aa.out) | ((with_reducible refine gate_callee (f := 9) rfl ?_); refine goesL_ (some 18) rfl rfl Try.func9 (by kernel_rfl) rfl #[.int .i64 a0_0, .slice A0_1 l0_1.length c0_1] rfl pL ?_; (with_reducible refine (relay_Put.calls k a0_0 _ _ l0_1 t413 t414 _ ?Ad ?Ae A7.out).mono ?_); (case Ad => exact pC (Kd.C_below Af.out HB.out)); (case Ae => exact Ag.out); rintro e w95 ⟨v415, rfl, ho0, hb⟩; refine ⟨_, rfl, ?_⟩; have Ab := Am (Kd.R_lower ho0 (below_size (pE HB.out Ac.out))); replace Aa := kBa Aa hb; replace HB := Am (below_step (pE HB.out Ac.out) hb); (try clear hb); (try clear hb2); (try clear hk); (try clear hi); (try clear ho0); obtain ⟨_, _⟩ := bc2 Aa.out; obtain ⟨_, _⟩ := bf2 Aa.out) | ((with_reducible refine gate_callee (f := 10) rfl ?_); refine goesL_ (some 22) rfl rfl Try.func10 (by kernel_rfl) rfl #[.agg #[.int .i64 a0_0, .slice A0_1 l0_1.length c0_1]] rfl pL ?_; (with_reducible refine (garnerref21_May.calls k a0_0 _ _ l0_1 false _ ?Ad ?Ae A8.out).mono ?_); (case Ad => exact pC (Kd.C_below Af.out HB.out)); (case Ae => exact Ag.out); rintro e w97 ⟨rfl, hb⟩; refine ⟨_, rfl, ?_⟩; replace Ab := bRa Ab hb; replace Aa := kBa Aa hb; replace HB := Am (below_step (pE HB.out Ac.out) hb); (try clear hb); (try clear hb2); (try clear hk); (try clear hi); obtain ⟨Ao98, co98, Bh⟩ := Kd.R_slice Ab.out; subst Bh))
   go_ret
   exact ⟨pX, pE HB.out Ac.out⟩
  rw [if_pos c84] at H
  have c84b0 : ((t413.length : Int) == 0) = true := beq_iff_eq.mpr c84
  have c84b1 : ((t413.length : Int) != 0) = false := bne_eq_false_iff_eq.mpr c84
  clear c84
  replace H := Option.bind_eq_some_iff.mp H
  obtain ⟨t418, A850, H⟩ := H
  replace H : (some t418) = some r := H
  have A85 := Am A850
  clear A850
  obtain rfl := Option.some.inj H
  go_enter Try.func4, Try.ntmps4
  go_wp2_with (first | ((with_reducible refine gate_dst (N := 1) rfl ?_); (try (refine gate_guard (by rfl) ?_; dsimp only)); refine box_event ?hg (N := 1) ?hd (cs := #[.int .i64 a0_0, .slice A0_1 l0_1.length c0_1]) (t := 29) ?hr ?_; (case hd => rfl); (case hg => rfl); (case hr => first | (go_simp; done) | (go_simp; rfl)); intro Aj hg w86 hbox hb; have Aa := Am (hbox); have Ak := Am ((by rw [hg]; exact (below_size (pB HB.out)) : w.heap.size ≤ Aj)); replace HB := Am (below_step (pB HB.out) hb); have Ac := Ak; clear hb hbox hg; obtain ⟨_, _⟩ := bc2 Aa.out; obtain ⟨_, _⟩ := bf2 Aa.out) | ((with_reducible refine gate_callee (f := 9) rfl ?_); refine goesL_ (some 18) rfl rfl Try.func9 (by kernel_rfl) rfl #[.int .i64 a0_0, .slice A0_1 l0_1.length c0_1] rfl pL ?_; (with_reducible refine (relay_Put.calls k a0_0 _ _ l0_1 t413 t414 _ ?Ad ?Ae A7.out).mono ?_); (case Ad => exact pC (Kd.C_below Af.out HB.out)); (case Ae => exact Ag.out); rintro e w88 ⟨v415, rfl, ho0, hb⟩; refine ⟨_, rfl, ?_⟩; have Ab := Am (Kd.R_lower ho0 (below_size (pE HB.out Ac.out))); replace Aa := kBa Aa hb; replace HB := Am (below_step (pE HB.out Ac.out) hb); (try clear hb); (try clear hb2); (try clear hk); (try clear hi); (try clear ho0); obtain ⟨_, _⟩ := bc2 Aa.out; obtain ⟨_, _⟩ := bf2 Aa.out) | ((with_reducible refine gate_callee (f := 10) rfl ?_); refine goesL_ (some 22) rfl rfl Try.func10 (by kernel_rfl) rfl #[.agg #[.int .i64 a0_0, .slice A0_1 l0_1.length c0_1]] rfl pL ?_; (with_reducible refine (garnerref21_May.calls k a0_0 _ _ l0_1 false _ ?Ad ?Ae A8.out).mono ?_); (case Ad => exact pC (Kd.C_below Af.out HB.out)); (case Ae => exact Ag.out); rintro e w90 ⟨rfl, hb⟩; refine ⟨_, rfl, ?_⟩; replace Ab := bRa Ab hb; replace Aa := kBa Aa hb; replace HB := Am (below_step (pE HB.out Ac.out) hb); (try clear hb); (try clear hb2); (try clear hk); (try clear hi); obtain ⟨Ao91, co91, Bg⟩ := Kd.R_slice Ab.out; subst Bg) | (go_at_call 5; (with_reducible refine (garnerlaw21_awake.calls  t418 _ A85.out).mono ?_); rintro e w92 ⟨rfl, hb⟩; replace Ab := bRa Ab hb; replace Aa := kBa Aa hb; replace HB := Am (below_step (pE HB.out Ac.out) hb); (try clear hb); (try clear hb2); (try clear hk); (try clear hi)))
  go_ret
  exact ⟨pX, pE HB.out Ac.out⟩
 subst c9
 have H1 : ((relay_Get.f k t413).bind fun bt419 => (if t414 = 0 then ((garnerref21_Put.f k a0_0 l0_1).bind fun t424 => ((garnerref02_Bytes.f k t413 t424).bind fun t427 => (if t427 = true then (if bt419.2.2 = 0 then (if bt419.1 = a0_0 then ((garnerref21_Hops.f k bt419.2.1 l0_1).bind fun t428 => (if t428 = true then ((garnerlaw21_awake.f).bind fun t429 => (some t429)) else (some false))) else (some false)) else (some false)) else (some false)))) else (some false))) = some r := by rw [if_pos rfl] at H; exact H
 clear H
 have H := H1
 clear H1
 replace H := Option.bind_eq_some_iff.mp H
 obtain ⟨⟨t419, t420, t421⟩, A100, H⟩ := H
 replace H : (if t414 = 0 then ((garnerref21_Put.f k a0_0 l0_1).bind fun t424 => ((garnerref02_Bytes.f k t413 t424).bind fun t427 => (if t427 = true then (if t421 = 0 then (if t419 = a0_0 then ((garnerref21_Hops.f k t420 l0_1).bind fun t428 => (if t428 = true then ((garnerlaw21_awake.f).bind fun t429 => (some t429)) else (some false))) else (some false)) else (some false)) else (some false)))) else (some false)) = some r := H
 have A10 := Am A100
 clear A100
 by_cases c11 : t414 = 0
 rotate_left
 ·rw [if_neg c11] at H
  have c11b0 : (t414 == 0) = false := beq_eq_false_iff_ne.mpr c11
  have c11b1 : (t414 != 0) = true := bne_iff_ne.mpr c11
  obtain rfl := Option.some.inj H
  go_enter Try.func4, Try.ntmps4
  go_wp2_with (first | ((with_reducible refine gate_dst (N := 1) rfl ?_); (try (refine gate_guard (by rfl) ?_; dsimp only)); refine box_event ?hg (N := 1) ?hd (cs := #[.int .i64 a0_0, .slice A0_1 l0_1.length c0_1]) (t := 29) ?hr ?_; (case hd => rfl); (case hg => rfl); (case hr => first | (go_simp; done) | (go_simp; rfl)); intro Aj hg w76 hbox hb; have Aa := Am (hbox); have Ak := Am ((by rw [hg]; exact (below_size (pB HB.out)) : w.heap.size ≤ Aj)); replace HB := Am (below_step (pB HB.out) hb); have Ac := Ak; clear hb hbox hg; obtain ⟨_, _⟩ := bc2 Aa.out; obtain ⟨_, _⟩ := bf2 Aa.out) | ((with_reducible refine gate_callee (f := 9) rfl ?_); refine goesL_ (some 18) rfl rfl Try.func9 (by kernel_rfl) rfl #[.int .i64 a0_0, .slice A0_1 l0_1.length c0_1] rfl pL ?_; (with_reducible refine (relay_Put.calls k a0_0 _ _ l0_1 t413 t414 _ ?Ad ?Ae A7.out).mono ?_); (case Ad => exact pC (Kd.C_below Af.out HB.out)); (case Ae => exact Ag.out); rintro e w78 ⟨v415, rfl, ho0, hb⟩; refine ⟨_, rfl, ?_⟩; have Ab := Am (Kd.R_lower ho0 (below_size (pE HB.out Ac.out))); replace Aa := kBa Aa hb; replace HB := Am (below_step (pE HB.out Ac.out) hb); (try clear hb); (try clear hb2); (try clear hk); (try clear hi); (try clear ho0); obtain ⟨_, _⟩ := bc2 Aa.out; obtain ⟨_, _⟩ := bf2 Aa.out) | ((with_reducible refine gate_callee (f := 10) rfl ?_); refine goesL_ (some 22) rfl rfl Try.func10 (by kernel_rfl) rfl #[.agg #[.int .i64 a0_0, .slice A0_1 l0_1.length c0_1]] rfl pL ?_; (with_reducible refine (garnerref21_May.calls k a0_0 _ _ l0_1 true _ ?Ad ?Ae A8.out).mono ?_); (case Ad => exact pC (Kd.C_below Af.out HB.out)); (case Ae => exact Ag.out); rintro e w80 ⟨rfl, hb⟩; refine ⟨_, rfl, ?_⟩; replace Ab := bRa Ab hb; replace Aa := kBa Aa hb; replace HB := Am (below_step (pE HB.out Ac.out) hb); (try clear hb); (try clear hb2); (try clear hk); (try clear hi); obtain ⟨Bd, Be, Bf⟩ := Kd.R_slice Ab.out; subst Bf) | ((with_reducible refine gate_callee (f := 6) rfl ?_); refine goesL_ (some 36) rfl rfl Try.func6 (by kernel_rfl) rfl #[.slice Bd t413.length Be] rfl pL ?_; (with_reducible refine (relay_Get.calls k _ _ t413 t419 t420 t421 _ ?Ad ?Ae A10.out).mono ?_); (case Ad => exact pC (Kd.R_reads' Ab.out).2.2); (case Ae => exact (Kd.R_reads' Ab.out).2.1); rintro e w82 ⟨v422, rfl, ho0, hb⟩; refine ⟨_, rfl, ?_⟩; replace Ab := bRa Ab hb; have Ah := Am (Kd.R_lower ho0 (below_size (pE HB.out Ac.out))); replace Aa := kBa Aa hb; replace HB := Am (below_step (pE HB.out Ac.out) hb); (try clear hb); (try clear hb2); (try clear hk); (try clear hi); (try clear ho0)))
  go_ret
  exact ⟨pX, pE HB.out Ac.out⟩
 rw [if_pos c11] at H
 have c11b0 : (t414 == 0) = true := beq_iff_eq.mpr c11
 have c11b1 : (t414 != 0) = false := bne_eq_false_iff_eq.mpr c11
 clear c11
 replace H := Option.bind_eq_some_iff.mp H
 obtain ⟨t424, A120, H⟩ := H
 replace H : ((garnerref02_Bytes.f k t413 t424).bind fun t427 => (if t427 = true then (if t421 = 0 then (if t419 = a0_0 then ((garnerref21_Hops.f k t420 l0_1).bind fun t428 => (if t428 = true then ((garnerlaw21_awake.f).bind fun t429 => (some t429)) else (some false))) else (some false)) else (some false)) else (some false))) = some r := H
 have A12 := Am A120
 clear A120
 replace H := Option.bind_eq_some_iff.mp H
 obtain ⟨t427, A130, H⟩ := H
 replace H : (if t427 = true then (if t421 = 0 then (if t419 = a0_0 then ((garnerref21_Hops.f k t420 l0_1).bind fun t428 => (if t428 = true then ((garnerlaw21_awake.f).bind fun t429 => (some t429)) else (some false))) else (some false)) else (some false)) else (some false)) = some r := H
 have A13 := Am A130
 clear A130
 by_cases c14 : t427 = true
 rotate_left
 ·replace c14 := Bool.eq_false_iff.mpr c14
  subst c14
  have H1 : (some false) = some r := by rw [if_neg (show ¬ (false = true) by decide)] at H; exact H
  clear H
  have H := H1
  clear H1
  obtain rfl := Option.some.inj H
  go_enter Try.func4, Try.ntmps4
  go_wp2_with (first | ((with_reducible refine gate_dst (N := 1) rfl ?_); (try (refine gate_guard (by rfl) ?_; dsimp only)); refine box_event ?hg (N := 1) ?hd (cs := #[.int .i64 a0_0, .slice A0_1 l0_1.length c0_1]) (t := 29) ?hr ?_; (case hd => rfl); (case hg => rfl); (case hr => first | (go_simp; done) | (go_simp; rfl)); intro Aj hg w66 hbox hb; have Aa := Am (hbox); have Ak := Am ((by rw [hg]; exact (below_size (pB HB.out)) : w.heap.size ≤ Aj)); replace HB := Am (below_step (pB HB.out) hb); have Ac := Ak; clear hb hbox hg; obtain ⟨_, _⟩ := bc2 Aa.out; obtain ⟨_, _⟩ := bf2 Aa.out) | ((with_reducible refine gate_callee (f := 9) rfl ?_); refine goesL_ (some 18) rfl rfl Try.func9 (by kernel_rfl) rfl #[.int .i64 a0_0, .slice A0_1 l0_1.length c0_1] rfl pL ?_; (with_reducible refine (relay_Put.calls k a0_0 _ _ l0_1 t413 t414 _ ?Ad ?Ae A7.out).mono ?_); (case Ad => exact pC (Kd.C_below Af.out HB.out)); (case Ae => exact Ag.out); rintro e w68 ⟨v415, rfl, ho0, hb⟩; refine ⟨_, rfl, ?_⟩; have Ab := Am (Kd.R_lower ho0 (below_size (pE HB.out Ac.out))); replace Aa := kBa Aa hb; replace HB := Am (below_step (pE HB.out Ac.out) hb); (try clear hb); (try clear hb2); (try clear hk); (try clear hi); (try clear ho0); obtain ⟨_, _⟩ := bc2 Aa.out; obtain ⟨_, _⟩ := bf2 Aa.out) | ((with_reducible refine gate_callee (f := 10) rfl ?_); refine goesL_ (some 22) rfl rfl Try.func10 (by kernel_rfl) rfl #[.agg #[.int .i64 a0_0, .slice A0_1 l0_1.length c0_1]] rfl pL ?_; (with_reducible refine (garnerref21_May.calls k a0_0 _ _ l0_1 true _ ?Ad ?Ae A8.out).mono ?_); (case Ad => exact pC (Kd.C_below Af.out HB.out)); (case Ae => exact Ag.out); rintro e w70 ⟨rfl, hb⟩; refine ⟨_, rfl, ?_⟩; replace Ab := bRa Ab hb; replace Aa := kBa Aa hb; replace HB := Am (below_step (pE HB.out Ac.out) hb); (try clear hb); (try clear hb2); (try clear hk); (try clear hi); obtain ⟨A9, Ba, Bb⟩ := Kd.R_slice Ab.out; subst Bb) | ((with_reducible refine gate_callee (f := 6) rfl ?_); refine goesL_ (some 36) rfl rfl Try.func6 (by kernel_rfl) rfl #[.slice A9 t413.length Ba] rfl pL ?_; (with_reducible refine (relay_Get.calls k _ _ t413 t419 t420 t421 _ ?Ad ?Ae A10.out).mono ?_); (case Ad => exact pC (Kd.R_reads' Ab.out).2.2); (case Ae => exact (Kd.R_reads' Ab.out).2.1); rintro e w72 ⟨v422, rfl, ho0, hb⟩; refine ⟨_, rfl, ?_⟩; replace Ab := bRa Ab hb; have Ah := Am (Kd.R_lower ho0 (below_size (pE HB.out Ac.out))); replace Aa := kBa Aa hb; replace HB := Am (below_step (pE HB.out Ac.out) hb); (try clear hb); (try clear hb2); (try clear hk); (try clear hi); (try clear ho0); obtain ⟨_, _⟩ := bc2 Aa.out; obtain ⟨_, _⟩ := bf2 Aa.out) | (go_at_call 12; (with_reducible refine (garnerref21_Put.calls k a0_0 _ _ l0_1 t424 _ ?Ad ?Ae A12.out).mono ?_); (case Ad => exact pC (Kd.C_below Af.out HB.out)); (case Ae => exact Ag.out); rintro e w74 ⟨v425, rfl, ho0, hb⟩; replace Ah := bRa Ah hb; have Ai := Am (Kd.R_lower (Kd.R_new' ho0 (Kd.R_lt (pR Ab.out))) (below_size (pE HB.out Ac.out))); replace Ab := Am (Kd.R_elder' (pR Ab.out) (Kd.R_base ho0) hb); replace Aa := kBa Aa hb; replace HB := Am (below_step (pE HB.out Ac.out) hb); (try clear hb); (try clear hb2); (try clear hk); (try clear hi); (try clear ho0); obtain ⟨Ao75, co75, Bc⟩ := Kd.R_slice Ai.out; subst Bc) | (go_at_call 11; (with_reducible refine (garnerref02_Bytes.calls k _ _ t413 _ _ t424 false _ ?Ad ?Ae ?Al ?An A13.out).mono ?_); (case Ad => exact pC (Kd.R_reads' Ab.out).2.2); (case Ae => exact (Kd.R_reads' Ab.out).2.1); (case Al => exact pC (Kd.R_reads' Ai.out).2.2); (case An => exact (Kd.R_reads' Ai.out).2.1); rintro e w' ⟨rfl, ⟨nd, rfl⟩⟩))
  go_ret
  exact ⟨pX, pE HB.out Ac.out⟩
 subst c14
 have H1 : (if t421 = 0 then (if t419 = a0_0 then ((garnerref21_Hops.f k t420 l0_1).bind fun t428 => (if t428 = true then ((garnerlaw21_awake.f).bind fun t429 => (some t429)) else (some false))) else (some false)) else (some false)) = some r := by rw [if_pos rfl] at H; exact H
 clear H
 have H := H1
 clear H1
 by_cases c15 : t421 = 0
 rotate_left
 ·rw [if_neg c15] at H
  have c15b0 : (t421 == 0) = false := beq_eq_false_iff_ne.mpr c15
  have c15b1 : (t421 != 0) = true := bne_iff_ne.mpr c15
  obtain rfl := Option.some.inj H
  go_enter Try.func4, Try.ntmps4
  go_wp2_with (first | ((with_reducible refine gate_dst (N := 1) rfl ?_); (try (refine gate_guard (by rfl) ?_; dsimp only)); refine box_event ?hg (N := 1) ?hd (cs := #[.int .i64 a0_0, .slice A0_1 l0_1.length c0_1]) (t := 29) ?hr ?_; (case hd => rfl); (case hg => rfl); (case hr => first | (go_simp; done) | (go_simp; rfl)); intro Aj hg w56 hbox hb; have Aa := Am (hbox); have Ak := Am ((by rw [hg]; exact (below_size (pB HB.out)) : w.heap.size ≤ Aj)); replace HB := Am (below_step (pB HB.out) hb); have Ac := Ak; clear hb hbox hg; obtain ⟨_, _⟩ := bc2 Aa.out; obtain ⟨_, _⟩ := bf2 Aa.out) | ((with_reducible refine gate_callee (f := 9) rfl ?_); refine goesL_ (some 18) rfl rfl Try.func9 (by kernel_rfl) rfl #[.int .i64 a0_0, .slice A0_1 l0_1.length c0_1] rfl pL ?_; (with_reducible refine (relay_Put.calls k a0_0 _ _ l0_1 t413 t414 _ ?Ad ?Ae A7.out).mono ?_); (case Ad => exact pC (Kd.C_below Af.out HB.out)); (case Ae => exact Ag.out); rintro e w58 ⟨v415, rfl, ho0, hb⟩; refine ⟨_, rfl, ?_⟩; have Ab := Am (Kd.R_lower ho0 (below_size (pE HB.out Ac.out))); replace Aa := kBa Aa hb; replace HB := Am (below_step (pE HB.out Ac.out) hb); (try clear hb); (try clear hb2); (try clear hk); (try clear hi); (try clear ho0); obtain ⟨_, _⟩ := bc2 Aa.out; obtain ⟨_, _⟩ := bf2 Aa.out) | ((with_reducible refine gate_callee (f := 10) rfl ?_); refine goesL_ (some 22) rfl rfl Try.func10 (by kernel_rfl) rfl #[.agg #[.int .i64 a0_0, .slice A0_1 l0_1.length c0_1]] rfl pL ?_; (with_reducible refine (garnerref21_May.calls k a0_0 _ _ l0_1 true _ ?Ad ?Ae A8.out).mono ?_); (case Ad => exact pC (Kd.C_below Af.out HB.out)); (case Ae => exact Ag.out); rintro e w60 ⟨rfl, hb⟩; refine ⟨_, rfl, ?_⟩; replace Ab := bRa Ab hb; replace Aa := kBa Aa hb; replace HB := Am (below_step (pE HB.out Ac.out) hb); (try clear hb); (try clear hb2); (try clear hk); (try clear hi); obtain ⟨A2, A4, A5⟩ := Kd.R_slice Ab.out; subst A5) | ((with_reducible refine gate_callee (f := 6) rfl ?_); refine goesL_ (some 36) rfl rfl Try.func6 (by kernel_rfl) rfl #[.slice A2 t413.length A4] rfl pL ?_; (with_reducible refine (relay_Get.calls k _ _ t413 t419 t420 t421 _ ?Ad ?Ae A10.out).mono ?_); (case Ad => exact pC (Kd.R_reads' Ab.out).2.2); (case Ae => exact (Kd.R_reads' Ab.out).2.1); rintro e w62 ⟨v422, rfl, ho0, hb⟩; refine ⟨_, rfl, ?_⟩; replace Ab := bRa Ab hb; have Ah := Am (Kd.R_lower ho0 (below_size (pE HB.out Ac.out))); replace Aa := kBa Aa hb; replace HB := Am (below_step (pE HB.out Ac.out) hb); (try clear hb); (try clear hb2); (try clear hk); (try clear hi); (try clear ho0); obtain ⟨_, _⟩ := bc2 Aa.out; obtain ⟨_, _⟩ := bf2 Aa.out) | (go_at_call 12; (with_reducible refine (garnerref21_Put.calls k a0_0 _ _ l0_1 t424 _ ?Ad ?Ae A12.out).mono ?_); (case Ad => exact pC (Kd.C_below Af.out HB.out)); (case Ae => exact Ag.out); rintro e w64 ⟨v425, rfl, ho0, hb⟩; replace Ah := bRa Ah hb; have Ai := Am (Kd.R_lower (Kd.R_new' ho0 (Kd.R_lt (pR Ab.out))) (below_size (pE HB.out Ac.out))); replace Ab := Am (Kd.R_elder' (pR Ab.out) (Kd.R_base ho0) hb); replace Aa := kBa Aa hb; replace HB := Am (below_step (pE HB.out Ac.out) hb); (try clear hb); (try clear hb2); (try clear hk); (try clear hi); (try clear ho0); obtain ⟨Ao65, co65, A6⟩ := Kd.R_slice Ai.out; subst A6) | (go_at_call 11; (with_reducible refine (garnerref02_Bytes.calls k _ _ t413 _ _ t424 true _ ?Ad ?Ae ?Al ?An A13.out).mono ?_); (case Ad => exact pC (Kd.R_reads' Ab.out).2.2); (case Ae => exact (Kd.R_reads' Ab.out).2.1); (case Al => exact pC (Kd.R_reads' Ai.out).2.2); (case An => exact (Kd.R_reads' Ai.out).2.1); rintro e w' ⟨rfl, ⟨nd, rfl⟩⟩))
  go_ret
  exact ⟨pX, pE HB.out Ac.out⟩
 rw [if_pos c15] at H
 have c15b0 : (t421 == 0) = true := beq_iff_eq.mpr c15
 have c15b1 : (t421 != 0) = false := bne_eq_false_iff_eq.mpr c15
 clear c15
 by_cases c16 : t419 = a0_0
 rotate_left
 ·rw [if_neg c16] at H
  have c16b0 : (t419 == a0_0) = false := beq_eq_false_iff_ne.mpr c16
  have c16b1 : (t419 != a0_0) = true := bne_iff_ne.mpr c16
  obtain rfl := Option.some.inj H
  go_enter Try.func4, Try.ntmps4
  go_wp2_with (first | ((with_reducible refine gate_dst (N := 1) rfl ?_); (try (refine gate_guard (by rfl) ?_; dsimp only)); refine box_event ?hg (N := 1) ?hd (cs := #[.int .i64 a0_0, .slice A0_1 l0_1.length c0_1]) (t := 29) ?hr ?_; (case hd => rfl); (case hg => rfl); (case hr => first | (go_simp; done) | (go_simp; rfl)); intro Aj hg w45 hbox hb; have Aa := Am (hbox); have Ak := Am ((by rw [hg]; exact (below_size (pB HB.out)) : w.heap.size ≤ Aj)); replace HB := Am (below_step (pB HB.out) hb); have Ac := Ak; clear hb hbox hg; obtain ⟨_, _⟩ := bc2 Aa.out; obtain ⟨_, _⟩ := bf2 Aa.out) | ((with_reducible refine gate_callee (f := 9) rfl ?_); refine goesL_ (some 18) rfl rfl Try.func9 (by kernel_rfl) rfl #[.int .i64 a0_0, .slice A0_1 l0_1.length c0_1] rfl pL ?_; (with_reducible refine (relay_Put.calls k a0_0 _ _ l0_1 t413 t414 _ ?Ad ?Ae A7.out).mono ?_); (case Ad => exact pC (Kd.C_below Af.out HB.out)); (case Ae => exact Ag.out); rintro e w47 ⟨v415, rfl, ho0, hb⟩; refine ⟨_, rfl, ?_⟩; have Ab := Am (Kd.R_lower ho0 (below_size (pE HB.out Ac.out))); replace Aa := kBa Aa hb; replace HB := Am (below_step (pE HB.out Ac.out) hb); (try clear hb); (try clear hb2); (try clear hk); (try clear hi); (try clear ho0); obtain ⟨_, _⟩ := bc2 Aa.out; obtain ⟨_, _⟩ := bf2 Aa.out) | ((with_reducible refine gate_callee (f := 10) rfl ?_); refine goesL_ (some 22) rfl rfl Try.func10 (by kernel_rfl) rfl #[.agg #[.int .i64 a0_0, .slice A0_1 l0_1.length c0_1]] rfl pL ?_; (with_reducible refine (garnerref21_May.calls k a0_0 _ _ l0_1 true _ ?Ad ?Ae A8.out).mono ?_); (case Ad => exact pC (Kd.C_below Af.out HB.out)); (case Ae => exact Ag.out); rintro e w49 ⟨rfl, hb⟩; refine ⟨_, rfl, ?_⟩; replace Ab := bRa Ab hb; replace Aa := kBa Aa hb; replace HB := Am (below_step (pE HB.out Ac.out) hb); (try clear hb); (try clear hb2); (try clear hk); (try clear hi); obtain ⟨Ay, Az, A0⟩ := Kd.R_slice Ab.out; subst A0) | ((with_reducible refine gate_callee (f := 6) rfl ?_); refine goesL_ (some 36) rfl rfl Try.func6 (by kernel_rfl) rfl #[.slice Ay t413.length Az] rfl pL ?_; (with_reducible refine (relay_Get.calls k _ _ t413 t419 t420 t421 _ ?Ad ?Ae A10.out).mono ?_); (case Ad => exact pC (Kd.R_reads' Ab.out).2.2); (case Ae => exact (Kd.R_reads' Ab.out).2.1); rintro e w51 ⟨v422, rfl, ho0, hb⟩; refine ⟨_, rfl, ?_⟩; replace Ab := bRa Ab hb; have Ah := Am (Kd.R_lower ho0 (below_size (pE HB.out Ac.out))); replace Aa := kBa Aa hb; replace HB := Am (below_step (pE HB.out Ac.out) hb); (try clear hb); (try clear hb2); (try clear hk); (try clear hi); (try clear ho0); obtain ⟨_, _⟩ := bc2 Aa.out; obtain ⟨_, _⟩ := bf2 Aa.out) | (go_at_call 12; (with_reducible refine (garnerref21_Put.calls k a0_0 _ _ l0_1 t424 _ ?Ad ?Ae A12.out).mono ?_); (case Ad => exact pC (Kd.C_below Af.out HB.out)); (case Ae => exact Ag.out); rintro e w53 ⟨v425, rfl, ho0, hb⟩; replace Ah := bRa Ah hb; have Ai := Am (Kd.R_lower (Kd.R_new' ho0 (Kd.R_lt (pR Ab.out))) (below_size (pE HB.out Ac.out))); replace Ab := Am (Kd.R_elder' (pR Ab.out) (Kd.R_base ho0) hb); replace Aa := kBa Aa hb; replace HB := Am (below_step (pE HB.out Ac.out) hb); (try clear hb); (try clear hb2); (try clear hk); (try clear hi); (try clear ho0); obtain ⟨Ao54, co54, A1⟩ := Kd.R_slice Ai.out; subst A1) | (go_at_call 11; (with_reducible refine (garnerref02_Bytes.calls k _ _ t413 _ _ t424 true _ ?Ad ?Ae ?Al ?An A13.out).mono ?_); (case Ad => exact pC (Kd.R_reads' Ab.out).2.2); (case Ae => exact (Kd.R_reads' Ab.out).2.1); (case Al => exact pC (Kd.R_reads' Ai.out).2.2); (case An => exact (Kd.R_reads' Ai.out).2.1); rintro e w' ⟨rfl, ⟨nd, rfl⟩⟩; obtain ⟨_, _⟩ := bc2 Aa.out; obtain ⟨_, _⟩ := bf2 Aa.out))
  go_ret
  exact ⟨pX, pE HB.out Ac.out⟩
 rw [if_pos c16] at H
 have c16b0 : (t419 == a0_0) = true := beq_iff_eq.mpr c16
 have c16b1 : (t419 != a0_0) = false := bne_eq_false_iff_eq.mpr c16
 clear c16
 replace H := Option.bind_eq_some_iff.mp H
 obtain ⟨t428, A170, H⟩ := H
 replace H : (if t428 = true then ((garnerlaw21_awake.f).bind fun t429 => (some t429)) else (some false)) = some r := H
 have A17 := Am A170
 clear A170
 by_cases c18 : t428 = true
 rotate_left
 ·replace c18 := Bool.eq_false_iff.mpr c18
  subst c18
  have H1 : (some false) = some r := by rw [if_neg (show ¬ (false = true) by decide)] at H; exact H
  clear H
  have H := H1
  clear H1
  obtain rfl := Option.some.inj H
  go_enter Try.func4, Try.ntmps4
  go_wp2_with (first | ((with_reducible refine gate_dst (N := 1) rfl ?_); (try (refine gate_guard (by rfl) ?_; dsimp only)); refine box_event ?hg (N := 1) ?hd (cs := #[.int .i64 a0_0, .slice A0_1 l0_1.length c0_1]) (t := 29) ?hr ?_; (case hd => rfl); (case hg => rfl); (case hr => first | (go_simp; done) | (go_simp; rfl)); intro Aj hg w33 hbox hb; have Aa := Am (hbox); have Ak := Am ((by rw [hg]; exact (below_size (pB HB.out)) : w.heap.size ≤ Aj)); replace HB := Am (below_step (pB HB.out) hb); have Ac := Ak; clear hb hbox hg; obtain ⟨_, _⟩ := bc2 Aa.out; obtain ⟨_, _⟩ := bf2 Aa.out) | ((with_reducible refine gate_callee (f := 9) rfl ?_); refine goesL_ (some 18) rfl rfl Try.func9 (by kernel_rfl) rfl #[.int .i64 a0_0, .slice A0_1 l0_1.length c0_1] rfl pL ?_; (with_reducible refine (relay_Put.calls k a0_0 _ _ l0_1 t413 t414 _ ?Ad ?Ae A7.out).mono ?_); (case Ad => exact pC (Kd.C_below Af.out HB.out)); (case Ae => exact Ag.out); rintro e w35 ⟨v415, rfl, ho0, hb⟩; refine ⟨_, rfl, ?_⟩; have Ab := Am (Kd.R_lower ho0 (below_size (pE HB.out Ac.out))); replace Aa := kBa Aa hb; replace HB := Am (below_step (pE HB.out Ac.out) hb); (try clear hb); (try clear hb2); (try clear hk); (try clear hi); (try clear ho0); obtain ⟨_, _⟩ := bc2 Aa.out; obtain ⟨_, _⟩ := bf2 Aa.out) | ((with_reducible refine gate_callee (f := 10) rfl ?_); refine goesL_ (some 22) rfl rfl Try.func10 (by kernel_rfl) rfl #[.agg #[.int .i64 a0_0, .slice A0_1 l0_1.length c0_1]] rfl pL ?_; (with_reducible refine (garnerref21_May.calls k a0_0 _ _ l0_1 true _ ?Ad ?Ae A8.out).mono ?_); (case Ad => exact pC (Kd.C_below Af.out HB.out)); (case Ae => exact Ag.out); rintro e w37 ⟨rfl, hb⟩; refine ⟨_, rfl, ?_⟩; replace Ab := bRa Ab hb; replace Aa := kBa Aa hb; replace HB := Am (below_step (pE HB.out Ac.out) hb); (try clear hb); (try clear hb2); (try clear hk); (try clear hi); obtain ⟨At, Au, Av⟩ := Kd.R_slice Ab.out; subst Av) | ((with_reducible refine gate_callee (f := 6) rfl ?_); refine goesL_ (some 36) rfl rfl Try.func6 (by kernel_rfl) rfl #[.slice At t413.length Au] rfl pL ?_; (with_reducible refine (relay_Get.calls k _ _ t413 t419 t420 t421 _ ?Ad ?Ae A10.out).mono ?_); (case Ad => exact pC (Kd.R_reads' Ab.out).2.2); (case Ae => exact (Kd.R_reads' Ab.out).2.1); rintro e w39 ⟨v422, rfl, ho0, hb⟩; refine ⟨_, rfl, ?_⟩; replace Ab := bRa Ab hb; have Ah := Am (Kd.R_lower ho0 (below_size (pE HB.out Ac.out))); replace Aa := kBa Aa hb; replace HB := Am (below_step (pE HB.out Ac.out) hb); (try clear hb); (try clear hb2); (try clear hk); (try clear hi); (try clear ho0); obtain ⟨_, _⟩ := bc2 Aa.out; obtain ⟨_, _⟩ := bf2 Aa.out) | (go_at_call 12; (with_reducible refine (garnerref21_Put.calls k a0_0 _ _ l0_1 t424 _ ?Ad ?Ae A12.out).mono ?_); (case Ad => exact pC (Kd.C_below Af.out HB.out)); (case Ae => exact Ag.out); rintro e w41 ⟨v425, rfl, ho0, hb⟩; replace Ah := bRa Ah hb; have Ai := Am (Kd.R_lower (Kd.R_new' ho0 (Kd.R_lt (pR Ab.out))) (below_size (pE HB.out Ac.out))); replace Ab := Am (Kd.R_elder' (pR Ab.out) (Kd.R_base ho0) hb); replace Aa := kBa Aa hb; replace HB := Am (below_step (pE HB.out Ac.out) hb); (try clear hb); (try clear hb2); (try clear hk); (try clear hi); (try clear ho0); obtain ⟨Ao42, co42, Aw⟩ := Kd.R_slice Ai.out; subst Aw) | (go_at_call 11; (with_reducible refine (garnerref02_Bytes.calls k _ _ t413 _ _ t424 true _ ?Ad ?Ae ?Al ?An A13.out).mono ?_); (case Ad => exact pC (Kd.R_reads' Ab.out).2.2); (case Ae => exact (Kd.R_reads' Ab.out).2.1); (case Al => exact pC (Kd.R_reads' Ai.out).2.2); (case An => exact (Kd.R_reads' Ai.out).2.1); rintro e w' ⟨rfl, ⟨nd, rfl⟩⟩; obtain ⟨_, _⟩ := bc2 Aa.out; obtain ⟨_, _⟩ := bf2 Aa.out; obtain ⟨Ao44, co44, Ax⟩ := Kd.R_slice Ah.out; subst Ax) | (go_at_call 8; (with_reducible refine (garnerref21_Hops.calls k _ _ t420 _ _ l0_1 false _ ?Ad ?Ae ?Al ?An A17.out).mono ?_); (case Ad => exact pC (Kd.R_reads' Ah.out).2.2); (case Ae => exact (Kd.R_reads' Ah.out).2.1); (case Al => repeat (first | exact (Kd.C_below Af.out (pE HB.out Ac.out)) | (with_reducible refine Kd.C_alloc ?_ _) | (with_reducible refine Kd.C_drewN ?_ _) | (with_reducible refine Kd.C_drew ?_))); (case An => exact Ag.out); rintro e w' ⟨rfl, ⟨nd, rfl⟩⟩))
  go_ret
  exact ⟨pX, pE HB.out Ac.out⟩
 subst c18
 have H1 : ((garnerlaw21_awake.f).bind fun t429 => (some t429)) = some r := by rw [if_pos rfl] at H; exact H
 clear H
 have H := H1
 clear H1
 replace H := Option.bind_eq_some_iff.mp H
 obtain ⟨t429, A190, H⟩ := H
 replace H : (some t429) = some r := H
 have A19 := Am A190
 clear A190
 obtain rfl := Option.some.inj H
 go_enter Try.func4, Try.ntmps4
 go_wp2_with (first | ((with_reducible refine gate_dst (N := 1) rfl ?_); (try (refine gate_guard (by rfl) ?_; dsimp only)); refine box_event ?hg (N := 1) ?hd (cs := #[.int .i64 a0_0, .slice A0_1 l0_1.length c0_1]) (t := 29) ?hr ?_; (case hd => rfl); (case hg => rfl); (case hr => first | (go_simp; done) | (go_simp; rfl)); intro Aj hg w20 hbox hb; have Aa := Am (hbox); have Ak := Am ((by rw [hg]; exact (below_size (pB HB.out)) : w.heap.size ≤ Aj)); replace HB := Am (below_step (pB HB.out) hb); have Ac := Ak; clear hb hbox hg; obtain ⟨_, _⟩ := bc2 Aa.out; obtain ⟨_, _⟩ := bf2 Aa.out) | ((with_reducible refine gate_callee (f := 9) rfl ?_); refine goesL_ (some 18) rfl rfl Try.func9 (by kernel_rfl) rfl #[.int .i64 a0_0, .slice A0_1 l0_1.length c0_1] rfl pL ?_; (with_reducible refine (relay_Put.calls k a0_0 _ _ l0_1 t413 t414 _ ?Ad ?Ae A7.out).mono ?_); (case Ad => exact pC (Kd.C_below Af.out HB.out)); (case Ae => exact Ag.out); rintro e w22 ⟨v415, rfl, ho0, hb⟩; refine ⟨_, rfl, ?_⟩; have Ab := Am (Kd.R_lower ho0 (below_size (pE HB.out Ac.out))); replace Aa := kBa Aa hb; replace HB := Am (below_step (pE HB.out Ac.out) hb); (try clear hb); (try clear hb2); (try clear hk); (try clear hi); (try clear ho0); obtain ⟨_, _⟩ := bc2 Aa.out; obtain ⟨_, _⟩ := bf2 Aa.out) | ((with_reducible refine gate_callee (f := 10) rfl ?_); refine goesL_ (some 22) rfl rfl Try.func10 (by kernel_rfl) rfl #[.agg #[.int .i64 a0_0, .slice A0_1 l0_1.length c0_1]] rfl pL ?_; (with_reducible refine (garnerref21_May.calls k a0_0 _ _ l0_1 true _ ?Ad ?Ae A8.out).mono ?_); (case Ad => exact pC (Kd.C_below Af.out HB.out)); (case Ae => exact Ag.out); rintro e w24 ⟨rfl, hb⟩; refine ⟨_, rfl, ?_⟩; replace Ab := bRa Ab hb; replace Aa := kBa Aa hb; replace HB := Am (below_step (pE HB.out Ac.out) hb); (try clear hb); (try clear hb2); (try clear hk); (try clear hi); obtain ⟨Ao, Ap, Aq⟩ := Kd.R_slice Ab.out; subst Aq) | ((with_reducible refine gate_callee (f := 6) rfl ?_); refine goesL_ (some 36) rfl rfl Try.func6 (by kernel_rfl) rfl #[.slice Ao t413.length Ap] rfl pL ?_; (with_reducible refine (relay_Get.calls k _ _ t413 t419 t420 t421 _ ?Ad ?Ae A10.out).mono ?_); (case Ad => exact pC (Kd.R_reads' Ab.out).2.2); (case Ae => exact (Kd.R_reads' Ab.out).2.1); rintro e w26 ⟨v422, rfl, ho0, hb⟩; refine ⟨_, rfl, ?_⟩; replace Ab := bRa Ab hb; have Ah := Am (Kd.R_lower ho0 (below_size (pE HB.out Ac.out))); replace Aa := kBa Aa hb; replace HB := Am (below_step (pE HB.out Ac.out) hb); (try clear hb); (try clear hb2); (try clear hk); (try clear hi); (try clear ho0); obtain ⟨_, _⟩ := bc2 Aa.out; obtain ⟨_, _⟩ := bf2 Aa.out) | (go_at_call 12; (with_reducible refine (garnerref21_Put.calls k a0_0 _ _ l0_1 t424 _ ?Ad ?Ae A12.out).mono ?_); (case Ad => exact pC (Kd.C_below Af.out HB.out)); (case Ae => exact Ag.out); rintro e w28 ⟨v425, rfl, ho0, hb⟩; replace Ah := bRa Ah hb; have Ai := Am (Kd.R_lower (Kd.R_new' ho0 (Kd.R_lt (pR Ab.out))) (below_size (pE HB.out Ac.out))); replace Ab := Am (Kd.R_elder' (pR Ab.out) (Kd.R_base ho0) hb); replace Aa := kBa Aa hb; replace HB := Am (below_step (pE HB.out Ac.out) hb); (try clear hb); (try clear hb2); (try clear hk); (try clear hi); (try clear ho0); obtain ⟨Ao29, co29, Ar⟩ := Kd.R_slice Ai.out; subst Ar) | (go_at_call 11; (with_reducible refine (garnerref02_Bytes.calls k _ _ t413 _ _ t424 true _ ?Ad ?Ae ?Al ?An A13.out).mono ?_); (case Ad => exact pC (Kd.R_reads' Ab.out).2.2); (case Ae => exact (Kd.R_reads' Ab.out).2.1); (case Al => exact pC (Kd.R_reads' Ai.out).2.2); (case An => exact (Kd.R_reads' Ai.out).2.1); rintro e w' ⟨rfl, ⟨nd, rfl⟩⟩; obtain ⟨_, _⟩ := bc2 Aa.out; obtain ⟨_, _⟩ := bf2 Aa.out; obtain ⟨Ao31, co31, As⟩ := Kd.R_slice Ah.out; subst As) | (go_at_call 8; (with_reducible refine (garnerref21_Hops.calls k _ _ t420 _ _ l0_1 true _ ?Ad ?Ae ?Al ?An A17.out).mono ?_); (case Ad => exact pC (Kd.R_reads' Ah.out).2.2); (case Ae => exact (Kd.R_reads' Ah.out).2.1); (case Al => repeat (first | exact (Kd.C_below Af.out (pE HB.out Ac.out)) | (with_reducible refine Kd.C_alloc ?_ _) | (with_reducible refine Kd.C_drewN ?_ _) | (with_reducible refine Kd.C_drew ?_))); (case An => exact Ag.out); rintro e w' ⟨rfl, ⟨nd, rfl⟩⟩) | (go_at_call 5; (with_reducible refine (garnerlaw21_awake.calls  t429 _ A19.out).mono ?_); rintro e w32 ⟨rfl, hb⟩; replace Ab := bRa Ab hb; replace Ah := bRa Ah hb; replace Ai := bRa Ai hb; replace Aa := kBa Aa hb; replace HB := Am (below_step (pE HB.out Ac.out) hb); (try clear hb); (try clear hb2); (try clear hk); (try clear hi)))
 go_ret
 exact ⟨pX, pE HB.out Ac.out⟩
end Go.Proofs.Ytjebpaahpehfnaa.PRelayPuts
