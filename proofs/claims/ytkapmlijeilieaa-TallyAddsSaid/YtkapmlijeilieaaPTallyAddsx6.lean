/- What the law reaches, as plain Lean functions, and that the machine's calls answer just that. -/
import Derived.Test.YtkapmlijeilieaaPTallyAddsx0
import Derived.Test.YtkapmlijeilieaaPTallyAddsx2
import Derived.Test.YtkapmlijeilieaaPTallyAddsx3
import Derived.Test.YtkapmlijeilieaaPTallyAddsx4
import Derived.Test.YtkapmlijeilieaaPTallyAddsx5
namespace Go.Proofs.Ytkapmlijeilieaa.PTallyAdds
open Go.RowKit Go.Proofs.YtkapmlijeilieaaW.PrintWords Go.Proofs.YtkapmlijeilieaaW.PrintLast Go.Proofs.YtkapmlijeilieaaW.PrintMore
attribute [local go_sem] max2_int min2_int max_two min_two max_three min_three max_four min_four
set_option linter.unusedVariables false
set_option linter.unusedSimpArgs false
attribute [local go_sem] wrap64_l1 wrap64_l2 wrap64_l3 wrap64_l4 wrap64_l5
def garnerlaw09_TallyAdds.j0 : Nat → List (S46) → List (S43) → Int → List (S46) → Int → Bool → Option (Bool)
 | 0, _, _, _, _, _, _ => none
 | k + 1, x0, x1, x2, x7, x8, x30 => if x30 = true then (if x8 = 1 then (if (x7.length : Int) = 0 then ((garnerref09_May.f k x0).bind fun t209 => (if t209 = true then ((garnerlaw09_awake.f k).bind fun t210 => (some t210)) else ((tally_Check.f k x0).bind fun t211 => (if t211 = 1 then ((tally_Get.f k x0 x2).bind fun t212 => (if t212 = 0 then ((garnerlaw09_awake.f k).bind fun t213 => (some t213)) else (some false))) else (some false))))) else (some false)) else (some false)) else ((garnerref09_Add.f k x0 x1).bind fun t214 => ((garnerref09_May.f k t214).bind fun t217 => (if t217 = true then ((tally_Of.f k x1).bind fun bt219 => (if x8 = 0 then (if bt219.2 = 0 then ((garnerref09_Same.f k x7 t214).bind fun t223 => (if t223 = true then ((garnerref09_Add.f k ([] : List (S46)) x1).bind fun t224 => ((garnerref09_Same.f k bt219.1 t224).bind fun t227 => (if t227 = true then ((tally_Check.f k x0).bind fun t228 => (if t228 = 0 then ((tally_Get.f k x0 x2).bind fun t229 => ((garnerref09_Get.f k x0 x2).bind fun t230 => (if t229 = t230 then ((garnerlaw09_awake.f k).bind fun t231 => (some t231)) else (some false)))) else (some false))) else (some false)))) else (some false))) else (some false)) else (some false))) else (if x8 = 7 then (if (x7.length : Int) = 0 then ((garnerlaw09_awake.f k).bind fun t218 => (some t218)) else (some false)) else (some false)))))
def garnerlaw09_TallyAdds.f (k : Nat) (l0 : List (S46)) (l1 : List (S43)) (a2 : Int) : Option (Bool) := (garnerlaw09_light.f l0 l1).bind fun t201 => (if t201 = true then ((tally_Add.f k l0 l1).bind fun bt203 => ((garnerref09_May.f k l0).bind fun t207 => (if t207 = true then ((garnerref09_Points.f k l1).bind fun t208 => (garnerlaw09_TallyAdds.j0 k l0 l1 a2 bt203.1 bt203.2 (!t208))) else (garnerlaw09_TallyAdds.j0 k l0 l1 a2 bt203.1 bt203.2 true)))) else ((garnerlaw09_awake.f k).bind fun t202 => (some t202)))
theorem garnerlaw09_TallyAdds.mono_l : ∀ k, (∀ y0 y1 y2 y3 y4 y5, LeO (garnerlaw09_TallyAdds.j0 k y0 y1 y2 y3 y4 y5) (garnerlaw09_TallyAdds.j0 (k + 1) y0 y1 y2 y3 y4 y5))
 | 0 => fun _ _ _ _ _ _ r h => by simp [garnerlaw09_TallyAdds.j0] at h
 | k + 1 => by
  have ih0 := garnerlaw09_TallyAdds.mono_l k
  ·intro y0 y1 y2 y3 y4 y5
   unfold garnerlaw09_TallyAdds.j0
   repeat' first
   | (with_reducible exact ih0 _ _ _ _ _ _)
   | (with_reducible exact garnerlaw09_awake.mono _)
   | (with_reducible exact garnerref09_Add.mono _ _ _)
   | (with_reducible exact garnerref09_Get.mono _ _ _)
   | (with_reducible exact garnerref09_May.mono _ _)
   | (with_reducible exact garnerref09_Points.mono _ _)
   | (with_reducible exact garnerref09_Same.mono _ _ _)
   | (with_reducible exact tally_Add.mono _ _ _)
   | (with_reducible exact tally_Check.mono _ _)
   | (with_reducible exact tally_Get.mono _ _ _)
   | (with_reducible exact tally_Of.mono _ _)
   | (with_reducible exact LeO.refl _)
   | (with_reducible exact LeO.none _)
   | (with_reducible refine LeO.ite ?_ ?_)
   | (with_reducible refine LeO.bind ?_ (fun _ => ?_))
   | exact ih0 _ _ _ _ _ _
   | exact garnerlaw09_awake.mono _
   | exact garnerref09_Add.mono _ _ _
   | exact garnerref09_Get.mono _ _ _
   | exact garnerref09_May.mono _ _
   | exact garnerref09_Points.mono _ _
   | exact garnerref09_Same.mono _ _ _
   | exact tally_Add.mono _ _ _
   | exact tally_Check.mono _ _
   | exact tally_Get.mono _ _ _
   | exact tally_Of.mono _ _
   | exact LeO.none _
   | refine LeO.ite ?_ ?_
   | refine LeO.bind ?_ (fun _ => ?_)
theorem garnerlaw09_TallyAdds.mono : ∀ a0 a1 a2 k, LeO (garnerlaw09_TallyAdds.f k a0 a1 a2) (garnerlaw09_TallyAdds.f (k + 1) a0 a1 a2) := by
 intro a0 a1 a2 k
 have ih0 := garnerlaw09_TallyAdds.mono_l k
 unfold garnerlaw09_TallyAdds.f
 repeat' first
   | (with_reducible exact ih0 _ _ _ _ _ _)
   | (with_reducible exact garnerlaw09_awake.mono _)
   | (with_reducible exact garnerref09_Add.mono _ _ _)
   | (with_reducible exact garnerref09_Get.mono _ _ _)
   | (with_reducible exact garnerref09_May.mono _ _)
   | (with_reducible exact garnerref09_Points.mono _ _)
   | (with_reducible exact garnerref09_Same.mono _ _ _)
   | (with_reducible exact tally_Add.mono _ _ _)
   | (with_reducible exact tally_Check.mono _ _)
   | (with_reducible exact tally_Get.mono _ _ _)
   | (with_reducible exact tally_Of.mono _ _)
   | (with_reducible exact LeO.refl _)
   | (with_reducible exact LeO.none _)
   | (with_reducible refine LeO.ite ?_ ?_)
   | (with_reducible refine LeO.bind ?_ (fun _ => ?_))
   | exact ih0 _ _ _ _ _ _
   | exact garnerlaw09_awake.mono _
   | exact garnerref09_Add.mono _ _ _
   | exact garnerref09_Get.mono _ _ _
   | exact garnerref09_May.mono _ _
   | exact garnerref09_Points.mono _ _
   | exact garnerref09_Same.mono _ _ _
   | exact tally_Add.mono _ _ _
   | exact tally_Check.mono _ _
   | exact tally_Get.mono _ _ _
   | exact tally_Of.mono _ _
   | exact LeO.none _
   | refine LeO.ite ?_ ?_
   | refine LeO.bind ?_ (fun _ => ?_)
set_option maxHeartbeats 8000000 in
set_option maxRecDepth 100000 in
theorem garnerlaw09_TallyAdds.calls (k : Nat) (A0 : Option Addr) (c0 : Nat) (l0 : List (S46)) (A1 : Option Addr) (c1 : Nat) (l1 : List (S43)) (a2 : Int) (r : Bool) (w : World) (hr0 : Kd.C k46 w A0 l0.length l0) (hc0 : l0.length ≤ c0) (hr1 : Kd.C k43 w A1 l1.length l1) (hc1 : l1.length ≤ c1) (h : garnerlaw09_TallyAdds.f k l0 l1 a2 = some r) :
  Calls Try.prog 3 #[.slice A0 l0.length c0, .slice A1 l1.length c1, .int .i64 a2] w fun e w' => e = .returned (.bool r) ∧ Below w.heap.size w w' := by
 have HR0 := Am hr0
 have HC0 := Am hc0
 clear hr0 hc0
 have HR1 := Am hr1
 have HC1 := Am hc1
 clear hr1 hc1
 have HB := Am (Below.refl w.heap.size w)
 have H : ((garnerlaw09_light.f l0 l1).bind fun t201 => (if t201 = true then ((tally_Add.f k l0 l1).bind fun bt203 => ((garnerref09_May.f k l0).bind fun t207 => (if t207 = true then ((garnerref09_Points.f k l1).bind fun t208 => (garnerlaw09_TallyAdds.j0 k l0 l1 a2 bt203.1 bt203.2 (!t208))) else (garnerlaw09_TallyAdds.j0 k l0 l1 a2 bt203.1 bt203.2 true)))) else ((garnerlaw09_awake.f k).bind fun t202 => (some t202)))) = some r := h
 clear h
 replace H := Option.bind_eq_some_iff.mp H
 obtain ⟨t201, A40, H⟩ := H
 replace H : (if t201 = true then ((tally_Add.f k l0 l1).bind fun bt203 => ((garnerref09_May.f k l0).bind fun t207 => (if t207 = true then ((garnerref09_Points.f k l1).bind fun t208 => (garnerlaw09_TallyAdds.j0 k l0 l1 a2 bt203.1 bt203.2 (!t208))) else (garnerlaw09_TallyAdds.j0 k l0 l1 a2 bt203.1 bt203.2 true)))) else ((garnerlaw09_awake.f k).bind fun t202 => (some t202))) = some r := H
 have A4 := Am A40
 clear A40
 by_cases c5 : t201 = true
 rotate_left
 ·replace c5 := Bool.eq_false_iff.mpr c5
  subst c5
  have H1 : ((garnerlaw09_awake.f k).bind fun t202 => (some t202)) = some r := by rw [if_neg (show ¬ (false = true) by decide)] at H; exact H
  clear H
  have H := H1
  clear H1
  replace H := Option.bind_eq_some_iff.mp H
  obtain ⟨t202, A1090, H⟩ := H
  replace H : (some t202) = some r := H
  have A109 := Am A1090
  clear A1090
  obtain rfl := Option.some.inj H
  go_enter Try.func3, Try.ntmps3
  go_wp2_with (first | ((with_reducible refine gate_callee (f := 7) rfl ?_); refine goesL_ (some 14) rfl rfl Try.func7 (by kernel_rfl) rfl #[.slice A0 l0.length c0, .slice A1 l1.length c1] rfl pL ?_; (with_reducible refine (garnerlaw09_light.calls _ _ l0 _ _ l1 false _ ?Aa ?Ab ?Ae ?Ah A4.out).mono ?_); (case Aa => repeat (first | exact HR0.out | (with_reducible refine Kd.C_alloc ?_ _) | (with_reducible refine Kd.C_drewN ?_ _) | (with_reducible refine Kd.C_drew ?_))); (case Ab => exact HC0.out); (case Ae => repeat (first | exact HR1.out | (with_reducible refine Kd.C_alloc ?_ _) | (with_reducible refine Kd.C_drewN ?_ _) | (with_reducible refine Kd.C_drew ?_))); (case Ah => exact HC1.out); rintro e w' ⟨rfl, ⟨nd, rfl⟩⟩; refine ⟨_, rfl, ?_⟩) | ((with_reducible refine gate_callee (f := 8) rfl ?_); refine goesL_ (some 16) rfl rfl Try.func8 (by kernel_rfl) rfl #[] rfl pL ?_; (with_reducible refine (garnerlaw09_awake.calls k  t202 _ A109.out).mono ?_); rintro e w110 ⟨rfl, hb⟩; refine ⟨_, rfl, ?_⟩; replace HB := Am (below_step (pB HB.out) hb); (try clear hb); (try clear hb2); (try clear hk); (try clear hi)))
  go_ret
  exact ⟨pX, pB HB.out⟩
 subst c5
 have H1 : ((tally_Add.f k l0 l1).bind fun bt203 => ((garnerref09_May.f k l0).bind fun t207 => (if t207 = true then ((garnerref09_Points.f k l1).bind fun t208 => (garnerlaw09_TallyAdds.j0 k l0 l1 a2 bt203.1 bt203.2 (!t208))) else (garnerlaw09_TallyAdds.j0 k l0 l1 a2 bt203.1 bt203.2 true)))) = some r := by rw [if_pos rfl] at H; exact H
 clear H
 have H := H1
 clear H1
 replace H := Option.bind_eq_some_iff.mp H
 obtain ⟨⟨t203, t204⟩, A60, H⟩ := H
 replace H : ((garnerref09_May.f k l0).bind fun t207 => (if t207 = true then ((garnerref09_Points.f k l1).bind fun t208 => (garnerlaw09_TallyAdds.j0 k l0 l1 a2 t203 t204 (!t208))) else (garnerlaw09_TallyAdds.j0 k l0 l1 a2 t203 t204 true))) = some r := H
 have A6 := Am A60
 clear A60
 have HC7 := Am H
 clear H
 go_enter Try.func3, Try.ntmps3
 go_upto_region 4 with (first | ((with_reducible refine gate_callee (f := 7) rfl ?_); refine goesL_ (some 14) rfl rfl Try.func7 (by kernel_rfl) rfl #[.slice A0 l0.length c0, .slice A1 l1.length c1] rfl pL ?_; (with_reducible refine (garnerlaw09_light.calls _ _ l0 _ _ l1 true _ ?Aa ?Ab ?Ae ?Ah A4.out).mono ?_); (case Aa => repeat (first | exact HR0.out | (with_reducible refine Kd.C_alloc ?_ _) | (with_reducible refine Kd.C_drewN ?_ _) | (with_reducible refine Kd.C_drew ?_))); (case Ab => exact HC0.out); (case Ae => repeat (first | exact HR1.out | (with_reducible refine Kd.C_alloc ?_ _) | (with_reducible refine Kd.C_drewN ?_ _) | (with_reducible refine Kd.C_drew ?_))); (case Ah => exact HC1.out); rintro e w' ⟨rfl, ⟨nd, rfl⟩⟩; refine ⟨_, rfl, ?_⟩) | ((with_reducible refine gate_callee (f := 9) rfl ?_); refine goesL_ (some 20) rfl rfl Try.func9 (by kernel_rfl) rfl #[.slice A0 l0.length c0, .slice A1 l1.length c1] rfl pL ?_; (with_reducible refine (tally_Add.calls k _ _ l0 _ _ l1 t203 t204 _ ?Aa ?Ab ?Ae ?Ah A6.out).mono ?_); (case Aa => repeat (first | exact HR0.out | (with_reducible refine Kd.C_alloc ?_ _) | (with_reducible refine Kd.C_drewN ?_ _) | (with_reducible refine Kd.C_drew ?_))); (case Ab => exact HC0.out); (case Ae => repeat (first | exact HR1.out | (with_reducible refine Kd.C_alloc ?_ _) | (with_reducible refine Kd.C_drewN ?_ _) | (with_reducible refine Kd.C_drew ?_))); (case Ah => exact HC1.out); rintro e w8 ⟨v205, rfl, ho0, hb⟩; refine ⟨_, rfl, ?_⟩; have Ai := Am (Kd.R_lower ho0 (below_size (pB HB.out))); replace HB := Am (below_step (pB HB.out) hb); (try clear hb); (try clear hb2); (try clear hk); (try clear hi); (try clear ho0)))
 (try simp only [Act.put, List.setIfInBounds_toArray, List.set_cons_zero, List.set_cons_succ])
 go_cut [30] (fun v30 wc => ∃ (kq : Nat) (Aj : Bool), v30 = .bool Aj ∧ Aside0 (garnerlaw09_TallyAdds.j0 kq l0 l1 a2 t203 t204 Aj = some r) ∧ Aside0 (kq ≤ k) ∧ Aside0 (Kd.R k46 46 wc w.heap.size (fun _ => True) v205 t203) ∧ Aside0 (Below w.heap.size w wc))
 case first =>
  have H := HC7.out
  clear HC7
  replace H := Option.bind_eq_some_iff.mp H
  obtain ⟨t207, A90, H⟩ := H
  replace H : (if t207 = true then ((garnerref09_Points.f k l1).bind fun t208 => (garnerlaw09_TallyAdds.j0 k l0 l1 a2 t203 t204 (!t208))) else (garnerlaw09_TallyAdds.j0 k l0 l1 a2 t203 t204 true)) = some r := H
  have A9 := Am A90
  clear A90
  by_cases c10 : t207 = true
  rotate_left
  ·replace c10 := Bool.eq_false_iff.mpr c10
   subst c10
   have H1 : (garnerlaw09_TallyAdds.j0 k l0 l1 a2 t203 t204 true) = some r := by rw [if_neg (show ¬ (false = true) by decide)] at H; exact H
   clear H
   have H := H1
   clear H1
   have H' := Am H
   clear H
   go_wp2_with (first | ((with_reducible refine gate_callee (f := 10) rfl ?_); refine goesL_ (some 24) rfl rfl Try.func10 (by kernel_rfl) rfl #[.slice A0 l0.length c0] rfl pL ?_; (with_reducible refine (garnerref09_May.calls k _ _ l0 false _ ?Aa ?Ab A9.out).mono ?_); (case Aa => exact pC (Kd.C_below HR0.out HB.out)); (case Ab => exact HC0.out); rintro e w' ⟨rfl, ⟨nd, rfl⟩⟩; refine ⟨_, rfl, ?_⟩))
   go_meet
   case rel => exact ⟨_, (true), (by first | rfl | (simp; done) | (simp [*]; done)), H', ⟨by first | omega | exact Nat.le_refl _⟩, ⟨by (with_reducible repeat (first | apply Kd.R_alloc | apply Kd.R_drewN | apply Kd.R_drew)); exact Ai.out⟩, ⟨pB HB.out⟩⟩
  subst c10
  have H1 : ((garnerref09_Points.f k l1).bind fun t208 => (garnerlaw09_TallyAdds.j0 k l0 l1 a2 t203 t204 (!t208))) = some r := by rw [if_pos rfl] at H; exact H
  clear H
  have H := H1
  clear H1
  replace H := Option.bind_eq_some_iff.mp H
  obtain ⟨t208, A110, H⟩ := H
  replace H : (garnerlaw09_TallyAdds.j0 k l0 l1 a2 t203 t204 (!t208)) = some r := H
  have A11 := Am A110
  clear A110
  have H' := Am H
  clear H
  go_wp2_with (first | ((with_reducible refine gate_callee (f := 10) rfl ?_); refine goesL_ (some 24) rfl rfl Try.func10 (by kernel_rfl) rfl #[.slice A0 l0.length c0] rfl pL ?_; (with_reducible refine (garnerref09_May.calls k _ _ l0 true _ ?Aa ?Ab A9.out).mono ?_); (case Aa => exact pC (Kd.C_below HR0.out HB.out)); (case Ab => exact HC0.out); rintro e w' ⟨rfl, ⟨nd, rfl⟩⟩; refine ⟨_, rfl, ?_⟩) | (go_at_call 11; (with_reducible refine (garnerref09_Points.calls k _ _ l1 t208 _ ?Aa ?Ab A11.out).mono ?_); (case Aa => repeat (first | exact (Kd.C_below HR1.out (pB HB.out)) | (with_reducible refine Kd.C_alloc ?_ _) | (with_reducible refine Kd.C_drewN ?_ _) | (with_reducible refine Kd.C_drew ?_))); (case Ab => exact HC1.out); rintro e w12 ⟨rfl, hb⟩; replace Ai := bRa Ai hb; replace HB := Am (below_step (pB HB.out) hb); (try clear hb); (try clear hb2); (try clear hk); (try clear hi)))
  go_meet
  case rel => exact ⟨_, (!t208), (by first | rfl | (simp; done) | (simp [*]; done)), H', ⟨by first | omega | exact Nat.le_refl _⟩, ⟨by (with_reducible repeat (first | apply Kd.R_alloc | apply Kd.R_drewN | apply Kd.R_drew)); exact Ai.out⟩, ⟨pB HB.out⟩⟩
 case rest =>
  clear HC7
  try clear c1
  try clear p2
  try clear c3
  try clear c5
  try clear c7
  try clear c9
  try clear c10
  obtain ⟨kq, Aj, rfl, HA, HJ6, Ad, HB⟩ := hcut
  cases kq with
  | zero => exact absurd HA.out (by simp [garnerlaw09_TallyAdds.j0])
  | succ kj6 =>
   have H := HA.out
   clear HA
   simp only [garnerlaw09_TallyAdds.j0] at H
   by_cases c13 : Aj = true
   ·subst c13
    have H1 : (if t204 = 1 then (if (t203.length : Int) = 0 then ((garnerref09_May.f kj6 l0).bind fun t209 => (if t209 = true then ((garnerlaw09_awake.f kj6).bind fun t210 => (some t210)) else ((tally_Check.f kj6 l0).bind fun t211 => (if t211 = 1 then ((tally_Get.f kj6 l0 a2).bind fun t212 => (if t212 = 0 then ((garnerlaw09_awake.f kj6).bind fun t213 => (some t213)) else (some false))) else (some false))))) else (some false)) else (some false)) = some r := by rw [if_pos rfl] at H; exact H
    clear H
    have H := H1
    clear H1
    by_cases c14 : t204 = 1
    rotate_left
    ·rw [if_neg c14] at H
     have c14b0 : (t204 == 1) = false := beq_eq_false_iff_ne.mpr c14
     have c14b1 : (t204 != 1) = true := bne_iff_ne.mpr c14
     obtain rfl := Option.some.inj H
     go_wp2
     go_ret
     exact ⟨pX, pB HB.out⟩
    rw [if_pos c14] at H
    have c14b0 : (t204 == 1) = true := beq_iff_eq.mpr c14
    have c14b1 : (t204 != 1) = false := bne_eq_false_iff_eq.mpr c14
    clear c14
    by_cases c15 : (t203.length : Int) = 0
    rotate_left
    ·rw [if_neg c15] at H
     have c15b0 : ((t203.length : Int) == 0) = false := beq_eq_false_iff_ne.mpr c15
     have c15b1 : ((t203.length : Int) != 0) = true := bne_iff_ne.mpr c15
     have c15b2 : ¬ (t203 = []) := fun h_ => c15 (by rw [h_]; rfl)
     obtain rfl := Option.some.inj H
     obtain ⟨Ao35, co35, A2⟩ := Kd.R_slice Ad.out
     subst A2
     go_wp2
     go_ret
     exact ⟨pX, pB HB.out⟩
    rw [if_pos c15] at H
    have c15b0 : ((t203.length : Int) == 0) = true := beq_iff_eq.mpr c15
    have c15b1 : ((t203.length : Int) != 0) = false := bne_eq_false_iff_eq.mpr c15
    clear c15
    replace H := Option.bind_eq_some_iff.mp H
    obtain ⟨t209, A160, H⟩ := H
    replace H : (if t209 = true then ((garnerlaw09_awake.f kj6).bind fun t210 => (some t210)) else ((tally_Check.f kj6 l0).bind fun t211 => (if t211 = 1 then ((tally_Get.f kj6 l0 a2).bind fun t212 => (if t212 = 0 then ((garnerlaw09_awake.f kj6).bind fun t213 => (some t213)) else (some false))) else (some false)))) = some r := H
    have A16 := Am A160
    clear A160
    by_cases c17 : t209 = true
    ·subst c17
     have H1 : ((garnerlaw09_awake.f kj6).bind fun t210 => (some t210)) = some r := by rw [if_pos rfl] at H; exact H
     clear H
     have H := H1
     clear H1
     replace H := Option.bind_eq_some_iff.mp H
     obtain ⟨t210, A180, H⟩ := H
     replace H : (some t210) = some r := H
     have A18 := Am A180
     clear A180
     obtain rfl := Option.some.inj H
     obtain ⟨Ao19, co19, Aw⟩ := Kd.R_slice Ad.out
     subst Aw
     go_wp2_with (first | (go_at_call 10; (with_reducible refine (garnerref09_May.calls kj6 _ _ l0 true _ ?Aa ?Ab A16.out).mono ?_); (case Aa => exact pC (Kd.C_below HR0.out HB.out)); (case Ab => exact HC0.out); rintro e w' ⟨rfl, ⟨nd, rfl⟩⟩) | (go_at_call 8; (with_reducible refine (garnerlaw09_awake.calls kj6  t210 _ A18.out).mono ?_); rintro e w20 ⟨rfl, hb⟩; replace Ad := bRa Ad hb; replace HB := Am (below_step (pB HB.out) hb); (try clear hb); (try clear hb2); (try clear hk); (try clear hi)))
     go_ret
     exact ⟨pX, pB HB.out⟩
    replace c17 := Bool.eq_false_iff.mpr c17
    subst c17
    have H1 : ((tally_Check.f kj6 l0).bind fun t211 => (if t211 = 1 then ((tally_Get.f kj6 l0 a2).bind fun t212 => (if t212 = 0 then ((garnerlaw09_awake.f kj6).bind fun t213 => (some t213)) else (some false))) else (some false))) = some r := by rw [if_neg (show ¬ (false = true) by decide)] at H; exact H
    clear H
    have H := H1
    clear H1
    replace H := Option.bind_eq_some_iff.mp H
    obtain ⟨t211, A210, H⟩ := H
    replace H : (if t211 = 1 then ((tally_Get.f kj6 l0 a2).bind fun t212 => (if t212 = 0 then ((garnerlaw09_awake.f kj6).bind fun t213 => (some t213)) else (some false))) else (some false)) = some r := H
    have A21 := Am A210
    clear A210
    by_cases c22 : t211 = 1
    rotate_left
    ·rw [if_neg c22] at H
     have c22b0 : (t211 == 1) = false := beq_eq_false_iff_ne.mpr c22
     have c22b1 : (t211 != 1) = true := bne_iff_ne.mpr c22
     obtain rfl := Option.some.inj H
     obtain ⟨Ao33, co33, Az⟩ := Kd.R_slice Ad.out
     subst Az
     go_wp2_with (first | (go_at_call 10; (with_reducible refine (garnerref09_May.calls kj6 _ _ l0 false _ ?Aa ?Ab A16.out).mono ?_); (case Aa => exact pC (Kd.C_below HR0.out HB.out)); (case Ab => exact HC0.out); rintro e w' ⟨rfl, ⟨nd, rfl⟩⟩) | (go_at_call 12; (with_reducible refine (tally_Check.calls kj6 _ _ l0 t211 _ ?Aa ?Ab A21.out).mono ?_); (case Aa => repeat (first | exact (Kd.C_below HR0.out (pB HB.out)) | (with_reducible refine Kd.C_alloc ?_ _) | (with_reducible refine Kd.C_drewN ?_ _) | (with_reducible refine Kd.C_drew ?_))); (case Ab => exact HC0.out); rintro e w34 ⟨rfl, hb⟩; replace Ad := bRa Ad hb; replace HB := Am (below_step (pB HB.out) hb); (try clear hb); (try clear hb2); (try clear hk); (try clear hi)))
     go_ret
     exact ⟨pX, pB HB.out⟩
    rw [if_pos c22] at H
    have c22b0 : (t211 == 1) = true := beq_iff_eq.mpr c22
    have c22b1 : (t211 != 1) = false := bne_eq_false_iff_eq.mpr c22
    clear c22
    replace H := Option.bind_eq_some_iff.mp H
    obtain ⟨t212, A230, H⟩ := H
    replace H : (if t212 = 0 then ((garnerlaw09_awake.f kj6).bind fun t213 => (some t213)) else (some false)) = some r := H
    have A23 := Am A230
    clear A230
    by_cases c24 : t212 = 0
    rotate_left
    ·rw [if_neg c24] at H
     have c24b0 : (t212 == 0) = false := beq_eq_false_iff_ne.mpr c24
     have c24b1 : (t212 != 0) = true := bne_iff_ne.mpr c24
     obtain rfl := Option.some.inj H
     obtain ⟨Ao30, co30, Ay⟩ := Kd.R_slice Ad.out
     subst Ay
     go_wp2_with (first | (go_at_call 10; (with_reducible refine (garnerref09_May.calls kj6 _ _ l0 false _ ?Aa ?Ab A16.out).mono ?_); (case Aa => exact pC (Kd.C_below HR0.out HB.out)); (case Ab => exact HC0.out); rintro e w' ⟨rfl, ⟨nd, rfl⟩⟩) | (go_at_call 12; (with_reducible refine (tally_Check.calls kj6 _ _ l0 t211 _ ?Aa ?Ab A21.out).mono ?_); (case Aa => repeat (first | exact (Kd.C_below HR0.out (pB HB.out)) | (with_reducible refine Kd.C_alloc ?_ _) | (with_reducible refine Kd.C_drewN ?_ _) | (with_reducible refine Kd.C_drew ?_))); (case Ab => exact HC0.out); rintro e w31 ⟨rfl, hb⟩; replace Ad := bRa Ad hb; replace HB := Am (below_step (pB HB.out) hb); (try clear hb); (try clear hb2); (try clear hk); (try clear hi)) | (go_at_call 13; (with_reducible refine (tally_Get.calls kj6 _ _ l0 a2 t212 _ ?Aa ?Ab A23.out).mono ?_); (case Aa => exact pC (Kd.C_below HR0.out HB.out)); (case Ab => exact HC0.out); rintro e w32 ⟨rfl, hb⟩; replace Ad := bRa Ad hb; replace HB := Am (below_step (pB HB.out) hb); (try clear hb); (try clear hb2); (try clear hk); (try clear hi)))
     go_ret
     exact ⟨pX, pB HB.out⟩
    rw [if_pos c24] at H
    have c24b0 : (t212 == 0) = true := beq_iff_eq.mpr c24
    have c24b1 : (t212 != 0) = false := bne_eq_false_iff_eq.mpr c24
    clear c24
    replace H := Option.bind_eq_some_iff.mp H
    obtain ⟨t213, A250, H⟩ := H
    replace H : (some t213) = some r := H
    have A25 := Am A250
    clear A250
    obtain rfl := Option.some.inj H
    obtain ⟨Ao26, co26, Ax⟩ := Kd.R_slice Ad.out
    subst Ax
    go_wp2_with (first | (go_at_call 10; (with_reducible refine (garnerref09_May.calls kj6 _ _ l0 false _ ?Aa ?Ab A16.out).mono ?_); (case Aa => exact pC (Kd.C_below HR0.out HB.out)); (case Ab => exact HC0.out); rintro e w' ⟨rfl, ⟨nd, rfl⟩⟩) | (go_at_call 12; (with_reducible refine (tally_Check.calls kj6 _ _ l0 t211 _ ?Aa ?Ab A21.out).mono ?_); (case Aa => repeat (first | exact (Kd.C_below HR0.out (pB HB.out)) | (with_reducible refine Kd.C_alloc ?_ _) | (with_reducible refine Kd.C_drewN ?_ _) | (with_reducible refine Kd.C_drew ?_))); (case Ab => exact HC0.out); rintro e w27 ⟨rfl, hb⟩; replace Ad := bRa Ad hb; replace HB := Am (below_step (pB HB.out) hb); (try clear hb); (try clear hb2); (try clear hk); (try clear hi)) | (go_at_call 13; (with_reducible refine (tally_Get.calls kj6 _ _ l0 a2 t212 _ ?Aa ?Ab A23.out).mono ?_); (case Aa => exact pC (Kd.C_below HR0.out HB.out)); (case Ab => exact HC0.out); rintro e w28 ⟨rfl, hb⟩; replace Ad := bRa Ad hb; replace HB := Am (below_step (pB HB.out) hb); (try clear hb); (try clear hb2); (try clear hk); (try clear hi)) | (go_at_call 8; (with_reducible refine (garnerlaw09_awake.calls kj6  t213 _ A25.out).mono ?_); rintro e w29 ⟨rfl, hb⟩; replace Ad := bRa Ad hb; replace HB := Am (below_step (pB HB.out) hb); (try clear hb); (try clear hb2); (try clear hk); (try clear hi)))
    go_ret
    exact ⟨pX, pB HB.out⟩
   replace c13 := Bool.eq_false_iff.mpr c13
   subst c13
   have H1 : ((garnerref09_Add.f kj6 l0 l1).bind fun t214 => ((garnerref09_May.f kj6 t214).bind fun t217 => (if t217 = true then ((tally_Of.f kj6 l1).bind fun bt219 => (if t204 = 0 then (if bt219.2 = 0 then ((garnerref09_Same.f kj6 t203 t214).bind fun t223 => (if t223 = true then ((garnerref09_Add.f kj6 ([] : List (S46)) l1).bind fun t224 => ((garnerref09_Same.f kj6 bt219.1 t224).bind fun t227 => (if t227 = true then ((tally_Check.f kj6 l0).bind fun t228 => (if t228 = 0 then ((tally_Get.f kj6 l0 a2).bind fun t229 => ((garnerref09_Get.f kj6 l0 a2).bind fun t230 => (if t229 = t230 then ((garnerlaw09_awake.f kj6).bind fun t231 => (some t231)) else (some false)))) else (some false))) else (some false)))) else (some false))) else (some false)) else (some false))) else (if t204 = 7 then (if (t203.length : Int) = 0 then ((garnerlaw09_awake.f kj6).bind fun t218 => (some t218)) else (some false)) else (some false))))) = some r := by rw [if_neg (show ¬ (false = true) by decide)] at H; exact H
   clear H
   have H := H1
   clear H1
   replace H := Option.bind_eq_some_iff.mp H
   obtain ⟨t214, A360, H⟩ := H
   replace H : ((garnerref09_May.f kj6 t214).bind fun t217 => (if t217 = true then ((tally_Of.f kj6 l1).bind fun bt219 => (if t204 = 0 then (if bt219.2 = 0 then ((garnerref09_Same.f kj6 t203 t214).bind fun t223 => (if t223 = true then ((garnerref09_Add.f kj6 ([] : List (S46)) l1).bind fun t224 => ((garnerref09_Same.f kj6 bt219.1 t224).bind fun t227 => (if t227 = true then ((tally_Check.f kj6 l0).bind fun t228 => (if t228 = 0 then ((tally_Get.f kj6 l0 a2).bind fun t229 => ((garnerref09_Get.f kj6 l0 a2).bind fun t230 => (if t229 = t230 then ((garnerlaw09_awake.f kj6).bind fun t231 => (some t231)) else (some false)))) else (some false))) else (some false)))) else (some false))) else (some false)) else (some false))) else (if t204 = 7 then (if (t203.length : Int) = 0 then ((garnerlaw09_awake.f kj6).bind fun t218 => (some t218)) else (some false)) else (some false)))) = some r := H
   have A36 := Am A360
   clear A360
   replace H := Option.bind_eq_some_iff.mp H
   obtain ⟨t217, A370, H⟩ := H
   replace H : (if t217 = true then ((tally_Of.f kj6 l1).bind fun bt219 => (if t204 = 0 then (if bt219.2 = 0 then ((garnerref09_Same.f kj6 t203 t214).bind fun t223 => (if t223 = true then ((garnerref09_Add.f kj6 ([] : List (S46)) l1).bind fun t224 => ((garnerref09_Same.f kj6 bt219.1 t224).bind fun t227 => (if t227 = true then ((tally_Check.f kj6 l0).bind fun t228 => (if t228 = 0 then ((tally_Get.f kj6 l0 a2).bind fun t229 => ((garnerref09_Get.f kj6 l0 a2).bind fun t230 => (if t229 = t230 then ((garnerlaw09_awake.f kj6).bind fun t231 => (some t231)) else (some false)))) else (some false))) else (some false)))) else (some false))) else (some false)) else (some false))) else (if t204 = 7 then (if (t203.length : Int) = 0 then ((garnerlaw09_awake.f kj6).bind fun t218 => (some t218)) else (some false)) else (some false))) = some r := H
   have A37 := Am A370
   clear A370
   by_cases c38 : t217 = true
   rotate_left
   ·replace c38 := Bool.eq_false_iff.mpr c38
    subst c38
    have H1 : (if t204 = 7 then (if (t203.length : Int) = 0 then ((garnerlaw09_awake.f kj6).bind fun t218 => (some t218)) else (some false)) else (some false)) = some r := by rw [if_neg (show ¬ (false = true) by decide)] at H; exact H
    clear H
    have H := H1
    clear H1
    by_cases c97 : t204 = 7
    rotate_left
    ·rw [if_neg c97] at H
     have c97b0 : (t204 == 7) = false := beq_eq_false_iff_ne.mpr c97
     have c97b1 : (t204 != 7) = true := bne_iff_ne.mpr c97
     obtain rfl := Option.some.inj H
     go_wp2_with (first | ((with_reducible refine gate_callee (f := 14) rfl ?_); refine goesL_ (some 58) rfl rfl Try.func14 (by kernel_rfl) rfl #[.slice A0 l0.length c0, .slice A1 l1.length c1] rfl pL ?_; (with_reducible refine (garnerref09_Add.calls kj6 (fun k_ => k_ < w.heap.size) _ _ l0 _ _ l1 t214 _ ?Aa ?Ab ?Ae A36.out).mono ?_); (case Aa => exact Kd.V_mk HC0.out (Kd.F_below (Kd.C_F k46_heap HR0.out) (pB HB.out))); (case Ab => exact pC (Kd.C_below HR1.out HB.out)); (case Ae => exact HC1.out); rintro e w107 ⟨v215, rfl, ho0, hb⟩; refine ⟨_, rfl, ?_⟩; have Ac := Am (Kd.V_lower (Kd.V_mono (ok' := fun k_ => some k_ ≠ (v205 : Value).ownBlock) ho0 (fun k_ hk_ => Or.elim hk_ (fun hs_ => fun e_ => Nat.not_le.2 hs_ (Kd.R_base Ad.out k_ e_.symm)) (fun hn_ => (Kd.fresh' (Kd.R_lt (pR Ad.out)) k_ hn_)))) (below_size (pB HB.out))); replace Ad := bRa Ad hb; replace HB := Am (below_step (pB HB.out) hb); (try clear hb); (try clear hb2); (try clear hk); (try clear hi); (try clear ho0); obtain ⟨At, Au, Av⟩ := Kd.V_slice Ac.out; subst Av) | ((with_reducible refine gate_callee (f := 10) rfl ?_); refine goesL_ (some 60) rfl rfl Try.func10 (by kernel_rfl) rfl #[.slice At t214.length Au] rfl pL ?_; (with_reducible refine (garnerref09_May.calls kj6 _ _ t214 false _ ?Aa ?Ab A37.out).mono ?_); (case Aa => exact pC (Kd.V_reads' Ac.out).2.2); (case Ab => exact (Kd.V_reads' Ac.out).2.1); rintro e w' ⟨rfl, ⟨nd, rfl⟩⟩; refine ⟨_, rfl, ?_⟩))
     go_ret
     exact ⟨pX, pB HB.out⟩
    rw [if_pos c97] at H
    have c97b0 : (t204 == 7) = true := beq_iff_eq.mpr c97
    have c97b1 : (t204 != 7) = false := bne_eq_false_iff_eq.mpr c97
    clear c97
    by_cases c98 : (t203.length : Int) = 0
    rotate_left
    ·rw [if_neg c98] at H
     have c98b0 : ((t203.length : Int) == 0) = false := beq_eq_false_iff_ne.mpr c98
     have c98b1 : ((t203.length : Int) != 0) = true := bne_iff_ne.mpr c98
     have c98b2 : ¬ (t203 = []) := fun h_ => c98 (by rw [h_]; rfl)
     obtain rfl := Option.some.inj H
     go_wp2_with (first | ((with_reducible refine gate_callee (f := 14) rfl ?_); refine goesL_ (some 58) rfl rfl Try.func14 (by kernel_rfl) rfl #[.slice A0 l0.length c0, .slice A1 l1.length c1] rfl pL ?_; (with_reducible refine (garnerref09_Add.calls kj6 (fun k_ => k_ < w.heap.size) _ _ l0 _ _ l1 t214 _ ?Aa ?Ab ?Ae A36.out).mono ?_); (case Aa => exact Kd.V_mk HC0.out (Kd.F_below (Kd.C_F k46_heap HR0.out) (pB HB.out))); (case Ab => exact pC (Kd.C_below HR1.out HB.out)); (case Ae => exact HC1.out); rintro e w104 ⟨v215, rfl, ho0, hb⟩; refine ⟨_, rfl, ?_⟩; have Ac := Am (Kd.V_lower (Kd.V_mono (ok' := fun k_ => some k_ ≠ (v205 : Value).ownBlock) ho0 (fun k_ hk_ => Or.elim hk_ (fun hs_ => fun e_ => Nat.not_le.2 hs_ (Kd.R_base Ad.out k_ e_.symm)) (fun hn_ => (Kd.fresh' (Kd.R_lt (pR Ad.out)) k_ hn_)))) (below_size (pB HB.out))); replace Ad := bRa Ad hb; replace HB := Am (below_step (pB HB.out) hb); (try clear hb); (try clear hb2); (try clear hk); (try clear hi); (try clear ho0); obtain ⟨Ap, Aq, Ar⟩ := Kd.V_slice Ac.out; subst Ar) | ((with_reducible refine gate_callee (f := 10) rfl ?_); refine goesL_ (some 60) rfl rfl Try.func10 (by kernel_rfl) rfl #[.slice Ap t214.length Aq] rfl pL ?_; (with_reducible refine (garnerref09_May.calls kj6 _ _ t214 false _ ?Aa ?Ab A37.out).mono ?_); (case Aa => exact pC (Kd.V_reads' Ac.out).2.2); (case Ab => exact (Kd.V_reads' Ac.out).2.1); rintro e w' ⟨rfl, ⟨nd, rfl⟩⟩; refine ⟨_, rfl, ?_⟩; obtain ⟨Ao106, co106, As⟩ := Kd.R_slice Ad.out; subst As))
     go_ret
     exact ⟨pX, pB HB.out⟩
    rw [if_pos c98] at H
    have c98b0 : ((t203.length : Int) == 0) = true := beq_iff_eq.mpr c98
    have c98b1 : ((t203.length : Int) != 0) = false := bne_eq_false_iff_eq.mpr c98
    clear c98
    replace H := Option.bind_eq_some_iff.mp H
    obtain ⟨t218, A990, H⟩ := H
    replace H : (some t218) = some r := H
    have A99 := Am A990
    clear A990
    obtain rfl := Option.some.inj H
    go_wp2_with (first | ((with_reducible refine gate_callee (f := 14) rfl ?_); refine goesL_ (some 58) rfl rfl Try.func14 (by kernel_rfl) rfl #[.slice A0 l0.length c0, .slice A1 l1.length c1] rfl pL ?_; (with_reducible refine (garnerref09_Add.calls kj6 (fun k_ => k_ < w.heap.size) _ _ l0 _ _ l1 t214 _ ?Aa ?Ab ?Ae A36.out).mono ?_); (case Aa => exact Kd.V_mk HC0.out (Kd.F_below (Kd.C_F k46_heap HR0.out) (pB HB.out))); (case Ab => exact pC (Kd.C_below HR1.out HB.out)); (case Ae => exact HC1.out); rintro e w100 ⟨v215, rfl, ho0, hb⟩; refine ⟨_, rfl, ?_⟩; have Ac := Am (Kd.V_lower (Kd.V_mono (ok' := fun k_ => some k_ ≠ (v205 : Value).ownBlock) ho0 (fun k_ hk_ => Or.elim hk_ (fun hs_ => fun e_ => Nat.not_le.2 hs_ (Kd.R_base Ad.out k_ e_.symm)) (fun hn_ => (Kd.fresh' (Kd.R_lt (pR Ad.out)) k_ hn_)))) (below_size (pB HB.out))); replace Ad := bRa Ad hb; replace HB := Am (below_step (pB HB.out) hb); (try clear hb); (try clear hb2); (try clear hk); (try clear hi); (try clear ho0); obtain ⟨Ak, Al, An⟩ := Kd.V_slice Ac.out; subst An) | ((with_reducible refine gate_callee (f := 10) rfl ?_); refine goesL_ (some 60) rfl rfl Try.func10 (by kernel_rfl) rfl #[.slice Ak t214.length Al] rfl pL ?_; (with_reducible refine (garnerref09_May.calls kj6 _ _ t214 false _ ?Aa ?Ab A37.out).mono ?_); (case Aa => exact pC (Kd.V_reads' Ac.out).2.2); (case Ab => exact (Kd.V_reads' Ac.out).2.1); rintro e w' ⟨rfl, ⟨nd, rfl⟩⟩; refine ⟨_, rfl, ?_⟩; obtain ⟨Ao102, co102, Ao⟩ := Kd.R_slice Ad.out; subst Ao) | (go_at_call 8; (with_reducible refine (garnerlaw09_awake.calls kj6  t218 _ A99.out).mono ?_); rintro e w103 ⟨rfl, hb⟩; replace Ad := bRa Ad hb; replace Ac := bVa Ac hb; replace HB := Am (below_step (pB HB.out) hb); (try clear hb); (try clear hb2); (try clear hk); (try clear hi)))
    go_ret
    exact ⟨pX, pB HB.out⟩
   subst c38
   have H1 : ((tally_Of.f kj6 l1).bind fun bt219 => (if t204 = 0 then (if bt219.2 = 0 then ((garnerref09_Same.f kj6 t203 t214).bind fun t223 => (if t223 = true then ((garnerref09_Add.f kj6 ([] : List (S46)) l1).bind fun t224 => ((garnerref09_Same.f kj6 bt219.1 t224).bind fun t227 => (if t227 = true then ((tally_Check.f kj6 l0).bind fun t228 => (if t228 = 0 then ((tally_Get.f kj6 l0 a2).bind fun t229 => ((garnerref09_Get.f kj6 l0 a2).bind fun t230 => (if t229 = t230 then ((garnerlaw09_awake.f kj6).bind fun t231 => (some t231)) else (some false)))) else (some false))) else (some false)))) else (some false))) else (some false)) else (some false))) = some r := by rw [if_pos rfl] at H; exact H
   clear H
   have H := H1
   clear H1
   replace H := Option.bind_eq_some_iff.mp H
   obtain ⟨⟨t219, t220⟩, A390, H⟩ := H
   replace H : (if t204 = 0 then (if t220 = 0 then ((garnerref09_Same.f kj6 t203 t214).bind fun t223 => (if t223 = true then ((garnerref09_Add.f kj6 ([] : List (S46)) l1).bind fun t224 => ((garnerref09_Same.f kj6 t219 t224).bind fun t227 => (if t227 = true then ((tally_Check.f kj6 l0).bind fun t228 => (if t228 = 0 then ((tally_Get.f kj6 l0 a2).bind fun t229 => ((garnerref09_Get.f kj6 l0 a2).bind fun t230 => (if t229 = t230 then ((garnerlaw09_awake.f kj6).bind fun t231 => (some t231)) else (some false)))) else (some false))) else (some false)))) else (some false))) else (some false)) else (some false)) = some r := H
   have A39 := Am A390
   clear A390
   by_cases c40 : t204 = 0
   rotate_left
   ·rw [if_neg c40] at H
    have c40b0 : (t204 == 0) = false := beq_eq_false_iff_ne.mpr c40
    have c40b1 : (t204 != 0) = true := bne_iff_ne.mpr c40
    obtain rfl := Option.some.inj H
    go_wp2_with (first | ((with_reducible refine gate_callee (f := 14) rfl ?_); refine goesL_ (some 58) rfl rfl Try.func14 (by kernel_rfl) rfl #[.slice A0 l0.length c0, .slice A1 l1.length c1] rfl pL ?_; (with_reducible refine (garnerref09_Add.calls kj6 (fun k_ => k_ < w.heap.size) _ _ l0 _ _ l1 t214 _ ?Aa ?Ab ?Ae A36.out).mono ?_); (case Aa => exact Kd.V_mk HC0.out (Kd.F_below (Kd.C_F k46_heap HR0.out) (pB HB.out))); (case Ab => exact pC (Kd.C_below HR1.out HB.out)); (case Ae => exact HC1.out); rintro e w94 ⟨v215, rfl, ho0, hb⟩; refine ⟨_, rfl, ?_⟩; have Ac := Am (Kd.V_lower (Kd.V_mono (ok' := fun k_ => some k_ ≠ (v205 : Value).ownBlock) ho0 (fun k_ hk_ => Or.elim hk_ (fun hs_ => fun e_ => Nat.not_le.2 hs_ (Kd.R_base Ad.out k_ e_.symm)) (fun hn_ => (Kd.fresh' (Kd.R_lt (pR Ad.out)) k_ hn_)))) (below_size (pB HB.out))); replace Ad := bRa Ad hb; replace HB := Am (below_step (pB HB.out) hb); (try clear hb); (try clear hb2); (try clear hk); (try clear hi); (try clear ho0); obtain ⟨B9, Ca, Cb⟩ := Kd.V_slice Ac.out; subst Cb) | ((with_reducible refine gate_callee (f := 10) rfl ?_); refine goesL_ (some 60) rfl rfl Try.func10 (by kernel_rfl) rfl #[.slice B9 t214.length Ca] rfl pL ?_; (with_reducible refine (garnerref09_May.calls kj6 _ _ t214 true _ ?Aa ?Ab A37.out).mono ?_); (case Aa => exact pC (Kd.V_reads' Ac.out).2.2); (case Ab => exact (Kd.V_reads' Ac.out).2.1); rintro e w' ⟨rfl, ⟨nd, rfl⟩⟩; refine ⟨_, rfl, ?_⟩) | ((with_reducible refine gate_callee (f := 15) rfl ?_); refine goesL_ (some 74) rfl rfl Try.func15 (by kernel_rfl) rfl #[.slice A1 l1.length c1] rfl pL ?_; (with_reducible refine (tally_Of.calls kj6 _ _ l1 t219 t220 _ ?Aa ?Ab A39.out).mono ?_); (case Aa => repeat (first | exact (Kd.C_below HR1.out (pB HB.out)) | (with_reducible refine Kd.C_alloc ?_ _) | (with_reducible refine Kd.C_drewN ?_ _) | (with_reducible refine Kd.C_drew ?_))); (case Ab => exact HC1.out); rintro e w96 ⟨v221, rfl, ho0, hb⟩; refine ⟨_, rfl, ?_⟩; replace Ac := Am (Kd.V_elder' (pV Ac.out) (Kd.R_base ho0) hb); have Af := Am (Kd.R_lower (Kd.R_new' ho0 (Kd.R_lt (pR Ad.out))) (below_size (pB HB.out))); replace Ad := Am (Kd.R_elder' (pR Ad.out) (Kd.R_base ho0) hb); replace HB := Am (below_step (pB HB.out) hb); (try clear hb); (try clear hb2); (try clear hk); (try clear hi); (try clear ho0)))
    go_ret
    exact ⟨pX, pB HB.out⟩
   rw [if_pos c40] at H
   have c40b0 : (t204 == 0) = true := beq_iff_eq.mpr c40
   have c40b1 : (t204 != 0) = false := bne_eq_false_iff_eq.mpr c40
   clear c40
   by_cases c41 : t220 = 0
   rotate_left
   ·rw [if_neg c41] at H
    have c41b0 : (t220 == 0) = false := beq_eq_false_iff_ne.mpr c41
    have c41b1 : (t220 != 0) = true := bne_iff_ne.mpr c41
    obtain rfl := Option.some.inj H
    go_wp2_with (first | ((with_reducible refine gate_callee (f := 14) rfl ?_); refine goesL_ (some 58) rfl rfl Try.func14 (by kernel_rfl) rfl #[.slice A0 l0.length c0, .slice A1 l1.length c1] rfl pL ?_; (with_reducible refine (garnerref09_Add.calls kj6 (fun k_ => k_ < w.heap.size) _ _ l0 _ _ l1 t214 _ ?Aa ?Ab ?Ae A36.out).mono ?_); (case Aa => exact Kd.V_mk HC0.out (Kd.F_below (Kd.C_F k46_heap HR0.out) (pB HB.out))); (case Ab => exact pC (Kd.C_below HR1.out HB.out)); (case Ae => exact HC1.out); rintro e w91 ⟨v215, rfl, ho0, hb⟩; refine ⟨_, rfl, ?_⟩; have Ac := Am (Kd.V_lower (Kd.V_mono (ok' := fun k_ => some k_ ≠ (v205 : Value).ownBlock) ho0 (fun k_ hk_ => Or.elim hk_ (fun hs_ => fun e_ => Nat.not_le.2 hs_ (Kd.R_base Ad.out k_ e_.symm)) (fun hn_ => (Kd.fresh' (Kd.R_lt (pR Ad.out)) k_ hn_)))) (below_size (pB HB.out))); replace Ad := bRa Ad hb; replace HB := Am (below_step (pB HB.out) hb); (try clear hb); (try clear hb2); (try clear hk); (try clear hi); (try clear ho0); obtain ⟨B6, B7, B8⟩ := Kd.V_slice Ac.out; subst B8) | ((with_reducible refine gate_callee (f := 10) rfl ?_); refine goesL_ (some 60) rfl rfl Try.func10 (by kernel_rfl) rfl #[.slice B6 t214.length B7] rfl pL ?_; (with_reducible refine (garnerref09_May.calls kj6 _ _ t214 true _ ?Aa ?Ab A37.out).mono ?_); (case Aa => exact pC (Kd.V_reads' Ac.out).2.2); (case Ab => exact (Kd.V_reads' Ac.out).2.1); rintro e w' ⟨rfl, ⟨nd, rfl⟩⟩; refine ⟨_, rfl, ?_⟩) | ((with_reducible refine gate_callee (f := 15) rfl ?_); refine goesL_ (some 74) rfl rfl Try.func15 (by kernel_rfl) rfl #[.slice A1 l1.length c1] rfl pL ?_; (with_reducible refine (tally_Of.calls kj6 _ _ l1 t219 t220 _ ?Aa ?Ab A39.out).mono ?_); (case Aa => repeat (first | exact (Kd.C_below HR1.out (pB HB.out)) | (with_reducible refine Kd.C_alloc ?_ _) | (with_reducible refine Kd.C_drewN ?_ _) | (with_reducible refine Kd.C_drew ?_))); (case Ab => exact HC1.out); rintro e w93 ⟨v221, rfl, ho0, hb⟩; refine ⟨_, rfl, ?_⟩; replace Ac := Am (Kd.V_elder' (pV Ac.out) (Kd.R_base ho0) hb); have Af := Am (Kd.R_lower (Kd.R_new' ho0 (Kd.R_lt (pR Ad.out))) (below_size (pB HB.out))); replace Ad := Am (Kd.R_elder' (pR Ad.out) (Kd.R_base ho0) hb); replace HB := Am (below_step (pB HB.out) hb); (try clear hb); (try clear hb2); (try clear hk); (try clear hi); (try clear ho0)))
    go_ret
    exact ⟨pX, pB HB.out⟩
   rw [if_pos c41] at H
   have c41b0 : (t220 == 0) = true := beq_iff_eq.mpr c41
   have c41b1 : (t220 != 0) = false := bne_eq_false_iff_eq.mpr c41
   clear c41
   replace H := Option.bind_eq_some_iff.mp H
   obtain ⟨t223, A420, H⟩ := H
   replace H : (if t223 = true then ((garnerref09_Add.f kj6 ([] : List (S46)) l1).bind fun t224 => ((garnerref09_Same.f kj6 t219 t224).bind fun t227 => (if t227 = true then ((tally_Check.f kj6 l0).bind fun t228 => (if t228 = 0 then ((tally_Get.f kj6 l0 a2).bind fun t229 => ((garnerref09_Get.f kj6 l0 a2).bind fun t230 => (if t229 = t230 then ((garnerlaw09_awake.f kj6).bind fun t231 => (some t231)) else (some false)))) else (some false))) else (some false)))) else (some false)) = some r := H
   have A42 := Am A420
   clear A420
   by_cases c43 : t223 = true
   rotate_left
   ·replace c43 := Bool.eq_false_iff.mpr c43
    subst c43
    have H1 : (some false) = some r := by rw [if_neg (show ¬ (false = true) by decide)] at H; exact H
    clear H
    have H := H1
    clear H1
    obtain rfl := Option.some.inj H
    go_wp2_with (first | ((with_reducible refine gate_callee (f := 14) rfl ?_); refine goesL_ (some 58) rfl rfl Try.func14 (by kernel_rfl) rfl #[.slice A0 l0.length c0, .slice A1 l1.length c1] rfl pL ?_; (with_reducible refine (garnerref09_Add.calls kj6 (fun k_ => k_ < w.heap.size) _ _ l0 _ _ l1 t214 _ ?Aa ?Ab ?Ae A36.out).mono ?_); (case Aa => exact Kd.V_mk HC0.out (Kd.F_below (Kd.C_F k46_heap HR0.out) (pB HB.out))); (case Ab => exact pC (Kd.C_below HR1.out HB.out)); (case Ae => exact HC1.out); rintro e w87 ⟨v215, rfl, ho0, hb⟩; refine ⟨_, rfl, ?_⟩; have Ac := Am (Kd.V_lower (Kd.V_mono (ok' := fun k_ => some k_ ≠ (v205 : Value).ownBlock) ho0 (fun k_ hk_ => Or.elim hk_ (fun hs_ => fun e_ => Nat.not_le.2 hs_ (Kd.R_base Ad.out k_ e_.symm)) (fun hn_ => (Kd.fresh' (Kd.R_lt (pR Ad.out)) k_ hn_)))) (below_size (pB HB.out))); replace Ad := bRa Ad hb; replace HB := Am (below_step (pB HB.out) hb); (try clear hb); (try clear hb2); (try clear hk); (try clear hi); (try clear ho0); obtain ⟨B2, B3, B4⟩ := Kd.V_slice Ac.out; subst B4) | ((with_reducible refine gate_callee (f := 10) rfl ?_); refine goesL_ (some 60) rfl rfl Try.func10 (by kernel_rfl) rfl #[.slice B2 t214.length B3] rfl pL ?_; (with_reducible refine (garnerref09_May.calls kj6 _ _ t214 true _ ?Aa ?Ab A37.out).mono ?_); (case Aa => exact pC (Kd.V_reads' Ac.out).2.2); (case Ab => exact (Kd.V_reads' Ac.out).2.1); rintro e w' ⟨rfl, ⟨nd, rfl⟩⟩; refine ⟨_, rfl, ?_⟩) | ((with_reducible refine gate_callee (f := 15) rfl ?_); refine goesL_ (some 74) rfl rfl Try.func15 (by kernel_rfl) rfl #[.slice A1 l1.length c1] rfl pL ?_; (with_reducible refine (tally_Of.calls kj6 _ _ l1 t219 t220 _ ?Aa ?Ab A39.out).mono ?_); (case Aa => repeat (first | exact (Kd.C_below HR1.out (pB HB.out)) | (with_reducible refine Kd.C_alloc ?_ _) | (with_reducible refine Kd.C_drewN ?_ _) | (with_reducible refine Kd.C_drew ?_))); (case Ab => exact HC1.out); rintro e w89 ⟨v221, rfl, ho0, hb⟩; refine ⟨_, rfl, ?_⟩; replace Ac := Am (Kd.V_elder' (pV Ac.out) (Kd.R_base ho0) hb); have Af := Am (Kd.R_lower (Kd.R_new' ho0 (Kd.R_lt (pR Ad.out))) (below_size (pB HB.out))); replace Ad := Am (Kd.R_elder' (pR Ad.out) (Kd.R_base ho0) hb); replace HB := Am (below_step (pB HB.out) hb); (try clear hb); (try clear hb2); (try clear hk); (try clear hi); (try clear ho0); obtain ⟨Ao90, co90, B5⟩ := Kd.R_slice Ad.out; subst B5) | (go_at_call 16; (with_reducible refine (garnerref09_Same.calls kj6 _ _ t203 _ _ t214 false _ ?Aa ?Ab ?Ae ?Ah A42.out).mono ?_); (case Aa => exact pC (Kd.R_reads' Ad.out).2.2); (case Ab => exact (Kd.R_reads' Ad.out).2.1); (case Ae => exact pC (Kd.V_reads' Ac.out).2.2); (case Ah => exact (Kd.V_reads' Ac.out).2.1); rintro e w' ⟨rfl, ⟨nd, rfl⟩⟩))
    go_ret
    exact ⟨pX, pB HB.out⟩
   subst c43
   have H1 : ((garnerref09_Add.f kj6 ([] : List (S46)) l1).bind fun t224 => ((garnerref09_Same.f kj6 t219 t224).bind fun t227 => (if t227 = true then ((tally_Check.f kj6 l0).bind fun t228 => (if t228 = 0 then ((tally_Get.f kj6 l0 a2).bind fun t229 => ((garnerref09_Get.f kj6 l0 a2).bind fun t230 => (if t229 = t230 then ((garnerlaw09_awake.f kj6).bind fun t231 => (some t231)) else (some false)))) else (some false))) else (some false)))) = some r := by rw [if_pos rfl] at H; exact H
   clear H
   have H := H1
   clear H1
   replace H := Option.bind_eq_some_iff.mp H
   obtain ⟨t224, A440, H⟩ := H
   replace H : ((garnerref09_Same.f kj6 t219 t224).bind fun t227 => (if t227 = true then ((tally_Check.f kj6 l0).bind fun t228 => (if t228 = 0 then ((tally_Get.f kj6 l0 a2).bind fun t229 => ((garnerref09_Get.f kj6 l0 a2).bind fun t230 => (if t229 = t230 then ((garnerlaw09_awake.f kj6).bind fun t231 => (some t231)) else (some false)))) else (some false))) else (some false))) = some r := H
   have A44 := Am A440
   clear A440
   replace H := Option.bind_eq_some_iff.mp H
   obtain ⟨t227, A450, H⟩ := H
   replace H : (if t227 = true then ((tally_Check.f kj6 l0).bind fun t228 => (if t228 = 0 then ((tally_Get.f kj6 l0 a2).bind fun t229 => ((garnerref09_Get.f kj6 l0 a2).bind fun t230 => (if t229 = t230 then ((garnerlaw09_awake.f kj6).bind fun t231 => (some t231)) else (some false)))) else (some false))) else (some false)) = some r := H
   have A45 := Am A450
   clear A450
   by_cases c46 : t227 = true
   rotate_left
   ·replace c46 := Bool.eq_false_iff.mpr c46
    subst c46
    have H1 : (some false) = some r := by rw [if_neg (show ¬ (false = true) by decide)] at H; exact H
    clear H
    have H := H1
    clear H1
    obtain rfl := Option.some.inj H
    go_wp2_with (first | ((with_reducible refine gate_callee (f := 14) rfl ?_); refine goesL_ (some 58) rfl rfl Try.func14 (by kernel_rfl) rfl #[.slice A0 l0.length c0, .slice A1 l1.length c1] rfl pL ?_; (with_reducible refine (garnerref09_Add.calls kj6 (fun k_ => k_ < w.heap.size) _ _ l0 _ _ l1 t214 _ ?Aa ?Ab ?Ae A36.out).mono ?_); (case Aa => exact Kd.V_mk HC0.out (Kd.F_below (Kd.C_F k46_heap HR0.out) (pB HB.out))); (case Ab => exact pC (Kd.C_below HR1.out HB.out)); (case Ae => exact HC1.out); rintro e w80 ⟨v215, rfl, ho0, hb⟩; refine ⟨_, rfl, ?_⟩; have Ac := Am (Kd.V_lower (Kd.V_mono (ok' := fun k_ => some k_ ≠ (v205 : Value).ownBlock) ho0 (fun k_ hk_ => Or.elim hk_ (fun hs_ => fun e_ => Nat.not_le.2 hs_ (Kd.R_base Ad.out k_ e_.symm)) (fun hn_ => (Kd.fresh' (Kd.R_lt (pR Ad.out)) k_ hn_)))) (below_size (pB HB.out))); replace Ad := bRa Ad hb; replace HB := Am (below_step (pB HB.out) hb); (try clear hb); (try clear hb2); (try clear hk); (try clear hi); (try clear ho0); obtain ⟨Bu, Bv, Bw⟩ := Kd.V_slice Ac.out; subst Bw) | ((with_reducible refine gate_callee (f := 10) rfl ?_); refine goesL_ (some 60) rfl rfl Try.func10 (by kernel_rfl) rfl #[.slice Bu t214.length Bv] rfl pL ?_; (with_reducible refine (garnerref09_May.calls kj6 _ _ t214 true _ ?Aa ?Ab A37.out).mono ?_); (case Aa => exact pC (Kd.V_reads' Ac.out).2.2); (case Ab => exact (Kd.V_reads' Ac.out).2.1); rintro e w' ⟨rfl, ⟨nd, rfl⟩⟩; refine ⟨_, rfl, ?_⟩) | ((with_reducible refine gate_callee (f := 15) rfl ?_); refine goesL_ (some 74) rfl rfl Try.func15 (by kernel_rfl) rfl #[.slice A1 l1.length c1] rfl pL ?_; (with_reducible refine (tally_Of.calls kj6 _ _ l1 t219 t220 _ ?Aa ?Ab A39.out).mono ?_); (case Aa => repeat (first | exact (Kd.C_below HR1.out (pB HB.out)) | (with_reducible refine Kd.C_alloc ?_ _) | (with_reducible refine Kd.C_drewN ?_ _) | (with_reducible refine Kd.C_drew ?_))); (case Ab => exact HC1.out); rintro e w82 ⟨v221, rfl, ho0, hb⟩; refine ⟨_, rfl, ?_⟩; replace Ac := Am (Kd.V_elder' (pV Ac.out) (Kd.R_base ho0) hb); have Af := Am (Kd.R_lower (Kd.R_new' ho0 (Kd.R_lt (pR Ad.out))) (below_size (pB HB.out))); replace Ad := Am (Kd.R_elder' (pR Ad.out) (Kd.R_base ho0) hb); replace HB := Am (below_step (pB HB.out) hb); (try clear hb); (try clear hb2); (try clear hk); (try clear hi); (try clear ho0); obtain ⟨Bx, By, Bz⟩ := Kd.R_slice Ad.out; subst Bz) | (go_at_call 16; (with_reducible refine (garnerref09_Same.calls kj6 _ _ t203 _ _ t214 true _ ?Aa ?Ab ?Ae ?Ah A42.out).mono ?_); (case Aa => exact pC (Kd.R_reads' Ad.out).2.2); (case Ab => exact (Kd.R_reads' Ad.out).2.1); (case Ae => exact pC (Kd.V_reads' Ac.out).2.2); (case Ah => exact (Kd.V_reads' Ac.out).2.1); rintro e w' ⟨rfl, ⟨nd, rfl⟩⟩) | (go_at_call 14; (refine (garnerref09_Add.calls kj6 (fun k_ => False) _ _ ([] : List (S46)) _ _ l1 t224 _ ?Aa ?Ab ?Ae A44.out).mono ?_); (case Aa => exact Kd.V_nil _ _ _ _ _); (case Ab => repeat (first | exact (Kd.C_below HR1.out (pB HB.out)) | (with_reducible refine Kd.C_alloc ?_ _) | (with_reducible refine Kd.C_drewN ?_ _) | (with_reducible refine Kd.C_drew ?_))); (case Ae => exact HC1.out); rintro e w84 ⟨v225, rfl, ho0, hb⟩; replace Ac := bVa Ac hb; have Ag := Am (Kd.V_lower (Kd.V_mono (ok' := fun k_ => some k_ ≠ (.slice Bx t203.length By : Value).ownBlock ∧ some k_ ≠ (v221 : Value).ownBlock) ho0 (fun k_ hk_ => ⟨Or.elim hk_ (fun hs_ => (hs_).elim) (fun hn_ => (Kd.fresh' (Kd.R_lt (pR Ad.out)) k_ hn_)), Or.elim hk_ (fun hs_ => (hs_).elim) (fun hn_ => (Kd.fresh' (Kd.R_lt (pR Af.out)) k_ hn_))⟩)) (below_size (pB HB.out))); replace Ad := bRa Ad hb; replace Af := bRa Af hb; replace HB := Am (below_step (pB HB.out) hb); (try clear hb); (try clear hb2); (try clear hk); (try clear hi); (try clear ho0); obtain ⟨Ao85, co85, B0⟩ := Kd.R_slice Af.out; subst B0; obtain ⟨Ao86, co86, B1⟩ := Kd.V_slice Ag.out; subst B1) | (go_at_call 16; (with_reducible refine (garnerref09_Same.calls kj6 _ _ t219 _ _ t224 false _ ?Aa ?Ab ?Ae ?Ah A45.out).mono ?_); (case Aa => exact pC (Kd.R_reads' Af.out).2.2); (case Ab => exact (Kd.R_reads' Af.out).2.1); (case Ae => exact pC (Kd.V_reads' Ag.out).2.2); (case Ah => exact (Kd.V_reads' Ag.out).2.1); rintro e w' ⟨rfl, ⟨nd, rfl⟩⟩))
    go_ret
    exact ⟨pX, pB HB.out⟩
   subst c46
   have H1 : ((tally_Check.f kj6 l0).bind fun t228 => (if t228 = 0 then ((tally_Get.f kj6 l0 a2).bind fun t229 => ((garnerref09_Get.f kj6 l0 a2).bind fun t230 => (if t229 = t230 then ((garnerlaw09_awake.f kj6).bind fun t231 => (some t231)) else (some false)))) else (some false))) = some r := by rw [if_pos rfl] at H; exact H
   clear H
   have H := H1
   clear H1
   replace H := Option.bind_eq_some_iff.mp H
   obtain ⟨t228, A470, H⟩ := H
   replace H : (if t228 = 0 then ((tally_Get.f kj6 l0 a2).bind fun t229 => ((garnerref09_Get.f kj6 l0 a2).bind fun t230 => (if t229 = t230 then ((garnerlaw09_awake.f kj6).bind fun t231 => (some t231)) else (some false)))) else (some false)) = some r := H
   have A47 := Am A470
   clear A470
   by_cases c48 : t228 = 0
   rotate_left
   ·rw [if_neg c48] at H
    have c48b0 : (t228 == 0) = false := beq_eq_false_iff_ne.mpr c48
    have c48b1 : (t228 != 0) = true := bne_iff_ne.mpr c48
    obtain rfl := Option.some.inj H
    go_wp2_with (first | ((with_reducible refine gate_callee (f := 14) rfl ?_); refine goesL_ (some 58) rfl rfl Try.func14 (by kernel_rfl) rfl #[.slice A0 l0.length c0, .slice A1 l1.length c1] rfl pL ?_; (with_reducible refine (garnerref09_Add.calls kj6 (fun k_ => k_ < w.heap.size) _ _ l0 _ _ l1 t214 _ ?Aa ?Ab ?Ae A36.out).mono ?_); (case Aa => exact Kd.V_mk HC0.out (Kd.F_below (Kd.C_F k46_heap HR0.out) (pB HB.out))); (case Ab => exact pC (Kd.C_below HR1.out HB.out)); (case Ae => exact HC1.out); rintro e w72 ⟨v215, rfl, ho0, hb⟩; refine ⟨_, rfl, ?_⟩; have Ac := Am (Kd.V_lower (Kd.V_mono (ok' := fun k_ => some k_ ≠ (v205 : Value).ownBlock) ho0 (fun k_ hk_ => Or.elim hk_ (fun hs_ => fun e_ => Nat.not_le.2 hs_ (Kd.R_base Ad.out k_ e_.symm)) (fun hn_ => (Kd.fresh' (Kd.R_lt (pR Ad.out)) k_ hn_)))) (below_size (pB HB.out))); replace Ad := bRa Ad hb; replace HB := Am (below_step (pB HB.out) hb); (try clear hb); (try clear hb2); (try clear hk); (try clear hi); (try clear ho0); obtain ⟨Bm, Bn, Bo⟩ := Kd.V_slice Ac.out; subst Bo) | ((with_reducible refine gate_callee (f := 10) rfl ?_); refine goesL_ (some 60) rfl rfl Try.func10 (by kernel_rfl) rfl #[.slice Bm t214.length Bn] rfl pL ?_; (with_reducible refine (garnerref09_May.calls kj6 _ _ t214 true _ ?Aa ?Ab A37.out).mono ?_); (case Aa => exact pC (Kd.V_reads' Ac.out).2.2); (case Ab => exact (Kd.V_reads' Ac.out).2.1); rintro e w' ⟨rfl, ⟨nd, rfl⟩⟩; refine ⟨_, rfl, ?_⟩) | ((with_reducible refine gate_callee (f := 15) rfl ?_); refine goesL_ (some 74) rfl rfl Try.func15 (by kernel_rfl) rfl #[.slice A1 l1.length c1] rfl pL ?_; (with_reducible refine (tally_Of.calls kj6 _ _ l1 t219 t220 _ ?Aa ?Ab A39.out).mono ?_); (case Aa => repeat (first | exact (Kd.C_below HR1.out (pB HB.out)) | (with_reducible refine Kd.C_alloc ?_ _) | (with_reducible refine Kd.C_drewN ?_ _) | (with_reducible refine Kd.C_drew ?_))); (case Ab => exact HC1.out); rintro e w74 ⟨v221, rfl, ho0, hb⟩; refine ⟨_, rfl, ?_⟩; replace Ac := Am (Kd.V_elder' (pV Ac.out) (Kd.R_base ho0) hb); have Af := Am (Kd.R_lower (Kd.R_new' ho0 (Kd.R_lt (pR Ad.out))) (below_size (pB HB.out))); replace Ad := Am (Kd.R_elder' (pR Ad.out) (Kd.R_base ho0) hb); replace HB := Am (below_step (pB HB.out) hb); (try clear hb); (try clear hb2); (try clear hk); (try clear hi); (try clear ho0); obtain ⟨Bp, Bq, Br⟩ := Kd.R_slice Ad.out; subst Br) | (go_at_call 16; (with_reducible refine (garnerref09_Same.calls kj6 _ _ t203 _ _ t214 true _ ?Aa ?Ab ?Ae ?Ah A42.out).mono ?_); (case Aa => exact pC (Kd.R_reads' Ad.out).2.2); (case Ab => exact (Kd.R_reads' Ad.out).2.1); (case Ae => exact pC (Kd.V_reads' Ac.out).2.2); (case Ah => exact (Kd.V_reads' Ac.out).2.1); rintro e w' ⟨rfl, ⟨nd, rfl⟩⟩) | (go_at_call 14; (refine (garnerref09_Add.calls kj6 (fun k_ => False) _ _ ([] : List (S46)) _ _ l1 t224 _ ?Aa ?Ab ?Ae A44.out).mono ?_); (case Aa => exact Kd.V_nil _ _ _ _ _); (case Ab => repeat (first | exact (Kd.C_below HR1.out (pB HB.out)) | (with_reducible refine Kd.C_alloc ?_ _) | (with_reducible refine Kd.C_drewN ?_ _) | (with_reducible refine Kd.C_drew ?_))); (case Ae => exact HC1.out); rintro e w76 ⟨v225, rfl, ho0, hb⟩; replace Ac := bVa Ac hb; have Ag := Am (Kd.V_lower (Kd.V_mono (ok' := fun k_ => some k_ ≠ (.slice Bp t203.length Bq : Value).ownBlock ∧ some k_ ≠ (v221 : Value).ownBlock) ho0 (fun k_ hk_ => ⟨Or.elim hk_ (fun hs_ => (hs_).elim) (fun hn_ => (Kd.fresh' (Kd.R_lt (pR Ad.out)) k_ hn_)), Or.elim hk_ (fun hs_ => (hs_).elim) (fun hn_ => (Kd.fresh' (Kd.R_lt (pR Af.out)) k_ hn_))⟩)) (below_size (pB HB.out))); replace Ad := bRa Ad hb; replace Af := bRa Af hb; replace HB := Am (below_step (pB HB.out) hb); (try clear hb); (try clear hb2); (try clear hk); (try clear hi); (try clear ho0); obtain ⟨Ao77, co77, Bs⟩ := Kd.R_slice Af.out; subst Bs; obtain ⟨Ao78, co78, Bt⟩ := Kd.V_slice Ag.out; subst Bt) | (go_at_call 16; (with_reducible refine (garnerref09_Same.calls kj6 _ _ t219 _ _ t224 true _ ?Aa ?Ab ?Ae ?Ah A45.out).mono ?_); (case Aa => exact pC (Kd.R_reads' Af.out).2.2); (case Ab => exact (Kd.R_reads' Af.out).2.1); (case Ae => exact pC (Kd.V_reads' Ag.out).2.2); (case Ah => exact (Kd.V_reads' Ag.out).2.1); rintro e w' ⟨rfl, ⟨nd, rfl⟩⟩) | (go_at_call 12; (with_reducible refine (tally_Check.calls kj6 _ _ l0 t228 _ ?Aa ?Ab A47.out).mono ?_); (case Aa => repeat (first | exact (Kd.C_below HR0.out (pB HB.out)) | (with_reducible refine Kd.C_alloc ?_ _) | (with_reducible refine Kd.C_drewN ?_ _) | (with_reducible refine Kd.C_drew ?_))); (case Ab => exact HC0.out); rintro e w79 ⟨rfl, hb⟩; replace Ad := bRa Ad hb; replace Ac := bVa Ac hb; replace Af := bRa Af hb; replace Ag := bVa Ag hb; replace HB := Am (below_step (pB HB.out) hb); (try clear hb); (try clear hb2); (try clear hk); (try clear hi)))
    go_ret
    exact ⟨pX, pB HB.out⟩
   rw [if_pos c48] at H
   have c48b0 : (t228 == 0) = true := beq_iff_eq.mpr c48
   have c48b1 : (t228 != 0) = false := bne_eq_false_iff_eq.mpr c48
   clear c48
   replace H := Option.bind_eq_some_iff.mp H
   obtain ⟨t229, A490, H⟩ := H
   replace H : ((garnerref09_Get.f kj6 l0 a2).bind fun t230 => (if t229 = t230 then ((garnerlaw09_awake.f kj6).bind fun t231 => (some t231)) else (some false))) = some r := H
   have A49 := Am A490
   clear A490
   replace H := Option.bind_eq_some_iff.mp H
   obtain ⟨t230, A500, H⟩ := H
   replace H : (if t229 = t230 then ((garnerlaw09_awake.f kj6).bind fun t231 => (some t231)) else (some false)) = some r := H
   have A50 := Am A500
   clear A500
   by_cases c51 : t229 = t230
   rotate_left
   ·rw [if_neg c51] at H
    have c51b0 : (t229 == t230) = false := beq_eq_false_iff_ne.mpr c51
    have c51b1 : (t229 != t230) = true := bne_iff_ne.mpr c51
    obtain rfl := Option.some.inj H
    go_wp2_with (first | ((with_reducible refine gate_callee (f := 14) rfl ?_); refine goesL_ (some 58) rfl rfl Try.func14 (by kernel_rfl) rfl #[.slice A0 l0.length c0, .slice A1 l1.length c1] rfl pL ?_; (with_reducible refine (garnerref09_Add.calls kj6 (fun k_ => k_ < w.heap.size) _ _ l0 _ _ l1 t214 _ ?Aa ?Ab ?Ae A36.out).mono ?_); (case Aa => exact Kd.V_mk HC0.out (Kd.F_below (Kd.C_F k46_heap HR0.out) (pB HB.out))); (case Ab => exact pC (Kd.C_below HR1.out HB.out)); (case Ae => exact HC1.out); rintro e w63 ⟨v215, rfl, ho0, hb⟩; refine ⟨_, rfl, ?_⟩; have Ac := Am (Kd.V_lower (Kd.V_mono (ok' := fun k_ => some k_ ≠ (v205 : Value).ownBlock) ho0 (fun k_ hk_ => Or.elim hk_ (fun hs_ => fun e_ => Nat.not_le.2 hs_ (Kd.R_base Ad.out k_ e_.symm)) (fun hn_ => (Kd.fresh' (Kd.R_lt (pR Ad.out)) k_ hn_)))) (below_size (pB HB.out))); replace Ad := bRa Ad hb; replace HB := Am (below_step (pB HB.out) hb); (try clear hb); (try clear hb2); (try clear hk); (try clear hi); (try clear ho0); obtain ⟨Be, Bf, Bg⟩ := Kd.V_slice Ac.out; subst Bg) | ((with_reducible refine gate_callee (f := 10) rfl ?_); refine goesL_ (some 60) rfl rfl Try.func10 (by kernel_rfl) rfl #[.slice Be t214.length Bf] rfl pL ?_; (with_reducible refine (garnerref09_May.calls kj6 _ _ t214 true _ ?Aa ?Ab A37.out).mono ?_); (case Aa => exact pC (Kd.V_reads' Ac.out).2.2); (case Ab => exact (Kd.V_reads' Ac.out).2.1); rintro e w' ⟨rfl, ⟨nd, rfl⟩⟩; refine ⟨_, rfl, ?_⟩) | ((with_reducible refine gate_callee (f := 15) rfl ?_); refine goesL_ (some 74) rfl rfl Try.func15 (by kernel_rfl) rfl #[.slice A1 l1.length c1] rfl pL ?_; (with_reducible refine (tally_Of.calls kj6 _ _ l1 t219 t220 _ ?Aa ?Ab A39.out).mono ?_); (case Aa => repeat (first | exact (Kd.C_below HR1.out (pB HB.out)) | (with_reducible refine Kd.C_alloc ?_ _) | (with_reducible refine Kd.C_drewN ?_ _) | (with_reducible refine Kd.C_drew ?_))); (case Ab => exact HC1.out); rintro e w65 ⟨v221, rfl, ho0, hb⟩; refine ⟨_, rfl, ?_⟩; replace Ac := Am (Kd.V_elder' (pV Ac.out) (Kd.R_base ho0) hb); have Af := Am (Kd.R_lower (Kd.R_new' ho0 (Kd.R_lt (pR Ad.out))) (below_size (pB HB.out))); replace Ad := Am (Kd.R_elder' (pR Ad.out) (Kd.R_base ho0) hb); replace HB := Am (below_step (pB HB.out) hb); (try clear hb); (try clear hb2); (try clear hk); (try clear hi); (try clear ho0); obtain ⟨Bh, Bi, Bj⟩ := Kd.R_slice Ad.out; subst Bj) | (go_at_call 16; (with_reducible refine (garnerref09_Same.calls kj6 _ _ t203 _ _ t214 true _ ?Aa ?Ab ?Ae ?Ah A42.out).mono ?_); (case Aa => exact pC (Kd.R_reads' Ad.out).2.2); (case Ab => exact (Kd.R_reads' Ad.out).2.1); (case Ae => exact pC (Kd.V_reads' Ac.out).2.2); (case Ah => exact (Kd.V_reads' Ac.out).2.1); rintro e w' ⟨rfl, ⟨nd, rfl⟩⟩) | (go_at_call 14; (refine (garnerref09_Add.calls kj6 (fun k_ => False) _ _ ([] : List (S46)) _ _ l1 t224 _ ?Aa ?Ab ?Ae A44.out).mono ?_); (case Aa => exact Kd.V_nil _ _ _ _ _); (case Ab => repeat (first | exact (Kd.C_below HR1.out (pB HB.out)) | (with_reducible refine Kd.C_alloc ?_ _) | (with_reducible refine Kd.C_drewN ?_ _) | (with_reducible refine Kd.C_drew ?_))); (case Ae => exact HC1.out); rintro e w67 ⟨v225, rfl, ho0, hb⟩; replace Ac := bVa Ac hb; have Ag := Am (Kd.V_lower (Kd.V_mono (ok' := fun k_ => some k_ ≠ (.slice Bh t203.length Bi : Value).ownBlock ∧ some k_ ≠ (v221 : Value).ownBlock) ho0 (fun k_ hk_ => ⟨Or.elim hk_ (fun hs_ => (hs_).elim) (fun hn_ => (Kd.fresh' (Kd.R_lt (pR Ad.out)) k_ hn_)), Or.elim hk_ (fun hs_ => (hs_).elim) (fun hn_ => (Kd.fresh' (Kd.R_lt (pR Af.out)) k_ hn_))⟩)) (below_size (pB HB.out))); replace Ad := bRa Ad hb; replace Af := bRa Af hb; replace HB := Am (below_step (pB HB.out) hb); (try clear hb); (try clear hb2); (try clear hk); (try clear hi); (try clear ho0); obtain ⟨Ao68, co68, Bk⟩ := Kd.R_slice Af.out; subst Bk; obtain ⟨Ao69, co69, Bl⟩ := Kd.V_slice Ag.out; subst Bl) | (go_at_call 16; (with_reducible refine (garnerref09_Same.calls kj6 _ _ t219 _ _ t224 true _ ?Aa ?Ab ?Ae ?Ah A45.out).mono ?_); (case Aa => exact pC (Kd.R_reads' Af.out).2.2); (case Ab => exact (Kd.R_reads' Af.out).2.1); (case Ae => exact pC (Kd.V_reads' Ag.out).2.2); (case Ah => exact (Kd.V_reads' Ag.out).2.1); rintro e w' ⟨rfl, ⟨nd, rfl⟩⟩) | (go_at_call 12; (with_reducible refine (tally_Check.calls kj6 _ _ l0 t228 _ ?Aa ?Ab A47.out).mono ?_); (case Aa => repeat (first | exact (Kd.C_below HR0.out (pB HB.out)) | (with_reducible refine Kd.C_alloc ?_ _) | (with_reducible refine Kd.C_drewN ?_ _) | (with_reducible refine Kd.C_drew ?_))); (case Ab => exact HC0.out); rintro e w70 ⟨rfl, hb⟩; replace Ad := bRa Ad hb; replace Ac := bVa Ac hb; replace Af := bRa Af hb; replace Ag := bVa Ag hb; replace HB := Am (below_step (pB HB.out) hb); (try clear hb); (try clear hb2); (try clear hk); (try clear hi)) | (go_at_call 13; (with_reducible refine (tally_Get.calls kj6 _ _ l0 a2 t229 _ ?Aa ?Ab A49.out).mono ?_); (case Aa => exact pC (Kd.C_below HR0.out HB.out)); (case Ab => exact HC0.out); rintro e w71 ⟨rfl, hb⟩; replace Ad := bRa Ad hb; replace Ac := bVa Ac hb; replace Af := bRa Af hb; replace Ag := bVa Ag hb; replace HB := Am (below_step (pB HB.out) hb); (try clear hb); (try clear hb2); (try clear hk); (try clear hi)) | (go_at_call 17; (with_reducible refine (garnerref09_Get.calls kj6 _ _ l0 a2 t230 _ ?Aa ?Ab A50.out).mono ?_); (case Aa => exact pC (Kd.C_below HR0.out HB.out)); (case Ab => exact HC0.out); rintro e w' ⟨rfl, ⟨nd, rfl⟩⟩))
    go_ret
    exact ⟨pX, pB HB.out⟩
   rw [if_pos c51] at H
   have c51b0 : (t229 == t230) = true := beq_iff_eq.mpr c51
   have c51b1 : (t229 != t230) = false := bne_eq_false_iff_eq.mpr c51
   clear c51
   replace H := Option.bind_eq_some_iff.mp H
   obtain ⟨t231, A520, H⟩ := H
   replace H : (some t231) = some r := H
   have A52 := Am A520
   clear A520
   obtain rfl := Option.some.inj H
   go_wp2_with (first | ((with_reducible refine gate_callee (f := 14) rfl ?_); refine goesL_ (some 58) rfl rfl Try.func14 (by kernel_rfl) rfl #[.slice A0 l0.length c0, .slice A1 l1.length c1] rfl pL ?_; (with_reducible refine (garnerref09_Add.calls kj6 (fun k_ => k_ < w.heap.size) _ _ l0 _ _ l1 t214 _ ?Aa ?Ab ?Ae A36.out).mono ?_); (case Aa => exact Kd.V_mk HC0.out (Kd.F_below (Kd.C_F k46_heap HR0.out) (pB HB.out))); (case Ab => exact pC (Kd.C_below HR1.out HB.out)); (case Ae => exact HC1.out); rintro e w53 ⟨v215, rfl, ho0, hb⟩; refine ⟨_, rfl, ?_⟩; have Ac := Am (Kd.V_lower (Kd.V_mono (ok' := fun k_ => some k_ ≠ (v205 : Value).ownBlock) ho0 (fun k_ hk_ => Or.elim hk_ (fun hs_ => fun e_ => Nat.not_le.2 hs_ (Kd.R_base Ad.out k_ e_.symm)) (fun hn_ => (Kd.fresh' (Kd.R_lt (pR Ad.out)) k_ hn_)))) (below_size (pB HB.out))); replace Ad := bRa Ad hb; replace HB := Am (below_step (pB HB.out) hb); (try clear hb); (try clear hb2); (try clear hk); (try clear hi); (try clear ho0); obtain ⟨A3, A5, A7⟩ := Kd.V_slice Ac.out; subst A7) | ((with_reducible refine gate_callee (f := 10) rfl ?_); refine goesL_ (some 60) rfl rfl Try.func10 (by kernel_rfl) rfl #[.slice A3 t214.length A5] rfl pL ?_; (with_reducible refine (garnerref09_May.calls kj6 _ _ t214 true _ ?Aa ?Ab A37.out).mono ?_); (case Aa => exact pC (Kd.V_reads' Ac.out).2.2); (case Ab => exact (Kd.V_reads' Ac.out).2.1); rintro e w' ⟨rfl, ⟨nd, rfl⟩⟩; refine ⟨_, rfl, ?_⟩) | ((with_reducible refine gate_callee (f := 15) rfl ?_); refine goesL_ (some 74) rfl rfl Try.func15 (by kernel_rfl) rfl #[.slice A1 l1.length c1] rfl pL ?_; (with_reducible refine (tally_Of.calls kj6 _ _ l1 t219 t220 _ ?Aa ?Ab A39.out).mono ?_); (case Aa => repeat (first | exact (Kd.C_below HR1.out (pB HB.out)) | (with_reducible refine Kd.C_alloc ?_ _) | (with_reducible refine Kd.C_drewN ?_ _) | (with_reducible refine Kd.C_drew ?_))); (case Ab => exact HC1.out); rintro e w55 ⟨v221, rfl, ho0, hb⟩; refine ⟨_, rfl, ?_⟩; replace Ac := Am (Kd.V_elder' (pV Ac.out) (Kd.R_base ho0) hb); have Af := Am (Kd.R_lower (Kd.R_new' ho0 (Kd.R_lt (pR Ad.out))) (below_size (pB HB.out))); replace Ad := Am (Kd.R_elder' (pR Ad.out) (Kd.R_base ho0) hb); replace HB := Am (below_step (pB HB.out) hb); (try clear hb); (try clear hb2); (try clear hk); (try clear hi); (try clear ho0); obtain ⟨A8, Ba, Bb⟩ := Kd.R_slice Ad.out; subst Bb) | (go_at_call 16; (with_reducible refine (garnerref09_Same.calls kj6 _ _ t203 _ _ t214 true _ ?Aa ?Ab ?Ae ?Ah A42.out).mono ?_); (case Aa => exact pC (Kd.R_reads' Ad.out).2.2); (case Ab => exact (Kd.R_reads' Ad.out).2.1); (case Ae => exact pC (Kd.V_reads' Ac.out).2.2); (case Ah => exact (Kd.V_reads' Ac.out).2.1); rintro e w' ⟨rfl, ⟨nd, rfl⟩⟩) | (go_at_call 14; (refine (garnerref09_Add.calls kj6 (fun k_ => False) _ _ ([] : List (S46)) _ _ l1 t224 _ ?Aa ?Ab ?Ae A44.out).mono ?_); (case Aa => exact Kd.V_nil _ _ _ _ _); (case Ab => repeat (first | exact (Kd.C_below HR1.out (pB HB.out)) | (with_reducible refine Kd.C_alloc ?_ _) | (with_reducible refine Kd.C_drewN ?_ _) | (with_reducible refine Kd.C_drew ?_))); (case Ae => exact HC1.out); rintro e w57 ⟨v225, rfl, ho0, hb⟩; replace Ac := bVa Ac hb; have Ag := Am (Kd.V_lower (Kd.V_mono (ok' := fun k_ => some k_ ≠ (.slice A8 t203.length Ba : Value).ownBlock ∧ some k_ ≠ (v221 : Value).ownBlock) ho0 (fun k_ hk_ => ⟨Or.elim hk_ (fun hs_ => (hs_).elim) (fun hn_ => (Kd.fresh' (Kd.R_lt (pR Ad.out)) k_ hn_)), Or.elim hk_ (fun hs_ => (hs_).elim) (fun hn_ => (Kd.fresh' (Kd.R_lt (pR Af.out)) k_ hn_))⟩)) (below_size (pB HB.out))); replace Ad := bRa Ad hb; replace Af := bRa Af hb; replace HB := Am (below_step (pB HB.out) hb); (try clear hb); (try clear hb2); (try clear hk); (try clear hi); (try clear ho0); obtain ⟨Ao58, co58, Bc⟩ := Kd.R_slice Af.out; subst Bc; obtain ⟨Ao59, co59, Bd⟩ := Kd.V_slice Ag.out; subst Bd) | (go_at_call 16; (with_reducible refine (garnerref09_Same.calls kj6 _ _ t219 _ _ t224 true _ ?Aa ?Ab ?Ae ?Ah A45.out).mono ?_); (case Aa => exact pC (Kd.R_reads' Af.out).2.2); (case Ab => exact (Kd.R_reads' Af.out).2.1); (case Ae => exact pC (Kd.V_reads' Ag.out).2.2); (case Ah => exact (Kd.V_reads' Ag.out).2.1); rintro e w' ⟨rfl, ⟨nd, rfl⟩⟩) | (go_at_call 12; (with_reducible refine (tally_Check.calls kj6 _ _ l0 t228 _ ?Aa ?Ab A47.out).mono ?_); (case Aa => repeat (first | exact (Kd.C_below HR0.out (pB HB.out)) | (with_reducible refine Kd.C_alloc ?_ _) | (with_reducible refine Kd.C_drewN ?_ _) | (with_reducible refine Kd.C_drew ?_))); (case Ab => exact HC0.out); rintro e w60 ⟨rfl, hb⟩; replace Ad := bRa Ad hb; replace Ac := bVa Ac hb; replace Af := bRa Af hb; replace Ag := bVa Ag hb; replace HB := Am (below_step (pB HB.out) hb); (try clear hb); (try clear hb2); (try clear hk); (try clear hi)) | (go_at_call 13; (with_reducible refine (tally_Get.calls kj6 _ _ l0 a2 t229 _ ?Aa ?Ab A49.out).mono ?_); (case Aa => exact pC (Kd.C_below HR0.out HB.out)); (case Ab => exact HC0.out); rintro e w61 ⟨rfl, hb⟩; replace Ad := bRa Ad hb; replace Ac := bVa Ac hb; replace Af := bRa Af hb; replace Ag := bVa Ag hb; replace HB := Am (below_step (pB HB.out) hb); (try clear hb); (try clear hb2); (try clear hk); (try clear hi)) | (go_at_call 17; (with_reducible refine (garnerref09_Get.calls kj6 _ _ l0 a2 t230 _ ?Aa ?Ab A50.out).mono ?_); (case Aa => exact pC (Kd.C_below HR0.out HB.out)); (case Ab => exact HC0.out); rintro e w' ⟨rfl, ⟨nd, rfl⟩⟩) | (go_at_call 8; (with_reducible refine (garnerlaw09_awake.calls kj6  t231 _ A52.out).mono ?_); rintro e w62 ⟨rfl, hb⟩; replace Ad := bRa Ad hb; replace Ac := bVa Ac hb; replace Af := bRa Af hb; replace Ag := bVa Ag hb; replace HB := Am (below_step (pB HB.out) hb); (try clear hb); (try clear hb2); (try clear hk); (try clear hi)))
   go_ret
   exact ⟨pX, pB HB.out⟩
end Go.Proofs.Ytkapmlijeilieaa.PTallyAdds
