/- What the law reaches, as plain Lean functions, and that the machine's calls answer just that. -/
import Derived.Test.YtkapmlijeilieaaPTallyJoinsx0
import Derived.Test.YtkapmlijeilieaaPTallyJoinsx2
import Derived.Test.YtkapmlijeilieaaPTallyJoinsx3
import Derived.Test.YtkapmlijeilieaaPTallyJoinsx4
namespace Go.Proofs.Ytkapmlijeilieaa.PTallyJoins
open Go.RowKit Go.Proofs.YtkapmlijeilieaaW.PrintWords Go.Proofs.YtkapmlijeilieaaW.PrintLast Go.Proofs.YtkapmlijeilieaaW.PrintMore
attribute [local go_sem] max2_int min2_int max_two min_two max_three min_three max_four min_four
set_option linter.unusedVariables false
set_option linter.unusedSimpArgs false
attribute [local go_sem] wrap64_l1 wrap64_l2 wrap64_l3 wrap64_l4 wrap64_l5
mutual
def garnerlaw09_TallyJoins.j0 : Nat → List (S43) → List (S43) → List (S46) → Bool → Option (Bool)
 | 0, _, _, _, _ => none
 | k + 1, x0, x1, x2, x25 => if x25 = true then ((garnerlaw09_awake.f k).bind fun t184 => (some t184)) else ((tally_Join.f k x2 ([] : List (S46))).bind fun bt185 => ((garnerref09_May.f k x2).bind fun t189 => (if ((bt185.2 == 1) == t189) = true then (some false) else ((tally_Of.f k x0).bind fun bt190 => ((tally_Of.f k x1).bind fun bt194 => (if bt190.2 = 0 then (garnerlaw09_TallyJoins.j1 k x0 x1 bt190.1 bt194.1 (bt194.2 != 0)) else (garnerlaw09_TallyJoins.j1 k x0 x1 bt190.1 bt194.1 true)))))))
def garnerlaw09_TallyJoins.j1 : Nat → List (S43) → List (S43) → List (S46) → List (S46) → Bool → Option (Bool)
 | 0, _, _, _, _, _ => none
 | k + 1, x0, x1, x9, x11, x52 => if x52 = true then ((garnerlaw09_awake.f k).bind fun t198 => (some t198)) else ((tally_Join.f k x9 x11).bind fun bt199 => ((some (([] : List (S43)) : List (S43))).bind fun y203 => (if y203.length + x0.length < 4398046511104 then ((some (y203 ++ x0 : List (S43))).bind fun y206 => (if y206.length + x1.length < 4398046511104 then ((tally_Of.f k (y206 ++ x1)).bind fun bt212 => (if bt199.2 = 0 then (if bt212.2 = 0 then ((garnerref09_Same.f k bt199.1 bt212.1).bind fun t216 => (if t216 = true then ((garnerlaw09_awake.f k).bind fun t217 => (some t217)) else (some false))) else (some false)) else (some false))) else (none))) else (none))))
end
def garnerlaw09_TallyJoins.f (k : Nat) (l0 : List (S43)) (l1 : List (S43)) (l2 : List (S46)) : Option (Bool) := (garnerlaw09_light.f l2 l0).bind fun t183 => (if t183 = true then (garnerlaw09_TallyJoins.j0 k l0 l1 l2 (decide ((l1.length : Int) > 60))) else (garnerlaw09_TallyJoins.j0 k l0 l1 l2 true))
theorem garnerlaw09_TallyJoins.mono_l : ∀ k, (∀ y0 y1 y2 y3, LeO (garnerlaw09_TallyJoins.j0 k y0 y1 y2 y3) (garnerlaw09_TallyJoins.j0 (k + 1) y0 y1 y2 y3)) ∧ (∀ y0 y1 y2 y3 y4, LeO (garnerlaw09_TallyJoins.j1 k y0 y1 y2 y3 y4) (garnerlaw09_TallyJoins.j1 (k + 1) y0 y1 y2 y3 y4))
 | 0 => ⟨fun _ _ _ _ r h => by simp [garnerlaw09_TallyJoins.j0] at h, fun _ _ _ _ _ r h => by simp [garnerlaw09_TallyJoins.j1] at h⟩
 | k + 1 => by
  obtain ⟨ih0, ih1⟩ := garnerlaw09_TallyJoins.mono_l k
  refine ⟨?_, ?_⟩
  ·intro y0 y1 y2 y3
   unfold garnerlaw09_TallyJoins.j0
   repeat' first
   | (with_reducible exact ih0 _ _ _ _)
   | (with_reducible exact ih1 _ _ _ _ _)
   | (with_reducible exact garnerlaw09_awake.mono _)
   | (with_reducible exact garnerref09_May.mono _ _)
   | (with_reducible exact garnerref09_Same.mono _ _ _)
   | (with_reducible exact tally_Join.mono _ _ _)
   | (with_reducible exact tally_Of.mono _ _)
   | (with_reducible exact LeO.refl _)
   | (with_reducible exact LeO.none _)
   | (with_reducible refine LeO.ite ?_ ?_)
   | (with_reducible refine LeO.bind ?_ (fun _ => ?_))
   | exact ih0 _ _ _ _
   | exact ih1 _ _ _ _ _
   | exact garnerlaw09_awake.mono _
   | exact garnerref09_May.mono _ _
   | exact garnerref09_Same.mono _ _ _
   | exact tally_Join.mono _ _ _
   | exact tally_Of.mono _ _
   | exact LeO.none _
   | refine LeO.ite ?_ ?_
   | refine LeO.bind ?_ (fun _ => ?_)
  ·intro y0 y1 y2 y3 y4
   unfold garnerlaw09_TallyJoins.j1
   repeat' first
   | (with_reducible exact ih0 _ _ _ _)
   | (with_reducible exact ih1 _ _ _ _ _)
   | (with_reducible exact garnerlaw09_awake.mono _)
   | (with_reducible exact garnerref09_May.mono _ _)
   | (with_reducible exact garnerref09_Same.mono _ _ _)
   | (with_reducible exact tally_Join.mono _ _ _)
   | (with_reducible exact tally_Of.mono _ _)
   | (with_reducible exact LeO.refl _)
   | (with_reducible exact LeO.none _)
   | (with_reducible refine LeO.ite ?_ ?_)
   | (with_reducible refine LeO.bind ?_ (fun _ => ?_))
   | exact ih0 _ _ _ _
   | exact ih1 _ _ _ _ _
   | exact garnerlaw09_awake.mono _
   | exact garnerref09_May.mono _ _
   | exact garnerref09_Same.mono _ _ _
   | exact tally_Join.mono _ _ _
   | exact tally_Of.mono _ _
   | exact LeO.none _
   | refine LeO.ite ?_ ?_
   | refine LeO.bind ?_ (fun _ => ?_)
theorem garnerlaw09_TallyJoins.mono : ∀ a0 a1 a2 k, LeO (garnerlaw09_TallyJoins.f k a0 a1 a2) (garnerlaw09_TallyJoins.f (k + 1) a0 a1 a2) := by
 intro a0 a1 a2 k
 obtain ⟨ih0, ih1⟩ := garnerlaw09_TallyJoins.mono_l k
 unfold garnerlaw09_TallyJoins.f
 repeat' first
   | (with_reducible exact ih0 _ _ _ _)
   | (with_reducible exact ih1 _ _ _ _ _)
   | (with_reducible exact garnerlaw09_awake.mono _)
   | (with_reducible exact garnerref09_May.mono _ _)
   | (with_reducible exact garnerref09_Same.mono _ _ _)
   | (with_reducible exact tally_Join.mono _ _ _)
   | (with_reducible exact tally_Of.mono _ _)
   | (with_reducible exact LeO.refl _)
   | (with_reducible exact LeO.none _)
   | (with_reducible refine LeO.ite ?_ ?_)
   | (with_reducible refine LeO.bind ?_ (fun _ => ?_))
   | exact ih0 _ _ _ _
   | exact ih1 _ _ _ _ _
   | exact garnerlaw09_awake.mono _
   | exact garnerref09_May.mono _ _
   | exact garnerref09_Same.mono _ _ _
   | exact tally_Join.mono _ _ _
   | exact tally_Of.mono _ _
   | exact LeO.none _
   | refine LeO.ite ?_ ?_
   | refine LeO.bind ?_ (fun _ => ?_)
set_option maxHeartbeats 8000000 in
set_option maxRecDepth 100000 in
theorem garnerlaw09_TallyJoins.calls (k : Nat) (A0 : Option Addr) (c0 : Nat) (l0 : List (S43)) (A1 : Option Addr) (c1 : Nat) (l1 : List (S43)) (A2 : Option Addr) (c2 : Nat) (l2 : List (S46)) (r : Bool) (w : World) (hr0 : Kd.C k43 w A0 l0.length l0) (hc0 : l0.length ≤ c0) (hr1 : Kd.C k43 w A1 l1.length l1) (hc1 : l1.length ≤ c1) (hr2 : Kd.C k46 w A2 l2.length l2) (hc2 : l2.length ≤ c2) (h : garnerlaw09_TallyJoins.f k l0 l1 l2 = some r) :
  Calls Try.prog 4 #[.slice A0 l0.length c0, .slice A1 l1.length c1, .slice A2 l2.length c2] w fun e w' => e = .returned (.bool r) ∧ Below w.heap.size w w' := by
 have HR0 := Am hr0
 have HC0 := Am hc0
 clear hr0 hc0
 have HR1 := Am hr1
 have HC1 := Am hc1
 clear hr1 hc1
 have HR2 := Am hr2
 have HC2 := Am hc2
 clear hr2 hc2
 have HB := Am (Below.refl w.heap.size w)
 have H : ((garnerlaw09_light.f l2 l0).bind fun t183 => (if t183 = true then (garnerlaw09_TallyJoins.j0 k l0 l1 l2 (decide ((l1.length : Int) > 60))) else (garnerlaw09_TallyJoins.j0 k l0 l1 l2 true))) = some r := h
 clear h
 have HC4 := Am H
 clear H
 go_enter Try.func4, Try.ntmps4
 go_upto_region 1 with (fail)
 go_cut [25] (fun v25 wc => ∃ (kq : Nat) (Ap : Bool), v25 = .bool Ap ∧ Aside0 (garnerlaw09_TallyJoins.j0 kq l0 l1 l2 Ap = some r) ∧ Aside0 (kq ≤ k) ∧ Aside0 (Below w.heap.size w wc))
 case first =>
  have H := HC4.out
  clear HC4
  replace H := Option.bind_eq_some_iff.mp H
  obtain ⟨t183, A50, H⟩ := H
  replace H : (if t183 = true then (garnerlaw09_TallyJoins.j0 k l0 l1 l2 (decide ((l1.length : Int) > 60))) else (garnerlaw09_TallyJoins.j0 k l0 l1 l2 true)) = some r := H
  have A5 := Am A50
  clear A50
  by_cases c6 : t183 = true
  ·subst c6
   have H1 : (garnerlaw09_TallyJoins.j0 k l0 l1 l2 (decide ((l1.length : Int) > 60))) = some r := by rw [if_pos rfl] at H; exact H
   clear H
   have H := H1
   clear H1
   have H' := Am H
   clear H
   go_wp2_with (first | ((with_reducible refine gate_callee (f := 7) rfl ?_); refine goesL_ (some 19) rfl rfl Try.func7 (by kernel_rfl) rfl #[.slice A2 l2.length c2, .slice A0 l0.length c0] rfl pL ?_; (with_reducible refine (garnerlaw09_light.calls _ _ l2 _ _ l0 true _ ?Ad ?Ae ?Ai ?Aj A5.out).mono ?_); (case Ad => exact pC (Kd.C_below HR2.out HB.out)); (case Ae => exact HC2.out); (case Ai => exact pC (Kd.C_below HR0.out HB.out)); (case Aj => exact HC0.out); rintro e w' ⟨rfl, ⟨nd, rfl⟩⟩; refine ⟨_, rfl, ?_⟩))
   go_meet
   case rel => exact ⟨_, (decide ((l1.length : Int) > 60)), (by first | rfl | (simp; done) | (simp [*]; done)), H', ⟨by first | omega | exact Nat.le_refl _⟩, ⟨pB HB.out⟩⟩
  replace c6 := Bool.eq_false_iff.mpr c6
  subst c6
  have H1 : (garnerlaw09_TallyJoins.j0 k l0 l1 l2 true) = some r := by rw [if_neg (show ¬ (false = true) by decide)] at H; exact H
  clear H
  have H := H1
  clear H1
  have H' := Am H
  clear H
  go_wp2_with (first | ((with_reducible refine gate_callee (f := 7) rfl ?_); refine goesL_ (some 19) rfl rfl Try.func7 (by kernel_rfl) rfl #[.slice A2 l2.length c2, .slice A0 l0.length c0] rfl pL ?_; (with_reducible refine (garnerlaw09_light.calls _ _ l2 _ _ l0 false _ ?Ad ?Ae ?Ai ?Aj A5.out).mono ?_); (case Ad => exact pC (Kd.C_below HR2.out HB.out)); (case Ae => exact HC2.out); (case Ai => exact pC (Kd.C_below HR0.out HB.out)); (case Aj => exact HC0.out); rintro e w' ⟨rfl, ⟨nd, rfl⟩⟩; refine ⟨_, rfl, ?_⟩))
  go_meet
  case rel => exact ⟨_, (true), (by first | rfl | (simp; done) | (simp [*]; done)), H', ⟨by first | omega | exact Nat.le_refl _⟩, ⟨pB HB.out⟩⟩
 case rest =>
  clear HC4
  try clear c1
  try clear c2
  try clear p2
  try clear c4
  try clear c6
  obtain ⟨kq, Ap, rfl, HA, HJ3, HB⟩ := hcut
  cases kq with
  | zero => exact absurd HA.out (by simp [garnerlaw09_TallyJoins.j0])
  | succ kj3 =>
   have H := HA.out
   clear HA
   simp only [garnerlaw09_TallyJoins.j0] at H
   by_cases c7 : Ap = true
   ·subst c7
    have H1 : ((garnerlaw09_awake.f kj3).bind fun t184 => (some t184)) = some r := by rw [if_pos rfl] at H; exact H
    clear H
    have H := H1
    clear H1
    replace H := Option.bind_eq_some_iff.mp H
    obtain ⟨t184, A80, H⟩ := H
    replace H : (some t184) = some r := H
    have A8 := Am A80
    clear A80
    obtain rfl := Option.some.inj H
    go_wp2_with (first | ((with_reducible refine gate_callee (f := 8) rfl ?_); refine goesL_ (some 26) rfl rfl Try.func8 (by kernel_rfl) rfl #[] rfl pL ?_; (with_reducible refine (garnerlaw09_awake.calls kj3  t184 _ A8.out).mono ?_); rintro e w9 ⟨rfl, hb⟩; refine ⟨_, rfl, ?_⟩; replace HB := Am (below_step (pB HB.out) hb); (try clear hb); (try clear hb2); (try clear hk); (try clear hi)))
    go_ret
    exact ⟨pX, pB HB.out⟩
   replace c7 := Bool.eq_false_iff.mpr c7
   subst c7
   have H1 : ((tally_Join.f kj3 l2 ([] : List (S46))).bind fun bt185 => ((garnerref09_May.f kj3 l2).bind fun t189 => (if ((bt185.2 == 1) == t189) = true then (some false) else ((tally_Of.f kj3 l0).bind fun bt190 => ((tally_Of.f kj3 l1).bind fun bt194 => (if bt190.2 = 0 then (garnerlaw09_TallyJoins.j1 kj3 l0 l1 bt190.1 bt194.1 (bt194.2 != 0)) else (garnerlaw09_TallyJoins.j1 kj3 l0 l1 bt190.1 bt194.1 true))))))) = some r := by rw [if_neg (show ¬ (false = true) by decide)] at H; exact H
   clear H
   have H := H1
   clear H1
   replace H := Option.bind_eq_some_iff.mp H
   obtain ⟨⟨t185, t186⟩, A100, H⟩ := H
   replace H : ((garnerref09_May.f kj3 l2).bind fun t189 => (if ((t186 == 1) == t189) = true then (some false) else ((tally_Of.f kj3 l0).bind fun bt190 => ((tally_Of.f kj3 l1).bind fun bt194 => (if bt190.2 = 0 then (garnerlaw09_TallyJoins.j1 kj3 l0 l1 bt190.1 bt194.1 (bt194.2 != 0)) else (garnerlaw09_TallyJoins.j1 kj3 l0 l1 bt190.1 bt194.1 true)))))) = some r := H
   have A10 := Am A100
   clear A100
   replace H := Option.bind_eq_some_iff.mp H
   obtain ⟨t189, A110, H⟩ := H
   replace H : (if ((t186 == 1) == t189) = true then (some false) else ((tally_Of.f kj3 l0).bind fun bt190 => ((tally_Of.f kj3 l1).bind fun bt194 => (if bt190.2 = 0 then (garnerlaw09_TallyJoins.j1 kj3 l0 l1 bt190.1 bt194.1 (bt194.2 != 0)) else (garnerlaw09_TallyJoins.j1 kj3 l0 l1 bt190.1 bt194.1 true))))) = some r := H
   have A11 := Am A110
   clear A110
   by_cases c12 : ((t186 == 1) == t189) = true
   ·rw [if_pos c12] at H
    have c12b0 : ((t186 == 1) == t189) = true := c12
    (try (have c12b1 : decide ((t186 == 1) = t189) = true := by simpa using c12))
    (try (have c12b2 : ((t186 == 1) == t189) = true := by simpa using c12))
    clear c12
    obtain rfl := Option.some.inj H
    go_wp2_with (first | ((with_reducible refine gate_callee (f := 18) rfl ?_); refine goesL_ (some 29) rfl rfl Try.func18 (by kernel_rfl) rfl #[.slice A2 l2.length c2, .slice none 0 0] rfl pL ?_; (refine (tally_Join.calls kj3 _ _ l2 _ _ ([] : List (S46)) t185 t186 _ ?Ad ?Ae ?Ai ?Aj A10.out).mono ?_); (case Ad => exact pC (Kd.C_below HR2.out HB.out)); (case Ae => exact HC2.out); (case Ai => exact Kd.C_nil _ _); (case Aj => exact Nat.le_refl _); rintro e w13 ⟨v187, rfl, ho0, hb⟩; refine ⟨_, rfl, ?_⟩; have Al := Am (Kd.R_lower ho0 (below_size (pB HB.out))); replace HB := Am (below_step (pB HB.out) hb); (try clear hb); (try clear hb2); (try clear hk); (try clear hi); (try clear ho0)) | ((with_reducible refine gate_callee (f := 10) rfl ?_); refine goesL_ (some 35) rfl rfl Try.func10 (by kernel_rfl) rfl #[.slice A2 l2.length c2] rfl pL ?_; (with_reducible refine (garnerref09_May.calls kj3 _ _ l2 t189 _ ?Ad ?Ae A11.out).mono ?_); (case Ad => exact pC (Kd.C_below HR2.out HB.out)); (case Ae => exact HC2.out); rintro e w' ⟨rfl, ⟨nd, rfl⟩⟩; refine ⟨_, rfl, ?_⟩))
    go_ret
    exact ⟨pX, pB HB.out⟩
   rw [if_neg c12] at H
   have c12b0 : ((t186 == 1) == t189) = false := by simpa using c12
   (try (have c12b1 : decide ((t186 == 1) = t189) = false := by simpa using c12))
   (try (have c12b2 : ((t186 == 1) == t189) = false := by simpa using c12))
   (try (have c12b3 : ¬ ((t186 == 1) = t189) := by simpa using c12))
   clear c12
   replace H := Option.bind_eq_some_iff.mp H
   obtain ⟨⟨t190, t191⟩, A140, H⟩ := H
   replace H : ((tally_Of.f kj3 l1).bind fun bt194 => (if t191 = 0 then (garnerlaw09_TallyJoins.j1 kj3 l0 l1 t190 bt194.1 (bt194.2 != 0)) else (garnerlaw09_TallyJoins.j1 kj3 l0 l1 t190 bt194.1 true))) = some r := H
   have A14 := Am A140
   clear A140
   replace H := Option.bind_eq_some_iff.mp H
   obtain ⟨⟨t194, t195⟩, A150, H⟩ := H
   replace H : (if t191 = 0 then (garnerlaw09_TallyJoins.j1 kj3 l0 l1 t190 t194 (t195 != 0)) else (garnerlaw09_TallyJoins.j1 kj3 l0 l1 t190 t194 true)) = some r := H
   have A15 := Am A150
   clear A150
   have HC16 := Am H
   clear H
   go_upto_region 8 with (first | ((with_reducible refine gate_callee (f := 18) rfl ?_); refine goesL_ (some 29) rfl rfl Try.func18 (by kernel_rfl) rfl #[.slice A2 l2.length c2, .slice none 0 0] rfl pL ?_; (refine (tally_Join.calls kj3 _ _ l2 _ _ ([] : List (S46)) t185 t186 _ ?Ad ?Ae ?Ai ?Aj A10.out).mono ?_); (case Ad => exact pC (Kd.C_below HR2.out HB.out)); (case Ae => exact HC2.out); (case Ai => exact Kd.C_nil _ _); (case Aj => exact Nat.le_refl _); rintro e w17 ⟨v187, rfl, ho0, hb⟩; refine ⟨_, rfl, ?_⟩; have Al := Am (Kd.R_lower ho0 (below_size (pB HB.out))); replace HB := Am (below_step (pB HB.out) hb); (try clear hb); (try clear hb2); (try clear hk); (try clear hi); (try clear ho0)) | ((with_reducible refine gate_callee (f := 10) rfl ?_); refine goesL_ (some 35) rfl rfl Try.func10 (by kernel_rfl) rfl #[.slice A2 l2.length c2] rfl pL ?_; (with_reducible refine (garnerref09_May.calls kj3 _ _ l2 t189 _ ?Ad ?Ae A11.out).mono ?_); (case Ad => exact pC (Kd.C_below HR2.out HB.out)); (case Ae => exact HC2.out); rintro e w' ⟨rfl, ⟨nd, rfl⟩⟩; refine ⟨_, rfl, ?_⟩) | ((with_reducible refine gate_callee (f := 15) rfl ?_); refine goesL_ (some 39) rfl rfl Try.func15 (by kernel_rfl) rfl #[.slice A0 l0.length c0] rfl pL ?_; (with_reducible refine (tally_Of.calls kj3 _ _ l0 t190 t191 _ ?Ad ?Ae A14.out).mono ?_); (case Ad => repeat (first | exact (Kd.C_below HR0.out (pB HB.out)) | (with_reducible refine Kd.C_alloc ?_ _) | (with_reducible refine Kd.C_drewN ?_ _) | (with_reducible refine Kd.C_drew ?_))); (case Ae => exact HC0.out); rintro e w18 ⟨v192, rfl, ho0, hb⟩; refine ⟨_, rfl, ?_⟩; have Ao := Am (Kd.R_lower (Kd.R_new' ho0 (Kd.R_lt (pR Al.out))) (below_size (pB HB.out))); replace Al := Am (Kd.R_elder' (pR Al.out) (Kd.R_base ho0) hb); replace HB := Am (below_step (pB HB.out) hb); (try clear hb); (try clear hb2); (try clear hk); (try clear hi); (try clear ho0)) | ((with_reducible refine gate_callee (f := 15) rfl ?_); refine goesL_ (some 44) rfl rfl Try.func15 (by kernel_rfl) rfl #[.slice A1 l1.length c1] rfl pL ?_; (with_reducible refine (tally_Of.calls kj3 _ _ l1 t194 t195 _ ?Ad ?Ae A15.out).mono ?_); (case Ad => exact pC (Kd.C_below HR1.out HB.out)); (case Ae => exact HC1.out); rintro e w19 ⟨v196, rfl, ho0, hb⟩; refine ⟨_, rfl, ?_⟩; have Aq := Am (Kd.R_lower (Kd.R_new' (Kd.R_new' ho0 (Kd.R_lt (pR Al.out))) (Kd.R_lt (pR Ao.out))) (below_size (pB HB.out))); replace Al := Am (Kd.R_elder' (pR Al.out) (Kd.R_base ho0) hb); replace Ao := Am (Kd.R_elder' (pR Ao.out) (Kd.R_base ho0) hb); replace HB := Am (below_step (pB HB.out) hb); (try clear hb); (try clear hb2); (try clear hk); (try clear hi); (try clear ho0)))
   (try simp only [Act.put, List.setIfInBounds_toArray, List.set_cons_zero, List.set_cons_succ])
   go_cut [52] (fun v52 wc => ∃ (kq : Nat) (An : Bool), v52 = .bool An ∧ Aside0 (garnerlaw09_TallyJoins.j1 kq l0 l1 t190 t194 An = some r) ∧ Aside0 (kq ≤ kj3) ∧ Aside0 (Kd.R k46 46 wc w.heap.size (fun k_ => some k_ ≠ (v196 : Value).ownBlock) v192 t190) ∧ Aside0 (Kd.R k46 46 wc w.heap.size (fun k_ => some k_ ≠ (v192 : Value).ownBlock) v196 t194) ∧ Aside0 (Below w.heap.size w wc))
   case first =>
    have H := HC16.out
    clear HC16
    by_cases c20 : t191 = 0
    rotate_left
    ·rw [if_neg c20] at H
     have c20b0 : (t191 == 0) = false := beq_eq_false_iff_ne.mpr c20
     have c20b1 : (t191 != 0) = true := bne_iff_ne.mpr c20
     (first | rw [c20b0] | (simp only [i64_w, i32_w]; rw [c20b0]) | skip)
     have H' := Am H
     clear H
     go_wp2
     go_meet
     case rel => exact ⟨_, (true), (by first | rfl | (simp; done) | (simp [*]; done)), H', ⟨by have := HJ3.out; first | omega | exact Nat.le_refl _⟩, ⟨by (with_reducible repeat (first | apply Kd.R_alloc | apply Kd.R_drewN | apply Kd.R_drew)); exact Kd.R_mono Ao.out (fun _ hk => hk.2)⟩, ⟨by (with_reducible repeat (first | apply Kd.R_alloc | apply Kd.R_drewN | apply Kd.R_drew)); exact Kd.R_mono Aq.out (fun _ hk => hk.2)⟩, ⟨pB HB.out⟩⟩
    rw [if_pos c20] at H
    have c20b0 : (t191 == 0) = true := beq_iff_eq.mpr c20
    have c20b1 : (t191 != 0) = false := bne_eq_false_iff_eq.mpr c20
    clear c20
    (first | rw [c20b0] | (simp only [i64_w, i32_w]; rw [c20b0]) | skip)
    have H' := Am H
    clear H
    go_wp2
    go_meet
    case rel => exact ⟨_, ((t195 != 0)), (by first | rfl | (simp; done) | (simp [*]; done)), H', ⟨by have := HJ3.out; first | omega | exact Nat.le_refl _⟩, ⟨by (with_reducible repeat (first | apply Kd.R_alloc | apply Kd.R_drewN | apply Kd.R_drew)); exact Kd.R_mono Ao.out (fun _ hk => hk.2)⟩, ⟨by (with_reducible repeat (first | apply Kd.R_alloc | apply Kd.R_drewN | apply Kd.R_drew)); exact Kd.R_mono Aq.out (fun _ hk => hk.2)⟩, ⟨pB HB.out⟩⟩
   case rest =>
    clear HC16
    try clear c1
    try clear c2
    try clear p2
    try clear c4
    try clear c6
    try clear c7
    try clear c8
    try clear c10
    try clear c12
    try clear c12b0
    try clear c12b1
    try clear c12b2
    try clear c15
    try clear c18
    try clear c20
    try clear c20b0
    try clear c20b1
    try clear p2
    obtain ⟨kq, An, rfl, HA, HJ15, Ac, Aa, HB⟩ := hcut
    cases kq with
    | zero => exact absurd HA.out (by simp [garnerlaw09_TallyJoins.j1])
    | succ kj15 =>
     have H := HA.out
     clear HA
     simp only [garnerlaw09_TallyJoins.j1] at H
     by_cases c21 : An = true
     ·subst c21
      have H1 : ((garnerlaw09_awake.f kj15).bind fun t198 => (some t198)) = some r := by rw [if_pos rfl] at H; exact H
      clear H
      have H := H1
      clear H1
      replace H := Option.bind_eq_some_iff.mp H
      obtain ⟨t198, A220, H⟩ := H
      replace H : (some t198) = some r := H
      have A22 := Am A220
      clear A220
      obtain rfl := Option.some.inj H
      go_wp2_with (first | ((with_reducible refine gate_callee (f := 8) rfl ?_); refine goesL_ (some 53) rfl rfl Try.func8 (by kernel_rfl) rfl #[] rfl pL ?_; (with_reducible refine (garnerlaw09_awake.calls kj15  t198 _ A22.out).mono ?_); rintro e w23 ⟨rfl, hb⟩; refine ⟨_, rfl, ?_⟩; replace Ac := bRa Ac hb; replace Aa := bRa Aa hb; replace HB := Am (below_step (pB HB.out) hb); (try clear hb); (try clear hb2); (try clear hk); (try clear hi)))
      go_ret
      exact ⟨pX, pB HB.out⟩
     replace c21 := Bool.eq_false_iff.mpr c21
     subst c21
     have H1 : ((tally_Join.f kj15 t190 t194).bind fun bt199 => ((some (([] : List (S43)) : List (S43))).bind fun y203 => (if y203.length + l0.length < 4398046511104 then ((some (y203 ++ l0 : List (S43))).bind fun y206 => (if y206.length + l1.length < 4398046511104 then ((tally_Of.f kj15 (y206 ++ l1)).bind fun bt212 => (if bt199.2 = 0 then (if bt212.2 = 0 then ((garnerref09_Same.f kj15 bt199.1 bt212.1).bind fun t216 => (if t216 = true then ((garnerlaw09_awake.f kj15).bind fun t217 => (some t217)) else (some false))) else (some false)) else (some false))) else (none))) else (none)))) = some r := by rw [if_neg (show ¬ (false = true) by decide)] at H; exact H
     clear H
     have H := H1
     clear H1
     replace H := Option.bind_eq_some_iff.mp H
     obtain ⟨⟨t199, t200⟩, A240, H⟩ := H
     replace H : ((some (([] : List (S43)) : List (S43))).bind fun y203 => (if y203.length + l0.length < 4398046511104 then ((some (y203 ++ l0 : List (S43))).bind fun y206 => (if y206.length + l1.length < 4398046511104 then ((tally_Of.f kj15 (y206 ++ l1)).bind fun bt212 => (if t200 = 0 then (if bt212.2 = 0 then ((garnerref09_Same.f kj15 t199 bt212.1).bind fun t216 => (if t216 = true then ((garnerlaw09_awake.f kj15).bind fun t217 => (some t217)) else (some false))) else (some false)) else (some false))) else (none))) else (none))) = some r := H
     have A24 := Am A240
     clear A240
     obtain ⟨y203, hy203⟩ : ∃ y_ : List (S43), y_ = (([] : List (S43))) := ⟨_, rfl⟩
     replace H : (if y203.length + l0.length < 4398046511104 then ((some (y203 ++ l0 : List (S43))).bind fun y206 => (if y206.length + l1.length < 4398046511104 then ((tally_Of.f kj15 (y206 ++ l1)).bind fun bt212 => (if t200 = 0 then (if bt212.2 = 0 then ((garnerref09_Same.f kj15 t199 bt212.1).bind fun t216 => (if t216 = true then ((garnerlaw09_awake.f kj15).bind fun t217 => (some t217)) else (some false))) else (some false)) else (some false))) else (none))) else (none)) = some r := by first | (rw [hy203]; with_reducible exact H) | (have H2_ := (Option.bind_some _ _).symm.trans H; rw [hy203]; with_reducible exact H2_) | (have H2_ := (Option.bind_some _ _).symm.trans H; with_reducible exact H2_) | with_reducible exact H | (rw [hy203]; exact H) | exact H
     have Ny203 := Am hy203
     clear hy203
     by_cases c25 : y203.length + l0.length < 4398046511104
     rotate_left
     ·rw [if_neg c25] at H
      exact absurd H (by simp)
     rw [if_pos c25] at H
     have LMc25 := Am c25
     clear c25
     obtain ⟨y206, hy206⟩ : ∃ y_ : List (S43), y_ = (y203 ++ l0) := ⟨_, rfl⟩
     replace H : (if y206.length + l1.length < 4398046511104 then ((tally_Of.f kj15 (y206 ++ l1)).bind fun bt212 => (if t200 = 0 then (if bt212.2 = 0 then ((garnerref09_Same.f kj15 t199 bt212.1).bind fun t216 => (if t216 = true then ((garnerlaw09_awake.f kj15).bind fun t217 => (some t217)) else (some false))) else (some false)) else (some false))) else (none)) = some r := by first | (rw [hy206]; with_reducible exact H) | (have H2_ := (Option.bind_some _ _).symm.trans H; rw [hy206]; with_reducible exact H2_) | (have H2_ := (Option.bind_some _ _).symm.trans H; with_reducible exact H2_) | with_reducible exact H | (rw [hy206]; exact H) | exact H
     have Ny206 := Am hy206
     clear hy206
     by_cases c26 : y206.length + l1.length < 4398046511104
     rotate_left
     ·rw [if_neg c26] at H
      exact absurd H (by simp)
     rw [if_pos c26] at H
     have LMc26 := Am c26
     clear c26
     obtain ⟨y209, hy209⟩ : ∃ y_ : List (S43), y_ = (y206 ++ l1) := ⟨_, rfl⟩
     replace H : ((tally_Of.f kj15 y209).bind fun bt212 => (if t200 = 0 then (if bt212.2 = 0 then ((garnerref09_Same.f kj15 t199 bt212.1).bind fun t216 => (if t216 = true then ((garnerlaw09_awake.f kj15).bind fun t217 => (some t217)) else (some false))) else (some false)) else (some false))) = some r := by first | (rw [hy209]; with_reducible exact H) | (have H2_ := (Option.bind_some _ _).symm.trans H; rw [hy209]; with_reducible exact H2_) | (have H2_ := (Option.bind_some _ _).symm.trans H; with_reducible exact H2_) | with_reducible exact H | (rw [hy209]; exact H) | exact H
     have Ny209 := Am hy209
     clear hy209
     replace H := Option.bind_eq_some_iff.mp H
     obtain ⟨⟨t212, t213⟩, A270, H⟩ := H
     replace H : (if t200 = 0 then (if t213 = 0 then ((garnerref09_Same.f kj15 t199 t212).bind fun t216 => (if t216 = true then ((garnerlaw09_awake.f kj15).bind fun t217 => (some t217)) else (some false))) else (some false)) else (some false)) = some r := H
     have A27 := Am A270
     clear A270
     by_cases c28 : t200 = 0
     rotate_left
     ·rw [if_neg c28] at H
      have c28b0 : (t200 == 0) = false := beq_eq_false_iff_ne.mpr c28
      have c28b1 : (t200 != 0) = true := bne_iff_ne.mpr c28
      obtain rfl := Option.some.inj H
      obtain ⟨Br, Bs, Bt⟩ := Kd.R_slice Ac.out
      subst Bt
      obtain ⟨Bu, Bv, Bw⟩ := Kd.R_slice Aa.out
      subst Bw
      go_wp2_with (first | ((with_reducible refine gate_callee (f := 18) rfl ?_); refine goesL_ (some 57) rfl rfl Try.func18 (by kernel_rfl) rfl #[.slice Br t190.length Bs, .slice Bu t194.length Bv] rfl pL ?_; (with_reducible refine (tally_Join.calls kj15 _ _ t190 _ _ t194 t199 t200 _ ?Ad ?Ae ?Ai ?Aj A24.out).mono ?_); (case Ad => exact pC (Kd.R_reads' Ac.out).2.2); (case Ae => exact (Kd.R_reads' Ac.out).2.1); (case Ai => exact pC (Kd.R_reads' Aa.out).2.2); (case Aj => exact (Kd.R_reads' Aa.out).2.1); rintro e w67 ⟨v201, rfl, ho0, hb⟩; refine ⟨_, rfl, ?_⟩; have Ab := Am (Kd.R_lower (Kd.R_new' (Kd.R_new' ho0 (Kd.R_lt (pR Ac.out))) (Kd.R_lt (pR Aa.out))) (below_size (pB HB.out))); replace Ac := Am (Kd.R_elder' (pR Ac.out) (Kd.R_base ho0) hb); replace Aa := Am (Kd.R_elder' (pR Aa.out) (Kd.R_base ho0) hb); replace HB := Am (below_step (pB HB.out) hb); (try clear hb); (try clear hb2); (try clear hk); (try clear hi); (try clear ho0)) | ((with_reducible refine gate_dst (N := 61) rfl ?_); (try (refine gate_guard (by rfl) ?_; dsimp only)); refine Kd.R_lit k43 _ 43 ?hg (N := 61) ?hd (xs := ([] : List (S43))) (inner := []) (ok := fun _ => True) (okp := fun _ => True) ?hr ?hp (fun _ hk => hk) trivial (Below.refl _ _) (Nat.le_refl _) (by simp) ?_; (case hd => rfl); (case hg => rfl); (case hr => first | (go_simp; done) | (go_simp; rfl)); (case hp => exact (Reps.none _ _)); intro v204 w68 ho69 hb hg_ hnew_; clear hg_ hnew_; (first | rw [← Ny203.out] at ho69 | (simp only [Int.reduceToNat] at ho69; rw [← Ny203.out] at ho69)); replace Ac := bRa Ac hb; replace Aa := bRa Aa hb; replace Ab := bRa Ab hb; have Ag := Am (Kd.R_lower ho69 (below_size (pB HB.out))); replace HB := Am (below_step (pB HB.out) hb); clear hb ho69) | ((with_reducible refine gate_builtin (b := .append) (xs := #[.tmp 61, .tmp 62]) rfl ?_); (try (refine gate_guard (by rfl) ?_; dsimp only)); at_builtin; refine Kd.R_append_rows k43 (w0 := w) w.heap.size rfl (.tmp 61) (.tmp 62) 23 43 (.agg #[(.int .i64 0), (.int .i64 0), (.int .i64 0), (.int .u32 0)]) 32 rfl Try.underlying23 info43 rfl (by decide) (by omega) v204 y203 l0 _ _ _ (fun _ => True) (fun _ => False) rfl rfl ?aO ?aR (fun _ _ h => h) (fun _ h => h.elim) ?aF ?aB ?aS ?aL ?_; (case aR => exact pC (Kd.C_below HR0.out HB.out)); (case aB => exact (pB HB.out)); (case aF => exact (fun _ _ => trivial)); (case aO => exact (pR Ag.out)); (case aS => exact (below_size (pB HB.out))); (case aL => have := LMc25.out; omega); intro v207 w70 ho hb hg hat; rw [← Ny206.out] at ho; replace Ac := Am (Kd.R_over' (pR Ac.out) (Kd.R_typed (pR Ag.out)) (by decide) hg); replace Aa := Am (Kd.R_over' (pR Aa.out) (Kd.R_typed (pR Ag.out)) (by decide) hg); replace Ab := Am (Kd.R_over' (pR Ab.out) (Kd.R_typed (pR Ag.out)) (by decide) hg); replace HB := Am (hb); have Ah := Am (ho); clear Ag ho hb hg hat) | ((with_reducible refine gate_builtin (b := .append) (xs := #[.tmp 63, .tmp 64]) rfl ?_); (try (refine gate_guard (by rfl) ?_; dsimp only)); at_builtin; refine Kd.R_append_rows k43 (w0 := w) w.heap.size rfl (.tmp 63) (.tmp 64) 23 43 (.agg #[(.int .i64 0), (.int .i64 0), (.int .i64 0), (.int .u32 0)]) 32 rfl Try.underlying23 info43 rfl (by decide) (by omega) v207 y206 l1 _ _ _ (fun _ => True) (fun _ => False) rfl rfl ?aO ?aR (fun _ _ h => h) (fun _ h => h.elim) ?aF ?aB ?aS ?aL ?_; (case aR => exact pC (Kd.C_below HR1.out HB.out)); (case aB => exact (pB HB.out)); (case aF => exact (fun _ _ => trivial)); (case aO => exact (pR Ah.out)); (case aS => exact (below_size (pB HB.out))); (case aL => have := LMc26.out; omega); intro v210 w71 ho hb hg hat; rw [← Ny209.out] at ho; replace Ac := Am (Kd.R_over' (pR Ac.out) (Kd.R_typed (pR Ah.out)) (by decide) hg); replace Aa := Am (Kd.R_over' (pR Aa.out) (Kd.R_typed (pR Ah.out)) (by decide) hg); replace Ab := Am (Kd.R_over' (pR Ab.out) (Kd.R_typed (pR Ah.out)) (by decide) hg); replace HB := Am (hb); have Af := Am (ho); clear Ah ho hb hg hat; obtain ⟨Bx, By, Bz⟩ := Kd.R_slice Af.out; subst Bz) | ((with_reducible refine gate_callee (f := 15) rfl ?_); refine goesL_ (some 66) rfl rfl Try.func15 (by kernel_rfl) rfl #[.slice Bx y209.length By] rfl pL ?_; (with_reducible refine (tally_Of.calls kj15 _ _ y209 t212 t213 _ ?Ad ?Ae A27.out).mono ?_); (case Ad => exact pC (Kd.R_reads' Af.out).2.2); (case Ae => exact (Kd.R_reads' Af.out).2.1); rintro e w73 ⟨v214, rfl, ho0, hb⟩; refine ⟨_, rfl, ?_⟩; replace Af := bRa Af hb; have Ak := Am (Kd.R_lower (Kd.R_new' (Kd.R_new' (Kd.R_new' ho0 (Kd.R_lt (pR Ac.out))) (Kd.R_lt (pR Aa.out))) (Kd.R_lt (pR Ab.out))) (below_size (pB HB.out))); replace Ac := Am (Kd.R_elder' (pR Ac.out) (Kd.R_base ho0) hb); replace Aa := Am (Kd.R_elder' (pR Aa.out) (Kd.R_base ho0) hb); replace Ab := Am (Kd.R_elder' (pR Ab.out) (Kd.R_base ho0) hb); replace HB := Am (below_step (pB HB.out) hb); (try clear hb); (try clear hb2); (try clear hk); (try clear hi); (try clear ho0)))
      go_ret
      exact ⟨pX, pB HB.out⟩
     rw [if_pos c28] at H
     have c28b0 : (t200 == 0) = true := beq_iff_eq.mpr c28
     have c28b1 : (t200 != 0) = false := bne_eq_false_iff_eq.mpr c28
     clear c28
     by_cases c29 : t213 = 0
     rotate_left
     ·rw [if_neg c29] at H
      have c29b0 : (t213 == 0) = false := beq_eq_false_iff_ne.mpr c29
      have c29b1 : (t213 != 0) = true := bne_iff_ne.mpr c29
      obtain rfl := Option.some.inj H
      obtain ⟨Bi, Bj, Bk⟩ := Kd.R_slice Ac.out
      subst Bk
      obtain ⟨Bl, Bm, Bn⟩ := Kd.R_slice Aa.out
      subst Bn
      go_wp2_with (first | ((with_reducible refine gate_callee (f := 18) rfl ?_); refine goesL_ (some 57) rfl rfl Try.func18 (by kernel_rfl) rfl #[.slice Bi t190.length Bj, .slice Bl t194.length Bm] rfl pL ?_; (with_reducible refine (tally_Join.calls kj15 _ _ t190 _ _ t194 t199 t200 _ ?Ad ?Ae ?Ai ?Aj A24.out).mono ?_); (case Ad => exact pC (Kd.R_reads' Ac.out).2.2); (case Ae => exact (Kd.R_reads' Ac.out).2.1); (case Ai => exact pC (Kd.R_reads' Aa.out).2.2); (case Aj => exact (Kd.R_reads' Aa.out).2.1); rintro e w58 ⟨v201, rfl, ho0, hb⟩; refine ⟨_, rfl, ?_⟩; have Ab := Am (Kd.R_lower (Kd.R_new' (Kd.R_new' ho0 (Kd.R_lt (pR Ac.out))) (Kd.R_lt (pR Aa.out))) (below_size (pB HB.out))); replace Ac := Am (Kd.R_elder' (pR Ac.out) (Kd.R_base ho0) hb); replace Aa := Am (Kd.R_elder' (pR Aa.out) (Kd.R_base ho0) hb); replace HB := Am (below_step (pB HB.out) hb); (try clear hb); (try clear hb2); (try clear hk); (try clear hi); (try clear ho0)) | ((with_reducible refine gate_dst (N := 61) rfl ?_); (try (refine gate_guard (by rfl) ?_; dsimp only)); refine Kd.R_lit k43 _ 43 ?hg (N := 61) ?hd (xs := ([] : List (S43))) (inner := []) (ok := fun _ => True) (okp := fun _ => True) ?hr ?hp (fun _ hk => hk) trivial (Below.refl _ _) (Nat.le_refl _) (by simp) ?_; (case hd => rfl); (case hg => rfl); (case hr => first | (go_simp; done) | (go_simp; rfl)); (case hp => exact (Reps.none _ _)); intro v204 w59 ho60 hb hg_ hnew_; clear hg_ hnew_; (first | rw [← Ny203.out] at ho60 | (simp only [Int.reduceToNat] at ho60; rw [← Ny203.out] at ho60)); replace Ac := bRa Ac hb; replace Aa := bRa Aa hb; replace Ab := bRa Ab hb; have Ag := Am (Kd.R_lower ho60 (below_size (pB HB.out))); replace HB := Am (below_step (pB HB.out) hb); clear hb ho60) | ((with_reducible refine gate_builtin (b := .append) (xs := #[.tmp 61, .tmp 62]) rfl ?_); (try (refine gate_guard (by rfl) ?_; dsimp only)); at_builtin; refine Kd.R_append_rows k43 (w0 := w) w.heap.size rfl (.tmp 61) (.tmp 62) 23 43 (.agg #[(.int .i64 0), (.int .i64 0), (.int .i64 0), (.int .u32 0)]) 32 rfl Try.underlying23 info43 rfl (by decide) (by omega) v204 y203 l0 _ _ _ (fun _ => True) (fun _ => False) rfl rfl ?aO ?aR (fun _ _ h => h) (fun _ h => h.elim) ?aF ?aB ?aS ?aL ?_; (case aR => exact pC (Kd.C_below HR0.out HB.out)); (case aB => exact (pB HB.out)); (case aF => exact (fun _ _ => trivial)); (case aO => exact (pR Ag.out)); (case aS => exact (below_size (pB HB.out))); (case aL => have := LMc25.out; omega); intro v207 w61 ho hb hg hat; rw [← Ny206.out] at ho; replace Ac := Am (Kd.R_over' (pR Ac.out) (Kd.R_typed (pR Ag.out)) (by decide) hg); replace Aa := Am (Kd.R_over' (pR Aa.out) (Kd.R_typed (pR Ag.out)) (by decide) hg); replace Ab := Am (Kd.R_over' (pR Ab.out) (Kd.R_typed (pR Ag.out)) (by decide) hg); replace HB := Am (hb); have Ah := Am (ho); clear Ag ho hb hg hat) | ((with_reducible refine gate_builtin (b := .append) (xs := #[.tmp 63, .tmp 64]) rfl ?_); (try (refine gate_guard (by rfl) ?_; dsimp only)); at_builtin; refine Kd.R_append_rows k43 (w0 := w) w.heap.size rfl (.tmp 63) (.tmp 64) 23 43 (.agg #[(.int .i64 0), (.int .i64 0), (.int .i64 0), (.int .u32 0)]) 32 rfl Try.underlying23 info43 rfl (by decide) (by omega) v207 y206 l1 _ _ _ (fun _ => True) (fun _ => False) rfl rfl ?aO ?aR (fun _ _ h => h) (fun _ h => h.elim) ?aF ?aB ?aS ?aL ?_; (case aR => exact pC (Kd.C_below HR1.out HB.out)); (case aB => exact (pB HB.out)); (case aF => exact (fun _ _ => trivial)); (case aO => exact (pR Ah.out)); (case aS => exact (below_size (pB HB.out))); (case aL => have := LMc26.out; omega); intro v210 w62 ho hb hg hat; rw [← Ny209.out] at ho; replace Ac := Am (Kd.R_over' (pR Ac.out) (Kd.R_typed (pR Ah.out)) (by decide) hg); replace Aa := Am (Kd.R_over' (pR Aa.out) (Kd.R_typed (pR Ah.out)) (by decide) hg); replace Ab := Am (Kd.R_over' (pR Ab.out) (Kd.R_typed (pR Ah.out)) (by decide) hg); replace HB := Am (hb); have Af := Am (ho); clear Ah ho hb hg hat; obtain ⟨Bo, Bp, Bq⟩ := Kd.R_slice Af.out; subst Bq) | ((with_reducible refine gate_callee (f := 15) rfl ?_); refine goesL_ (some 66) rfl rfl Try.func15 (by kernel_rfl) rfl #[.slice Bo y209.length Bp] rfl pL ?_; (with_reducible refine (tally_Of.calls kj15 _ _ y209 t212 t213 _ ?Ad ?Ae A27.out).mono ?_); (case Ad => exact pC (Kd.R_reads' Af.out).2.2); (case Ae => exact (Kd.R_reads' Af.out).2.1); rintro e w64 ⟨v214, rfl, ho0, hb⟩; refine ⟨_, rfl, ?_⟩; replace Af := bRa Af hb; have Ak := Am (Kd.R_lower (Kd.R_new' (Kd.R_new' (Kd.R_new' ho0 (Kd.R_lt (pR Ac.out))) (Kd.R_lt (pR Aa.out))) (Kd.R_lt (pR Ab.out))) (below_size (pB HB.out))); replace Ac := Am (Kd.R_elder' (pR Ac.out) (Kd.R_base ho0) hb); replace Aa := Am (Kd.R_elder' (pR Aa.out) (Kd.R_base ho0) hb); replace Ab := Am (Kd.R_elder' (pR Ab.out) (Kd.R_base ho0) hb); replace HB := Am (below_step (pB HB.out) hb); (try clear hb); (try clear hb2); (try clear hk); (try clear hi); (try clear ho0)))
      go_ret
      exact ⟨pX, pB HB.out⟩
     rw [if_pos c29] at H
     have c29b0 : (t213 == 0) = true := beq_iff_eq.mpr c29
     have c29b1 : (t213 != 0) = false := bne_eq_false_iff_eq.mpr c29
     clear c29
     replace H := Option.bind_eq_some_iff.mp H
     obtain ⟨t216, A300, H⟩ := H
     replace H : (if t216 = true then ((garnerlaw09_awake.f kj15).bind fun t217 => (some t217)) else (some false)) = some r := H
     have A30 := Am A300
     clear A300
     by_cases c31 : t216 = true
     rotate_left
     ·replace c31 := Bool.eq_false_iff.mpr c31
      subst c31
      have H1 : (some false) = some r := by rw [if_neg (show ¬ (false = true) by decide)] at H; exact H
      clear H
      have H := H1
      clear H1
      obtain rfl := Option.some.inj H
      obtain ⟨A6, A7, A9⟩ := Kd.R_slice Ac.out
      subst A9
      obtain ⟨Ba, Bb, Bc⟩ := Kd.R_slice Aa.out
      subst Bc
      go_wp2_with (first | ((with_reducible refine gate_callee (f := 18) rfl ?_); refine goesL_ (some 57) rfl rfl Try.func18 (by kernel_rfl) rfl #[.slice A6 t190.length A7, .slice Ba t194.length Bb] rfl pL ?_; (with_reducible refine (tally_Join.calls kj15 _ _ t190 _ _ t194 t199 t200 _ ?Ad ?Ae ?Ai ?Aj A24.out).mono ?_); (case Ad => exact pC (Kd.R_reads' Ac.out).2.2); (case Ae => exact (Kd.R_reads' Ac.out).2.1); (case Ai => exact pC (Kd.R_reads' Aa.out).2.2); (case Aj => exact (Kd.R_reads' Aa.out).2.1); rintro e w47 ⟨v201, rfl, ho0, hb⟩; refine ⟨_, rfl, ?_⟩; have Ab := Am (Kd.R_lower (Kd.R_new' (Kd.R_new' ho0 (Kd.R_lt (pR Ac.out))) (Kd.R_lt (pR Aa.out))) (below_size (pB HB.out))); replace Ac := Am (Kd.R_elder' (pR Ac.out) (Kd.R_base ho0) hb); replace Aa := Am (Kd.R_elder' (pR Aa.out) (Kd.R_base ho0) hb); replace HB := Am (below_step (pB HB.out) hb); (try clear hb); (try clear hb2); (try clear hk); (try clear hi); (try clear ho0)) | ((with_reducible refine gate_dst (N := 61) rfl ?_); (try (refine gate_guard (by rfl) ?_; dsimp only)); refine Kd.R_lit k43 _ 43 ?hg (N := 61) ?hd (xs := ([] : List (S43))) (inner := []) (ok := fun _ => True) (okp := fun _ => True) ?hr ?hp (fun _ hk => hk) trivial (Below.refl _ _) (Nat.le_refl _) (by simp) ?_; (case hd => rfl); (case hg => rfl); (case hr => first | (go_simp; done) | (go_simp; rfl)); (case hp => exact (Reps.none _ _)); intro v204 w48 ho49 hb hg_ hnew_; clear hg_ hnew_; (first | rw [← Ny203.out] at ho49 | (simp only [Int.reduceToNat] at ho49; rw [← Ny203.out] at ho49)); replace Ac := bRa Ac hb; replace Aa := bRa Aa hb; replace Ab := bRa Ab hb; have Ag := Am (Kd.R_lower ho49 (below_size (pB HB.out))); replace HB := Am (below_step (pB HB.out) hb); clear hb ho49) | ((with_reducible refine gate_builtin (b := .append) (xs := #[.tmp 61, .tmp 62]) rfl ?_); (try (refine gate_guard (by rfl) ?_; dsimp only)); at_builtin; refine Kd.R_append_rows k43 (w0 := w) w.heap.size rfl (.tmp 61) (.tmp 62) 23 43 (.agg #[(.int .i64 0), (.int .i64 0), (.int .i64 0), (.int .u32 0)]) 32 rfl Try.underlying23 info43 rfl (by decide) (by omega) v204 y203 l0 _ _ _ (fun _ => True) (fun _ => False) rfl rfl ?aO ?aR (fun _ _ h => h) (fun _ h => h.elim) ?aF ?aB ?aS ?aL ?_; (case aR => exact pC (Kd.C_below HR0.out HB.out)); (case aB => exact (pB HB.out)); (case aF => exact (fun _ _ => trivial)); (case aO => exact (pR Ag.out)); (case aS => exact (below_size (pB HB.out))); (case aL => have := LMc25.out; omega); intro v207 w50 ho hb hg hat; rw [← Ny206.out] at ho; replace Ac := Am (Kd.R_over' (pR Ac.out) (Kd.R_typed (pR Ag.out)) (by decide) hg); replace Aa := Am (Kd.R_over' (pR Aa.out) (Kd.R_typed (pR Ag.out)) (by decide) hg); replace Ab := Am (Kd.R_over' (pR Ab.out) (Kd.R_typed (pR Ag.out)) (by decide) hg); replace HB := Am (hb); have Ah := Am (ho); clear Ag ho hb hg hat) | ((with_reducible refine gate_builtin (b := .append) (xs := #[.tmp 63, .tmp 64]) rfl ?_); (try (refine gate_guard (by rfl) ?_; dsimp only)); at_builtin; refine Kd.R_append_rows k43 (w0 := w) w.heap.size rfl (.tmp 63) (.tmp 64) 23 43 (.agg #[(.int .i64 0), (.int .i64 0), (.int .i64 0), (.int .u32 0)]) 32 rfl Try.underlying23 info43 rfl (by decide) (by omega) v207 y206 l1 _ _ _ (fun _ => True) (fun _ => False) rfl rfl ?aO ?aR (fun _ _ h => h) (fun _ h => h.elim) ?aF ?aB ?aS ?aL ?_; (case aR => exact pC (Kd.C_below HR1.out HB.out)); (case aB => exact (pB HB.out)); (case aF => exact (fun _ _ => trivial)); (case aO => exact (pR Ah.out)); (case aS => exact (below_size (pB HB.out))); (case aL => have := LMc26.out; omega); intro v210 w51 ho hb hg hat; rw [← Ny209.out] at ho; replace Ac := Am (Kd.R_over' (pR Ac.out) (Kd.R_typed (pR Ah.out)) (by decide) hg); replace Aa := Am (Kd.R_over' (pR Aa.out) (Kd.R_typed (pR Ah.out)) (by decide) hg); replace Ab := Am (Kd.R_over' (pR Ab.out) (Kd.R_typed (pR Ah.out)) (by decide) hg); replace HB := Am (hb); have Af := Am (ho); clear Ah ho hb hg hat; obtain ⟨Bd, Be, Bf⟩ := Kd.R_slice Af.out; subst Bf) | ((with_reducible refine gate_callee (f := 15) rfl ?_); refine goesL_ (some 66) rfl rfl Try.func15 (by kernel_rfl) rfl #[.slice Bd y209.length Be] rfl pL ?_; (with_reducible refine (tally_Of.calls kj15 _ _ y209 t212 t213 _ ?Ad ?Ae A27.out).mono ?_); (case Ad => exact pC (Kd.R_reads' Af.out).2.2); (case Ae => exact (Kd.R_reads' Af.out).2.1); rintro e w53 ⟨v214, rfl, ho0, hb⟩; refine ⟨_, rfl, ?_⟩; replace Af := bRa Af hb; have Ak := Am (Kd.R_lower (Kd.R_new' (Kd.R_new' (Kd.R_new' ho0 (Kd.R_lt (pR Ac.out))) (Kd.R_lt (pR Aa.out))) (Kd.R_lt (pR Ab.out))) (below_size (pB HB.out))); replace Ac := Am (Kd.R_elder' (pR Ac.out) (Kd.R_base ho0) hb); replace Aa := Am (Kd.R_elder' (pR Aa.out) (Kd.R_base ho0) hb); replace Ab := Am (Kd.R_elder' (pR Ab.out) (Kd.R_base ho0) hb); replace HB := Am (below_step (pB HB.out) hb); (try clear hb); (try clear hb2); (try clear hk); (try clear hi); (try clear ho0); obtain ⟨Ao54, co54, Bg⟩ := Kd.R_slice Ab.out; subst Bg; obtain ⟨Ao55, co55, Bh⟩ := Kd.R_slice Ak.out; subst Bh) | (go_at_call 16; (with_reducible refine (garnerref09_Same.calls kj15 _ _ t199 _ _ t212 false _ ?Ad ?Ae ?Ai ?Aj A30.out).mono ?_); (case Ad => exact pC (Kd.R_reads' Ab.out).2.2); (case Ae => exact (Kd.R_reads' Ab.out).2.1); (case Ai => exact pC (Kd.R_reads' Ak.out).2.2); (case Aj => exact (Kd.R_reads' Ak.out).2.1); rintro e w' ⟨rfl, ⟨nd, rfl⟩⟩))
      go_ret
      exact ⟨pX, pB HB.out⟩
     subst c31
     have H1 : ((garnerlaw09_awake.f kj15).bind fun t217 => (some t217)) = some r := by rw [if_pos rfl] at H; exact H
     clear H
     have H := H1
     clear H1
     replace H := Option.bind_eq_some_iff.mp H
     obtain ⟨t217, A320, H⟩ := H
     replace H : (some t217) = some r := H
     have A32 := Am A320
     clear A320
     obtain rfl := Option.some.inj H
     obtain ⟨Ar, As, At⟩ := Kd.R_slice Ac.out
     subst At
     obtain ⟨Au, Av, Aw⟩ := Kd.R_slice Aa.out
     subst Aw
     go_wp2_with (first | ((with_reducible refine gate_callee (f := 18) rfl ?_); refine goesL_ (some 57) rfl rfl Try.func18 (by kernel_rfl) rfl #[.slice Ar t190.length As, .slice Au t194.length Av] rfl pL ?_; (with_reducible refine (tally_Join.calls kj15 _ _ t190 _ _ t194 t199 t200 _ ?Ad ?Ae ?Ai ?Aj A24.out).mono ?_); (case Ad => exact pC (Kd.R_reads' Ac.out).2.2); (case Ae => exact (Kd.R_reads' Ac.out).2.1); (case Ai => exact pC (Kd.R_reads' Aa.out).2.2); (case Aj => exact (Kd.R_reads' Aa.out).2.1); rintro e w35 ⟨v201, rfl, ho0, hb⟩; refine ⟨_, rfl, ?_⟩; have Ab := Am (Kd.R_lower (Kd.R_new' (Kd.R_new' ho0 (Kd.R_lt (pR Ac.out))) (Kd.R_lt (pR Aa.out))) (below_size (pB HB.out))); replace Ac := Am (Kd.R_elder' (pR Ac.out) (Kd.R_base ho0) hb); replace Aa := Am (Kd.R_elder' (pR Aa.out) (Kd.R_base ho0) hb); replace HB := Am (below_step (pB HB.out) hb); (try clear hb); (try clear hb2); (try clear hk); (try clear hi); (try clear ho0)) | ((with_reducible refine gate_dst (N := 61) rfl ?_); (try (refine gate_guard (by rfl) ?_; dsimp only)); refine Kd.R_lit k43 _ 43 ?hg (N := 61) ?hd (xs := ([] : List (S43))) (inner := []) (ok := fun _ => True) (okp := fun _ => True) ?hr ?hp (fun _ hk => hk) trivial (Below.refl _ _) (Nat.le_refl _) (by simp) ?_; (case hd => rfl); (case hg => rfl); (case hr => first | (go_simp; done) | (go_simp; rfl)); (case hp => exact (Reps.none _ _)); intro v204 w36 ho37 hb hg_ hnew_; clear hg_ hnew_; (first | rw [← Ny203.out] at ho37 | (simp only [Int.reduceToNat] at ho37; rw [← Ny203.out] at ho37)); replace Ac := bRa Ac hb; replace Aa := bRa Aa hb; replace Ab := bRa Ab hb; have Ag := Am (Kd.R_lower ho37 (below_size (pB HB.out))); replace HB := Am (below_step (pB HB.out) hb); clear hb ho37) | ((with_reducible refine gate_builtin (b := .append) (xs := #[.tmp 61, .tmp 62]) rfl ?_); (try (refine gate_guard (by rfl) ?_; dsimp only)); at_builtin; refine Kd.R_append_rows k43 (w0 := w) w.heap.size rfl (.tmp 61) (.tmp 62) 23 43 (.agg #[(.int .i64 0), (.int .i64 0), (.int .i64 0), (.int .u32 0)]) 32 rfl Try.underlying23 info43 rfl (by decide) (by omega) v204 y203 l0 _ _ _ (fun _ => True) (fun _ => False) rfl rfl ?aO ?aR (fun _ _ h => h) (fun _ h => h.elim) ?aF ?aB ?aS ?aL ?_; (case aR => exact pC (Kd.C_below HR0.out HB.out)); (case aB => exact (pB HB.out)); (case aF => exact (fun _ _ => trivial)); (case aO => exact (pR Ag.out)); (case aS => exact (below_size (pB HB.out))); (case aL => have := LMc25.out; omega); intro v207 w38 ho hb hg hat; rw [← Ny206.out] at ho; replace Ac := Am (Kd.R_over' (pR Ac.out) (Kd.R_typed (pR Ag.out)) (by decide) hg); replace Aa := Am (Kd.R_over' (pR Aa.out) (Kd.R_typed (pR Ag.out)) (by decide) hg); replace Ab := Am (Kd.R_over' (pR Ab.out) (Kd.R_typed (pR Ag.out)) (by decide) hg); replace HB := Am (hb); have Ah := Am (ho); clear Ag ho hb hg hat) | ((with_reducible refine gate_builtin (b := .append) (xs := #[.tmp 63, .tmp 64]) rfl ?_); (try (refine gate_guard (by rfl) ?_; dsimp only)); at_builtin; refine Kd.R_append_rows k43 (w0 := w) w.heap.size rfl (.tmp 63) (.tmp 64) 23 43 (.agg #[(.int .i64 0), (.int .i64 0), (.int .i64 0), (.int .u32 0)]) 32 rfl Try.underlying23 info43 rfl (by decide) (by omega) v207 y206 l1 _ _ _ (fun _ => True) (fun _ => False) rfl rfl ?aO ?aR (fun _ _ h => h) (fun _ h => h.elim) ?aF ?aB ?aS ?aL ?_; (case aR => exact pC (Kd.C_below HR1.out HB.out)); (case aB => exact (pB HB.out)); (case aF => exact (fun _ _ => trivial)); (case aO => exact (pR Ah.out)); (case aS => exact (below_size (pB HB.out))); (case aL => have := LMc26.out; omega); intro v210 w39 ho hb hg hat; rw [← Ny209.out] at ho; replace Ac := Am (Kd.R_over' (pR Ac.out) (Kd.R_typed (pR Ah.out)) (by decide) hg); replace Aa := Am (Kd.R_over' (pR Aa.out) (Kd.R_typed (pR Ah.out)) (by decide) hg); replace Ab := Am (Kd.R_over' (pR Ab.out) (Kd.R_typed (pR Ah.out)) (by decide) hg); replace HB := Am (hb); have Af := Am (ho); clear Ah ho hb hg hat; obtain ⟨Ax, Ay, Az⟩ := Kd.R_slice Af.out; subst Az) | ((with_reducible refine gate_callee (f := 15) rfl ?_); refine goesL_ (some 66) rfl rfl Try.func15 (by kernel_rfl) rfl #[.slice Ax y209.length Ay] rfl pL ?_; (with_reducible refine (tally_Of.calls kj15 _ _ y209 t212 t213 _ ?Ad ?Ae A27.out).mono ?_); (case Ad => exact pC (Kd.R_reads' Af.out).2.2); (case Ae => exact (Kd.R_reads' Af.out).2.1); rintro e w41 ⟨v214, rfl, ho0, hb⟩; refine ⟨_, rfl, ?_⟩; replace Af := bRa Af hb; have Ak := Am (Kd.R_lower (Kd.R_new' (Kd.R_new' (Kd.R_new' ho0 (Kd.R_lt (pR Ac.out))) (Kd.R_lt (pR Aa.out))) (Kd.R_lt (pR Ab.out))) (below_size (pB HB.out))); replace Ac := Am (Kd.R_elder' (pR Ac.out) (Kd.R_base ho0) hb); replace Aa := Am (Kd.R_elder' (pR Aa.out) (Kd.R_base ho0) hb); replace Ab := Am (Kd.R_elder' (pR Ab.out) (Kd.R_base ho0) hb); replace HB := Am (below_step (pB HB.out) hb); (try clear hb); (try clear hb2); (try clear hk); (try clear hi); (try clear ho0); obtain ⟨Ao42, co42, A3⟩ := Kd.R_slice Ab.out; subst A3; obtain ⟨Ao43, co43, A4⟩ := Kd.R_slice Ak.out; subst A4) | (go_at_call 16; (with_reducible refine (garnerref09_Same.calls kj15 _ _ t199 _ _ t212 true _ ?Ad ?Ae ?Ai ?Aj A30.out).mono ?_); (case Ad => exact pC (Kd.R_reads' Ab.out).2.2); (case Ae => exact (Kd.R_reads' Ab.out).2.1); (case Ai => exact pC (Kd.R_reads' Ak.out).2.2); (case Aj => exact (Kd.R_reads' Ak.out).2.1); rintro e w' ⟨rfl, ⟨nd, rfl⟩⟩) | (go_at_call 8; (with_reducible refine (garnerlaw09_awake.calls kj15  t217 _ A32.out).mono ?_); rintro e w44 ⟨rfl, hb⟩; replace Ac := bRa Ac hb; replace Aa := bRa Aa hb; replace Ab := bRa Ab hb; replace Af := bRa Af hb; replace Ak := bRa Ak hb; replace HB := Am (below_step (pB HB.out) hb); (try clear hb); (try clear hb2); (try clear hk); (try clear hi)))
     go_ret
     exact ⟨pX, pB HB.out⟩
end Go.Proofs.Ytkapmlijeilieaa.PTallyJoins
