/- What the law reaches, as plain Lean functions, and that the machine's calls answer just that. -/
import Derived.Test.YtangfpcifdpfeaaPRaftTurnsx0
import Derived.Test.YtangfpcifdpfeaaPRaftTurnsx10
namespace Go.Proofs.Ytangfpcifdpfeaa.PRaftTurns
open Go.RowKit Go.Proofs.YtangfpcifdpfeaaW.PrintWords Go.Proofs.YtangfpcifdpfeaaW.PrintLast Go.Proofs.YtangfpcifdpfeaaW.PrintMore
attribute [local go_sem] max2_int min2_int max_two min_two max_three min_three max_four min_four
set_option linter.unusedVariables false
set_option linter.unusedSimpArgs false
attribute [local go_sem] wrap64_l1 wrap64_l2 wrap64_l3 wrap64_l4 wrap64_l5
def garnerref23_Rows.l0 : Nat → List (S55) → Int → Option (Bool)
 | 0, _, _ => none
 | k + 1, x0, x3 => if x3 < (x0.length : Int) then (if 0 ≤ x3 then ((garnerref23_counts.f ((rd_T55 x0 x3).f0)).bind fun t281 => (if t281 = true then ((garnerref23_counts.f ((rd_T55 x0 x3).f1)).bind fun t283 => (if t283 = true then (if x3 > 0 then (if 0 ≤ (wrap64 (x3 - 1)) then (if (wrap64 (x3 - 1)) < (x0.length : Int) then (if (wrap64 (((rd_T55 x0 x3).f0) - 1)) = ((rd_T55 x0 (wrap64 (x3 - 1))).f0) then (if ((rd_T55 x0 x3).f1) < ((rd_T55 x0 (wrap64 (x3 - 1))).f1) then (some false) else (garnerref23_Rows.l0 k x0 (wrap64 (x3 + 1)))) else (some false)) else (none)) else (none)) else (garnerref23_Rows.l0 k x0 (wrap64 (x3 + 1)))) else (some false))) else (some false))) else (none)) else (some true)
def garnerref23_Rows.f (k : Nat) (l0 : List (S55)) : Option (Bool) := garnerref23_Rows.l0 k l0 0
theorem garnerref23_Rows.mono_l : ∀ k, (∀ y0 y1, LeO (garnerref23_Rows.l0 k y0 y1) (garnerref23_Rows.l0 (k + 1) y0 y1))
 | 0 => fun _ _ r h => by simp [garnerref23_Rows.l0] at h
 | k + 1 => by
  have ih0 := garnerref23_Rows.mono_l k
  ·intro y0 y1
   unfold garnerref23_Rows.l0
   repeat' first
   | (with_reducible exact ih0 _ _)
   | (with_reducible exact LeO.refl _)
   | (with_reducible exact LeO.none _)
   | (with_reducible refine LeO.ite ?_ ?_)
   | (with_reducible refine LeO.bind ?_ (fun _ => ?_))
   | exact ih0 _ _
   | exact LeO.none _
   | refine LeO.ite ?_ ?_
   | refine LeO.bind ?_ (fun _ => ?_)
theorem garnerref23_Rows.mono : ∀ a0 k, LeO (garnerref23_Rows.f k a0) (garnerref23_Rows.f (k + 1) a0) := by
 intro a0 k
 have ih0 := garnerref23_Rows.mono_l k
 unfold garnerref23_Rows.f
 repeat' first
   | (with_reducible exact ih0 _ _)
   | (with_reducible exact LeO.refl _)
   | (with_reducible exact LeO.none _)
   | (with_reducible refine LeO.ite ?_ ?_)
   | (with_reducible refine LeO.bind ?_ (fun _ => ?_))
   | exact ih0 _ _
   | exact LeO.none _
   | refine LeO.ite ?_ ?_
   | refine LeO.bind ?_ (fun _ => ?_)
def garnerref23_Rows.T4 : Bool × List (List Nat × List Nat) := (true, [([], []), ([], []), ([0, 1], [0, 1]), ([2], [2]), ([3], [3]), ([4], [4]), ([5], [5]), ([6, 5], [6]), ([7], [7]), ([7], [7]), ([8, 9, 7], [7, 8, 9]), ([10, 7], [7, 10]), ([11, 7], [7, 11]), ([12, 7, 7], [7, 12]), ([13, 7], [7, 13]), ([7, 14], [7, 14]), ([15, 13], [15]), ([16], [16]), ([17, 16], [16, 17]), ([18, 16, 16], [16, 18]), ([19], [19]), ([19], [19]), ([20, 21, 19], [19, 20, 21]), ([22, 19], [19, 22]), ([23, 19], [19, 23]), ([24, 19], [19, 24]), ([19], [19]), ([19], [19]), ([27, 19], [19, 27]), ([26, 28, 19], [19, 26, 28]), ([29, 19], [19, 29]), ([30, 19], [19, 30]), ([25, 31, 19], [19, 25, 31]), ([32, 19, 19], [19, 32]), ([33], [33]), ([33], [33]), ([34, 35, 33], [33, 34, 35]), ([36, 33], [33, 36]), ([37, 33], [33, 37]), ([33], [33]), ([33], [33]), ([40, 33], [33, 40]), ([39, 41, 33], [33, 39, 41]), ([42, 33], [33, 42]), ([43, 33], [33, 43]), ([38, 44, 33], [33, 38, 44]), ([33, 45, 19], [19, 33, 45]), ([19, 46, 16], [16, 19, 46]), ([16, 47], [16, 47])])
def garnerref23_Rows.B4 : List Nat := [0, 0, 3, 7, 15, 31, 63, 127, 255, 255, 1023, 2047, 4095, 8191, 16383, 32767, 65535, 131071, 262143, 524287, 1048575, 1048575, 4194303, 8388607, 16777215, 33554431, 1048575, 1048575, 135266303, 470810623, 1007681535, 2081423359, 4294967295, 8589934591, 17179869183, 17179869183, 68719476735, 137438953471, 274877906943, 17179869183, 17179869183, 1116691496959, 3865470566399, 8263517077503, 17059610099711, 35184372088831, 70368744177663, 140737488355327, 281474976710655]
theorem garnerref23_Rows.tab4 : rtab .any (opsOf Try.f26 4) = garnerref23_Rows.T4 := by kernel_rfl
theorem garnerref23_Rows.bits4 : waitsOk garnerref23_Rows.T4.2 garnerref23_Rows.B4 = true := by kernel_rfl
set_option maxHeartbeats 8000000 in
set_option maxRecDepth 100000 in
theorem garnerref23_Rows.calls (k : Nat) (A0 : Option Addr) (c0 : Nat) (l0 : List (S55)) (r : Bool) (w : World) (hr0 : Kd.C k55 w A0 l0.length l0) (hc0 : l0.length ≤ c0) (h : garnerref23_Rows.f k l0 = some r) :
  Calls Try.prog 26 #[.slice A0 l0.length c0] w fun e w' => e = .returned (.bool r) ∧ Below w.heap.size w w' := by
 have HR0 := Am hr0
 have HC0 := Am hc0
 clear hr0 hc0
 have HB := Am (Below.refl w.heap.size w)
 have H : (garnerref23_Rows.l0 k l0 0) = some r := h
 clear h
 have H' := Am H
 clear H
 go_enter Try.func26, Try.ntmps26
 go_wp2
 go_loopg [3] k (fun kq v3 w' => ∃ (Aa : Int), v3 = .int .i64 Aa ∧ Aside0 (garnerref23_Rows.l0 kq l0 Aa = some r) ∧ Aside0 (kq ≤ k) ∧ Aside0 (Below w.heap.size w w'))
 case atStart => exact ⟨(0), (by first | rfl | (simp; done) | (simp [*]; done)), H', ⟨Nat.le_refl _⟩, ⟨pB HB.out⟩⟩
 case round =>
  clear H'
  obtain ⟨Aa, rfl, HA, HK1, HB⟩ := hrel
  cases gk with
  | zero => exact absurd HA.out (by simp [garnerref23_Rows.l0])
  | succ k1 =>
   have H := HA.out
   clear HA
   simp only [garnerref23_Rows.l0] at H
   by_cases c2 : Aa < (l0.length : Int)
   rotate_left
   ·rw [if_neg c2] at H
    have c2b0 : decide (Aa < (l0.length : Int)) = false := decide_eq_false c2
    clear c2
    obtain rfl := Option.some.inj H
    go_wp2
    go_ret
    exact ⟨pX, pB HB.out⟩
   rw [if_pos c2] at H
   have c2b0 : decide (Aa < (l0.length : Int)) = true := decide_eq_true c2
   clear c2
   by_cases c3 : 0 ≤ Aa
   rotate_left
   ·rw [if_neg c3] at H
    exact absurd H (by simp)
   rw [if_pos c3] at H
   have c3b0 : decide (0 ≤ Aa) = true := decide_eq_true c3
   clear c3
   replace H := Option.bind_eq_some_iff.mp H
   obtain ⟨t281, A40, H⟩ := H
   replace H : (if t281 = true then ((garnerref23_counts.f ((rd_T55 l0 Aa).f1)).bind fun t283 => (if t283 = true then (if Aa > 0 then (if 0 ≤ (wrap64 (Aa - 1)) then (if (wrap64 (Aa - 1)) < (l0.length : Int) then (if (wrap64 (((rd_T55 l0 Aa).f0) - 1)) = ((rd_T55 l0 (wrap64 (Aa - 1))).f0) then (if ((rd_T55 l0 Aa).f1) < ((rd_T55 l0 (wrap64 (Aa - 1))).f1) then (some false) else (garnerref23_Rows.l0 k1 l0 (wrap64 (Aa + 1)))) else (some false)) else (none)) else (none)) else (garnerref23_Rows.l0 k1 l0 (wrap64 (Aa + 1)))) else (some false))) else (some false)) = some r := H
   have A4 := Am A40
   clear A40
   by_cases c5 : t281 = true
   rotate_left
   ·replace c5 := Bool.eq_false_iff.mpr c5
    subst c5
    have H1 : (some false) = some r := by rw [if_neg (show ¬ (false = true) by decide)] at H; exact H
    clear H
    have H := H1
    clear H1
    obtain rfl := Option.some.inj H
    try go_wp2
    replace HB := bDa HB
    have p280 : 0 ≤ (Aa : Int) := of_decide_eq_true pS
    have q280 : Aa < (l0.length : Int) := of_decide_eq_true pS
    obtain ⟨Ab, Bd, c280_5, e280, Ap, Aq, Ar, As, At, Au, Av, Aw, Ax, Ay, An, Ao, Ac, Ad, Ae, Af, Ag, Ah, Ai, Aj, Ak, Al⟩ := at_T55w HR0.out Aa p280 q280 HB.out
    cases e280
    have Az := Am Ao
    have Bh := Am An
    clear Ao An
    replace p280 := eq_true p280
    replace q280 := eq_true q280
    refine start_ (n := 49) (S := fun w' => w'.cell? (Ab.add ((Aa).toNat * 10)) = some (.int .i64 ((rd_T55 l0 Aa).f0)) ∧ cA w' (Ab.add ((Aa).toNat * 10)) 1 (.int .i64 ((rd_T55 l0 Aa).f1)) ∧ cA w' (Ab.add ((Aa).toNat * 10)) 2 (.int .i64 ((rd_T55 l0 Aa).f2)) ∧ cA w' (Ab.add ((Aa).toNat * 10)) 3 (.string ((rd_T55 l0 Aa).f3)) ∧ cA w' (Ab.add ((Aa).toNat * 10)) 4 (.bool ((rd_T55 l0 Aa).f4.f0)) ∧ cA w' (Ab.add ((Aa).toNat * 10)) 5 (.slice Bd ((rd_T55 l0 Aa).f4.f1).length c280_5) ∧ cA w' (Ab.add ((Aa).toNat * 10)) 6 (.int .i64 ((rd_T55 l0 Aa).f4.f2.f0)) ∧ cA w' (Ab.add ((Aa).toNat * 10)) 7 (.int .i64 ((rd_T55 l0 Aa).f4.f2.f1)) ∧ cA w' (Ab.add ((Aa).toNat * 10)) 8 (.int .i64 ((rd_T55 l0 Aa).f4.f2.f2)) ∧ cA w' (Ab.add ((Aa).toNat * 10)) 9 (.int .u32 ((rd_T55 l0 Aa).f4.f2.f3))) (ds := []) #[false, false, false, false, false, false, false, false, false, false, false, false, false, false, false, false, false, false, false, false, false, false, false, false, false, false, false, false, false, false, false, false, false, false, false, false, false, false, false, false, false, false, false, false, false, false, false, false, false] (by kernel_rfl) rfl rfl ⟨(cT HB.out Ac), (cT HB.out Ad), (cT HB.out Ae), (cT HB.out Af), (cT HB.out Ag), (cT HB.out Ah), (cT HB.out Ai), (cT HB.out Aj), (cT HB.out Ak), (cT HB.out Al)⟩ (fun hHeld => ?_); refine with_tabW garnerref23_Rows.tab4 garnerref23_Rows.bits4 (fun HT_ HW_ => ?_)
    generalize wr.drew = w19 at HB Az Ap Aq Ar As At Au Av Aw Ax Ay hHeld ⊢
    refine pui 0 10 49 1 HT_ ?_
    refine pui 1 11 49 3 HT_ ?_
    refine pui 2 12 49 7 HT_ ?_
    refine pui 3 13 49 15 HT_ ?_
    refine tki 4 14 49 31 HT_ HW_ hHeld ?_
    refine onei 5 15 49 63 HT_ (fun K hK => ?_)
    refine goes_ Try.func31 (by kernel_rfl) rfl #[.int .i64 ((rd_T55 l0 Aa).f0)] (by rfl) rfl rfl pL ?_
    with_reducible refine (garnerref23_counts.calls ((rd_T55 l0 Aa).f0) false _ A4.out).mono ?_
    rintro e w' ⟨rfl, ⟨nd, rfl⟩⟩
    refine ⟨_, rfl, ?_⟩
    refine hK.out _ _ ⟨(cT HB.out Ac), (cT HB.out Ad), (cT HB.out Ae), (cT HB.out Af), (cT HB.out Ag), (cT HB.out Ah), (cT HB.out Ai), (cT HB.out Aj), (cT HB.out Ak), (cT HB.out Al)⟩ (fun hHeld => ?_)
    clear hK K
    refine norm_ (a' := ?_) ?_ ?_
    rotate_left
    ·show Act.put _ (some 15) _ = _
     simp only [Act.put, List.setIfInBounds_toArray, List.set_cons_zero, List.set_cons_succ, i64_w, i32_w]
     rfl
    refine pui 6 16 49 127 HT_ ?_
    refine pui 7 17 49 255 HT_ ?_
    refine pdi 8 18 49 511 HT_ ?_
    refine pdi 9 19 49 1023 HT_ ?_
    refine pdi 10 20 49 2047 HT_ ?_
    refine pdi 11 21 49 4095 HT_ ?_
    refine pdi 12 22 49 8191 HT_ ?_
    refine pdi 13 23 49 16383 HT_ ?_
    refine pdi 14 24 49 32767 HT_ ?_
    refine pui 15 25 49 65535 HT_ ?_
    refine pui 16 26 49 131071 HT_ ?_
    refine pdi 17 27 49 262143 HT_ ?_
    refine pdi 18 28 49 524287 HT_ ?_
    refine pdi 19 29 49 1048575 HT_ ?_
    refine pdi 20 30 49 2097151 HT_ ?_
    refine pdi 21 31 49 4194303 HT_ ?_
    refine pdi 22 32 49 8388607 HT_ ?_
    refine pdi 23 33 49 16777215 HT_ ?_
    refine pdi 24 34 49 33554431 HT_ ?_
    refine pdi 25 35 49 67108863 HT_ ?_
    refine pdi 26 36 49 134217727 HT_ ?_
    refine pdi 27 37 49 268435455 HT_ ?_
    refine pdi 28 38 49 536870911 HT_ ?_
    refine pdi 29 39 49 1073741823 HT_ ?_
    refine pdi 30 40 49 2147483647 HT_ ?_
    refine pdi 31 41 49 4294967295 HT_ ?_
    refine pdi 32 42 49 8589934591 HT_ ?_
    refine pdi 33 43 49 17179869183 HT_ ?_
    refine pdi 34 44 49 34359738367 HT_ ?_
    refine pdi 35 45 49 68719476735 HT_ ?_
    refine pdi 36 46 49 137438953471 HT_ ?_
    refine pdi 37 47 49 274877906943 HT_ ?_
    refine pdi 38 48 49 549755813887 HT_ ?_
    refine pdi 39 49 49 1099511627775 HT_ ?_
    refine pdi 40 50 49 2199023255551 HT_ ?_
    refine pdi 41 51 49 4398046511103 HT_ ?_
    refine pdi 42 52 49 8796093022207 HT_ ?_
    refine pdi 43 53 49 17592186044415 HT_ ?_
    refine pdi 44 54 49 35184372088831 HT_ ?_
    refine pdi 45 55 49 70368744177663 HT_ ?_
    refine pdi 46 56 49 140737488355327 HT_ ?_
    refine pdi 47 57 49 281474976710655 HT_ ?_
    refine pui 48 58 49 562949953421311 HT_ ?_
    refine done_ (done_of HT_.out (by kernel_rfl)) ?_
    try go_wp2
    go_ret
    exact ⟨pX, pB HB.out⟩
   subst c5
   have H1 : ((garnerref23_counts.f ((rd_T55 l0 Aa).f1)).bind fun t283 => (if t283 = true then (if Aa > 0 then (if 0 ≤ (wrap64 (Aa - 1)) then (if (wrap64 (Aa - 1)) < (l0.length : Int) then (if (wrap64 (((rd_T55 l0 Aa).f0) - 1)) = ((rd_T55 l0 (wrap64 (Aa - 1))).f0) then (if ((rd_T55 l0 Aa).f1) < ((rd_T55 l0 (wrap64 (Aa - 1))).f1) then (some false) else (garnerref23_Rows.l0 k1 l0 (wrap64 (Aa + 1)))) else (some false)) else (none)) else (none)) else (garnerref23_Rows.l0 k1 l0 (wrap64 (Aa + 1)))) else (some false))) = some r := by rw [if_pos rfl] at H; exact H
   clear H
   have H := H1
   clear H1
   replace H := Option.bind_eq_some_iff.mp H
   obtain ⟨t283, A60, H⟩ := H
   replace H : (if t283 = true then (if Aa > 0 then (if 0 ≤ (wrap64 (Aa - 1)) then (if (wrap64 (Aa - 1)) < (l0.length : Int) then (if (wrap64 (((rd_T55 l0 Aa).f0) - 1)) = ((rd_T55 l0 (wrap64 (Aa - 1))).f0) then (if ((rd_T55 l0 Aa).f1) < ((rd_T55 l0 (wrap64 (Aa - 1))).f1) then (some false) else (garnerref23_Rows.l0 k1 l0 (wrap64 (Aa + 1)))) else (some false)) else (none)) else (none)) else (garnerref23_Rows.l0 k1 l0 (wrap64 (Aa + 1)))) else (some false)) = some r := H
   have A6 := Am A60
   clear A60
   by_cases c7 : t283 = true
   rotate_left
   ·replace c7 := Bool.eq_false_iff.mpr c7
    subst c7
    have H1 : (some false) = some r := by rw [if_neg (show ¬ (false = true) by decide)] at H; exact H
    clear H
    have H := H1
    clear H1
    obtain rfl := Option.some.inj H
    try go_wp2
    replace HB := bDa HB
    have p280 : 0 ≤ (Aa : Int) := of_decide_eq_true pS
    have q280 : Aa < (l0.length : Int) := of_decide_eq_true pS
    obtain ⟨Ab, Bd, c280_5, e280, Ap, Aq, Ar, As, At, Au, Av, Aw, Ax, Ay, An, Ao, Ac, Ad, Ae, Af, Ag, Ah, Ai, Aj, Ak, Al⟩ := at_T55w HR0.out Aa p280 q280 HB.out
    cases e280
    have Az := Am Ao
    have Bh := Am An
    clear Ao An
    replace p280 := eq_true p280
    replace q280 := eq_true q280
    refine start_ (n := 49) (S := fun w' => w'.cell? (Ab.add ((Aa).toNat * 10)) = some (.int .i64 ((rd_T55 l0 Aa).f0)) ∧ cA w' (Ab.add ((Aa).toNat * 10)) 1 (.int .i64 ((rd_T55 l0 Aa).f1)) ∧ cA w' (Ab.add ((Aa).toNat * 10)) 2 (.int .i64 ((rd_T55 l0 Aa).f2)) ∧ cA w' (Ab.add ((Aa).toNat * 10)) 3 (.string ((rd_T55 l0 Aa).f3)) ∧ cA w' (Ab.add ((Aa).toNat * 10)) 4 (.bool ((rd_T55 l0 Aa).f4.f0)) ∧ cA w' (Ab.add ((Aa).toNat * 10)) 5 (.slice Bd ((rd_T55 l0 Aa).f4.f1).length c280_5) ∧ cA w' (Ab.add ((Aa).toNat * 10)) 6 (.int .i64 ((rd_T55 l0 Aa).f4.f2.f0)) ∧ cA w' (Ab.add ((Aa).toNat * 10)) 7 (.int .i64 ((rd_T55 l0 Aa).f4.f2.f1)) ∧ cA w' (Ab.add ((Aa).toNat * 10)) 8 (.int .i64 ((rd_T55 l0 Aa).f4.f2.f2)) ∧ cA w' (Ab.add ((Aa).toNat * 10)) 9 (.int .u32 ((rd_T55 l0 Aa).f4.f2.f3))) (ds := []) #[false, false, false, false, false, false, false, false, false, false, false, false, false, false, false, false, false, false, false, false, false, false, false, false, false, false, false, false, false, false, false, false, false, false, false, false, false, false, false, false, false, false, false, false, false, false, false, false, false] (by kernel_rfl) rfl rfl ⟨(cT HB.out Ac), (cT HB.out Ad), (cT HB.out Ae), (cT HB.out Af), (cT HB.out Ag), (cT HB.out Ah), (cT HB.out Ai), (cT HB.out Aj), (cT HB.out Ak), (cT HB.out Al)⟩ (fun hHeld => ?_); refine with_tabW garnerref23_Rows.tab4 garnerref23_Rows.bits4 (fun HT_ HW_ => ?_)
    generalize wr.drew = w18 at HB Az Ap Aq Ar As At Au Av Aw Ax Ay hHeld ⊢
    refine pui 0 10 49 1 HT_ ?_
    refine pui 1 11 49 3 HT_ ?_
    refine pui 2 12 49 7 HT_ ?_
    refine pui 3 13 49 15 HT_ ?_
    refine tki 4 14 49 31 HT_ HW_ hHeld ?_
    refine onei 5 15 49 63 HT_ (fun K hK => ?_)
    refine goes_ Try.func31 (by kernel_rfl) rfl #[.int .i64 ((rd_T55 l0 Aa).f0)] (by rfl) rfl rfl pL ?_
    with_reducible refine (garnerref23_counts.calls ((rd_T55 l0 Aa).f0) true _ A4.out).mono ?_
    rintro e w' ⟨rfl, ⟨nd, rfl⟩⟩
    refine ⟨_, rfl, ?_⟩
    refine hK.out _ _ ⟨(cT HB.out Ac), (cT HB.out Ad), (cT HB.out Ae), (cT HB.out Af), (cT HB.out Ag), (cT HB.out Ah), (cT HB.out Ai), (cT HB.out Aj), (cT HB.out Ak), (cT HB.out Al)⟩ (fun hHeld => ?_)
    clear hK K
    refine norm_ (a' := ?_) ?_ ?_
    rotate_left
    ·show Act.put _ (some 15) _ = _
     simp only [Act.put, List.setIfInBounds_toArray, List.set_cons_zero, List.set_cons_succ, i64_w, i32_w]
     rfl
    refine pui 6 16 49 127 HT_ ?_
    refine pui 7 17 49 255 HT_ ?_
    refine pui 8 18 49 511 HT_ ?_
    refine pui 9 19 49 1023 HT_ ?_
    refine pui 10 20 49 2047 HT_ ?_
    refine pui 11 21 49 4095 HT_ ?_
    refine tki 12 22 49 8191 HT_ HW_ hHeld ?_
    refine onei 13 23 49 16383 HT_ (fun K hK => ?_)
    refine goes_ Try.func31 (by kernel_rfl) rfl #[.int .i64 ((rd_T55 l0 Aa).f1)] (by rfl) rfl rfl pL ?_
    with_reducible refine (garnerref23_counts.calls ((rd_T55 l0 Aa).f1) false _ A6.out).mono ?_
    rintro e w' ⟨rfl, ⟨nd, rfl⟩⟩
    refine ⟨_, rfl, ?_⟩
    refine hK.out _ _ ⟨(cT HB.out Ac), (cT HB.out Ad), (cT HB.out Ae), (cT HB.out Af), (cT HB.out Ag), (cT HB.out Ah), (cT HB.out Ai), (cT HB.out Aj), (cT HB.out Ak), (cT HB.out Al)⟩ (fun hHeld => ?_)
    clear hK K
    refine norm_ (a' := ?_) ?_ ?_
    rotate_left
    ·show Act.put _ (some 23) _ = _
     simp only [Act.put, List.setIfInBounds_toArray, List.set_cons_zero, List.set_cons_succ, i64_w, i32_w]
     rfl
    refine pui 14 24 49 32767 HT_ ?_
    refine pui 15 25 49 65535 HT_ ?_
    refine pui 16 26 49 131071 HT_ ?_
    refine pdi 17 27 49 262143 HT_ ?_
    refine pdi 18 28 49 524287 HT_ ?_
    refine pdi 19 29 49 1048575 HT_ ?_
    refine pdi 20 30 49 2097151 HT_ ?_
    refine pdi 21 31 49 4194303 HT_ ?_
    refine pdi 22 32 49 8388607 HT_ ?_
    refine pdi 23 33 49 16777215 HT_ ?_
    refine pdi 24 34 49 33554431 HT_ ?_
    refine pdi 25 35 49 67108863 HT_ ?_
    refine pdi 26 36 49 134217727 HT_ ?_
    refine pdi 27 37 49 268435455 HT_ ?_
    refine pdi 28 38 49 536870911 HT_ ?_
    refine pdi 29 39 49 1073741823 HT_ ?_
    refine pdi 30 40 49 2147483647 HT_ ?_
    refine pdi 31 41 49 4294967295 HT_ ?_
    refine pdi 32 42 49 8589934591 HT_ ?_
    refine pdi 33 43 49 17179869183 HT_ ?_
    refine pdi 34 44 49 34359738367 HT_ ?_
    refine pdi 35 45 49 68719476735 HT_ ?_
    refine pdi 36 46 49 137438953471 HT_ ?_
    refine pdi 37 47 49 274877906943 HT_ ?_
    refine pdi 38 48 49 549755813887 HT_ ?_
    refine pdi 39 49 49 1099511627775 HT_ ?_
    refine pdi 40 50 49 2199023255551 HT_ ?_
    refine pdi 41 51 49 4398046511103 HT_ ?_
    refine pdi 42 52 49 8796093022207 HT_ ?_
    refine pdi 43 53 49 17592186044415 HT_ ?_
    refine pdi 44 54 49 35184372088831 HT_ ?_
    refine pdi 45 55 49 70368744177663 HT_ ?_
    refine pdi 46 56 49 140737488355327 HT_ ?_
    refine pdi 47 57 49 281474976710655 HT_ ?_
    refine pui 48 58 49 562949953421311 HT_ ?_
    refine done_ (done_of HT_.out (by kernel_rfl)) ?_
    try go_wp2
    go_ret
    exact ⟨pX, pB HB.out⟩
   subst c7
   have H1 : (if Aa > 0 then (if 0 ≤ (wrap64 (Aa - 1)) then (if (wrap64 (Aa - 1)) < (l0.length : Int) then (if (wrap64 (((rd_T55 l0 Aa).f0) - 1)) = ((rd_T55 l0 (wrap64 (Aa - 1))).f0) then (if ((rd_T55 l0 Aa).f1) < ((rd_T55 l0 (wrap64 (Aa - 1))).f1) then (some false) else (garnerref23_Rows.l0 k1 l0 (wrap64 (Aa + 1)))) else (some false)) else (none)) else (none)) else (garnerref23_Rows.l0 k1 l0 (wrap64 (Aa + 1)))) = some r := by rw [if_pos rfl] at H; exact H
   clear H
   have H := H1
   clear H1
   by_cases c8 : Aa > 0
   rotate_left
   ·rw [if_neg c8] at H
    have c8b0 : decide (0 < Aa) = false := decide_eq_false c8
    clear c8
    have H' := Am H
    clear H
    try go_wp2
    replace HB := bDa HB
    have p280 : 0 ≤ (Aa : Int) := of_decide_eq_true pS
    have q280 : Aa < (l0.length : Int) := of_decide_eq_true pS
    obtain ⟨Ab, Bd, c280_5, e280, Ap, Aq, Ar, As, At, Au, Av, Aw, Ax, Ay, An, Ao, Ac, Ad, Ae, Af, Ag, Ah, Ai, Aj, Ak, Al⟩ := at_T55w HR0.out Aa p280 q280 HB.out
    cases e280
    have Az := Am Ao
    have Bh := Am An
    clear Ao An
    replace p280 := eq_true p280
    replace q280 := eq_true q280
    refine start_ (n := 49) (S := fun w' => w'.cell? (Ab.add ((Aa).toNat * 10)) = some (.int .i64 ((rd_T55 l0 Aa).f0)) ∧ cA w' (Ab.add ((Aa).toNat * 10)) 1 (.int .i64 ((rd_T55 l0 Aa).f1)) ∧ cA w' (Ab.add ((Aa).toNat * 10)) 2 (.int .i64 ((rd_T55 l0 Aa).f2)) ∧ cA w' (Ab.add ((Aa).toNat * 10)) 3 (.string ((rd_T55 l0 Aa).f3)) ∧ cA w' (Ab.add ((Aa).toNat * 10)) 4 (.bool ((rd_T55 l0 Aa).f4.f0)) ∧ cA w' (Ab.add ((Aa).toNat * 10)) 5 (.slice Bd ((rd_T55 l0 Aa).f4.f1).length c280_5) ∧ cA w' (Ab.add ((Aa).toNat * 10)) 6 (.int .i64 ((rd_T55 l0 Aa).f4.f2.f0)) ∧ cA w' (Ab.add ((Aa).toNat * 10)) 7 (.int .i64 ((rd_T55 l0 Aa).f4.f2.f1)) ∧ cA w' (Ab.add ((Aa).toNat * 10)) 8 (.int .i64 ((rd_T55 l0 Aa).f4.f2.f2)) ∧ cA w' (Ab.add ((Aa).toNat * 10)) 9 (.int .u32 ((rd_T55 l0 Aa).f4.f2.f3))) (ds := []) #[false, false, false, false, false, false, false, false, false, false, false, false, false, false, false, false, false, false, false, false, false, false, false, false, false, false, false, false, false, false, false, false, false, false, false, false, false, false, false, false, false, false, false, false, false, false, false, false, false] (by kernel_rfl) rfl rfl ⟨(cT HB.out Ac), (cT HB.out Ad), (cT HB.out Ae), (cT HB.out Af), (cT HB.out Ag), (cT HB.out Ah), (cT HB.out Ai), (cT HB.out Aj), (cT HB.out Ak), (cT HB.out Al)⟩ (fun hHeld => ?_); refine with_tabW garnerref23_Rows.tab4 garnerref23_Rows.bits4 (fun HT_ HW_ => ?_)
    generalize wr.drew = w17 at HB Az Ap Aq Ar As At Au Av Aw Ax Ay hHeld ⊢
    refine pui 0 10 49 1 HT_ ?_
    refine pui 1 11 49 3 HT_ ?_
    refine pui 2 12 49 7 HT_ ?_
    refine pui 3 13 49 15 HT_ ?_
    refine tki 4 14 49 31 HT_ HW_ hHeld ?_
    refine onei 5 15 49 63 HT_ (fun K hK => ?_)
    refine goes_ Try.func31 (by kernel_rfl) rfl #[.int .i64 ((rd_T55 l0 Aa).f0)] (by rfl) rfl rfl pL ?_
    with_reducible refine (garnerref23_counts.calls ((rd_T55 l0 Aa).f0) true _ A4.out).mono ?_
    rintro e w' ⟨rfl, ⟨nd, rfl⟩⟩
    refine ⟨_, rfl, ?_⟩
    refine hK.out _ _ ⟨(cT HB.out Ac), (cT HB.out Ad), (cT HB.out Ae), (cT HB.out Af), (cT HB.out Ag), (cT HB.out Ah), (cT HB.out Ai), (cT HB.out Aj), (cT HB.out Ak), (cT HB.out Al)⟩ (fun hHeld => ?_)
    clear hK K
    refine norm_ (a' := ?_) ?_ ?_
    rotate_left
    ·show Act.put _ (some 15) _ = _
     simp only [Act.put, List.setIfInBounds_toArray, List.set_cons_zero, List.set_cons_succ, i64_w, i32_w]
     rfl
    refine pui 6 16 49 127 HT_ ?_
    refine pui 7 17 49 255 HT_ ?_
    refine pui 8 18 49 511 HT_ ?_
    refine pui 9 19 49 1023 HT_ ?_
    refine pui 10 20 49 2047 HT_ ?_
    refine pui 11 21 49 4095 HT_ ?_
    refine tki 12 22 49 8191 HT_ HW_ hHeld ?_
    refine onei 13 23 49 16383 HT_ (fun K hK => ?_)
    refine goes_ Try.func31 (by kernel_rfl) rfl #[.int .i64 ((rd_T55 l0 Aa).f1)] (by rfl) rfl rfl pL ?_
    with_reducible refine (garnerref23_counts.calls ((rd_T55 l0 Aa).f1) true _ A6.out).mono ?_
    rintro e w' ⟨rfl, ⟨nd, rfl⟩⟩
    refine ⟨_, rfl, ?_⟩
    refine hK.out _ _ ⟨(cT HB.out Ac), (cT HB.out Ad), (cT HB.out Ae), (cT HB.out Af), (cT HB.out Ag), (cT HB.out Ah), (cT HB.out Ai), (cT HB.out Aj), (cT HB.out Ak), (cT HB.out Al)⟩ (fun hHeld => ?_)
    clear hK K
    refine norm_ (a' := ?_) ?_ ?_
    rotate_left
    ·show Act.put _ (some 23) _ = _
     simp only [Act.put, List.setIfInBounds_toArray, List.set_cons_zero, List.set_cons_succ, i64_w, i32_w]
     rfl
    refine pui 14 24 49 32767 HT_ ?_
    refine pui 15 25 49 65535 HT_ ?_
    refine pui 16 26 49 131071 HT_ ?_
    refine pui 17 27 49 262143 HT_ ?_
    refine pui 18 28 49 524287 HT_ ?_
    refine pui 19 29 49 1048575 HT_ ?_
    refine pdi 20 30 49 2097151 HT_ ?_
    refine pdi 21 31 49 4194303 HT_ ?_
    refine pdi 22 32 49 8388607 HT_ ?_
    refine pdi 23 33 49 16777215 HT_ ?_
    refine pdi 24 34 49 33554431 HT_ ?_
    refine pdi 25 35 49 67108863 HT_ ?_
    refine pdi 26 36 49 134217727 HT_ ?_
    refine pdi 27 37 49 268435455 HT_ ?_
    refine pdi 28 38 49 536870911 HT_ ?_
    refine pdi 29 39 49 1073741823 HT_ ?_
    refine pdi 30 40 49 2147483647 HT_ ?_
    refine pdi 31 41 49 4294967295 HT_ ?_
    refine pdi 32 42 49 8589934591 HT_ ?_
    refine pdi 33 43 49 17179869183 HT_ ?_
    refine pdi 34 44 49 34359738367 HT_ ?_
    refine pdi 35 45 49 68719476735 HT_ ?_
    refine pdi 36 46 49 137438953471 HT_ ?_
    refine pdi 37 47 49 274877906943 HT_ ?_
    refine pdi 38 48 49 549755813887 HT_ ?_
    refine pdi 39 49 49 1099511627775 HT_ ?_
    refine pdi 40 50 49 2199023255551 HT_ ?_
    refine pdi 41 51 49 4398046511103 HT_ ?_
    refine pdi 42 52 49 8796093022207 HT_ ?_
    refine pdi 43 53 49 17592186044415 HT_ ?_
    refine pdi 44 54 49 35184372088831 HT_ ?_
    refine pdi 45 55 49 70368744177663 HT_ ?_
    refine pdi 46 56 49 140737488355327 HT_ ?_
    refine pui 47 57 49 281474976710655 HT_ ?_
    refine pui 48 58 49 562949953421311 HT_ ?_
    refine done_ (done_of HT_.out (by kernel_rfl)) ?_
    try go_wp2
    go_roundg k1
    case measure => have := HK1.out; omega
    case rel => exact ⟨(wrap64 (Aa + 1)), (by first | rfl | (simp; done) | (simp [*]; done)), H', ⟨by have := HK1.out; omega⟩, ⟨pB HB.out⟩⟩
   rw [if_pos c8] at H
   have c8b0 : decide (0 < Aa) = true := decide_eq_true c8
   clear c8
   obtain ⟨ji9, hji9⟩ : ∃ j_ : Int, (wrap64 (Aa - 1)) = j_ := ⟨_, rfl⟩
   replace H : (if 0 ≤ (ji9) then (if (ji9) < (l0.length : Int) then (if (wrap64 (((rd_T55 l0 Aa).f0) - 1)) = ((rd_T55 l0 (ji9)).f0) then (if ((rd_T55 l0 Aa).f1) < ((rd_T55 l0 (ji9)).f1) then (some false) else (garnerref23_Rows.l0 k1 l0 (wrap64 (Aa + 1)))) else (some false)) else (none)) else (none)) = some r := by first | (rw [hji9] at H; exact H) | (simp only [hji9] at H ⊢; exact H)
   (try rw [hji9] at A4)
   (try rw [hji9] at A6)
   have hji9w : (IntKind.i64.wrap (Aa - 1)) = ji9 := (i64_w _).trans hji9
   by_cases c10 : 0 ≤ (ji9)
   rotate_left
   ·rw [if_neg c10] at H
    exact absurd H (by simp)
   rw [if_pos c10] at H
   have c10b0 : decide (0 ≤ (ji9)) = true := decide_eq_true c10
   clear c10
   by_cases c11 : (ji9) < (l0.length : Int)
   rotate_left
   ·rw [if_neg c11] at H
    exact absurd H (by simp)
   rw [if_pos c11] at H
   have c11b0 : decide ((ji9) < (l0.length : Int)) = true := decide_eq_true c11
   clear c11
   by_cases c12 : (wrap64 (((rd_T55 l0 Aa).f0) - 1)) = ((rd_T55 l0 (ji9)).f0)
   rotate_left
   ·rw [if_neg c12] at H
    have c12b0 : ((wrap64 (((rd_T55 l0 Aa).f0) - 1)) == ((rd_T55 l0 (ji9)).f0)) = false := beq_eq_false_iff_ne.mpr c12
    have c12b1 : ((wrap64 (((rd_T55 l0 Aa).f0) - 1)) != ((rd_T55 l0 (ji9)).f0)) = true := bne_iff_ne.mpr c12
    obtain rfl := Option.some.inj H
    try go_wp2
    replace HB := bDa HB
    have p280 : 0 ≤ (Aa : Int) := of_decide_eq_true pS
    have q280 : Aa < (l0.length : Int) := of_decide_eq_true pS
    obtain ⟨Ab, Bd, c280_5, e280, Ap, Aq, Ar, As, At, Au, Av, Aw, Ax, Ay, An, Ao, Ac, Ad, Ae, Af, Ag, Ah, Ai, Aj, Ak, Al⟩ := at_T55w HR0.out Aa p280 q280 HB.out
    cases e280
    have Az := Am Ao
    have Bh := Am An
    clear Ao An
    replace p280 := eq_true p280
    replace q280 := eq_true q280
    have p285 : 0 ≤ ((ji9) : Int) := of_decide_eq_true pS
    have q285 : (ji9) < (l0.length : Int) := of_decide_eq_true pS
    obtain ⟨B6, Bv, c285_5, e285, Bi, Bj, Bk, Bl, Bm, Bg, Bn, Bo, Bp, Bq, Be, Bf, A1, A2, A3, A5, A7, A8, A9, Ba, Bb, Bc⟩ := at_T55w HR0.out (ji9) p285 q285 HB.out
    obtain rfl : Ab = B6 := (by injection e285)
    have Br := Am Bf
    have B7 := Am Be
    clear Bf Be
    replace p285 := eq_true p285
    replace q285 := eq_true q285
    refine start_ (n := 49) (S := fun w' => w'.cell? (Ab.add ((Aa).toNat * 10)) = some (.int .i64 ((rd_T55 l0 Aa).f0)) ∧ cA w' (Ab.add ((Aa).toNat * 10)) 1 (.int .i64 ((rd_T55 l0 Aa).f1)) ∧ cA w' (Ab.add ((Aa).toNat * 10)) 2 (.int .i64 ((rd_T55 l0 Aa).f2)) ∧ cA w' (Ab.add ((Aa).toNat * 10)) 3 (.string ((rd_T55 l0 Aa).f3)) ∧ cA w' (Ab.add ((Aa).toNat * 10)) 4 (.bool ((rd_T55 l0 Aa).f4.f0)) ∧ cA w' (Ab.add ((Aa).toNat * 10)) 5 (.slice Bd ((rd_T55 l0 Aa).f4.f1).length c280_5) ∧ cA w' (Ab.add ((Aa).toNat * 10)) 6 (.int .i64 ((rd_T55 l0 Aa).f4.f2.f0)) ∧ cA w' (Ab.add ((Aa).toNat * 10)) 7 (.int .i64 ((rd_T55 l0 Aa).f4.f2.f1)) ∧ cA w' (Ab.add ((Aa).toNat * 10)) 8 (.int .i64 ((rd_T55 l0 Aa).f4.f2.f2)) ∧ cA w' (Ab.add ((Aa).toNat * 10)) 9 (.int .u32 ((rd_T55 l0 Aa).f4.f2.f3)) ∧ w'.cell? (Ab.add (((ji9)).toNat * 10)) = some (.int .i64 ((rd_T55 l0 (ji9)).f0)) ∧ w'.cell? ⟨(Ab.add (((ji9)).toNat * 10)).block, (Ab.add (((ji9)).toNat * 10)).off + 1, none⟩ = some (.int .i64 ((rd_T55 l0 (ji9)).f1)) ∧ w'.cell? ⟨(Ab.add (((ji9)).toNat * 10)).block, (Ab.add (((ji9)).toNat * 10)).off + 2, none⟩ = some (.int .i64 ((rd_T55 l0 (ji9)).f2)) ∧ w'.cell? ⟨(Ab.add (((ji9)).toNat * 10)).block, (Ab.add (((ji9)).toNat * 10)).off + 3, none⟩ = some (.string ((rd_T55 l0 (ji9)).f3)) ∧ w'.cell? ⟨(Ab.add (((ji9)).toNat * 10)).block, (Ab.add (((ji9)).toNat * 10)).off + 4, none⟩ = some (.bool ((rd_T55 l0 (ji9)).f4.f0)) ∧ w'.cell? ⟨(Ab.add (((ji9)).toNat * 10)).block, (Ab.add (((ji9)).toNat * 10)).off + 5, none⟩ = some (.slice Bv ((rd_T55 l0 (ji9)).f4.f1).length c285_5) ∧ w'.cell? ⟨(Ab.add (((ji9)).toNat * 10)).block, (Ab.add (((ji9)).toNat * 10)).off + 6, none⟩ = some (.int .i64 ((rd_T55 l0 (ji9)).f4.f2.f0)) ∧ w'.cell? ⟨(Ab.add (((ji9)).toNat * 10)).block, (Ab.add (((ji9)).toNat * 10)).off + 7, none⟩ = some (.int .i64 ((rd_T55 l0 (ji9)).f4.f2.f1)) ∧ w'.cell? ⟨(Ab.add (((ji9)).toNat * 10)).block, (Ab.add (((ji9)).toNat * 10)).off + 8, none⟩ = some (.int .i64 ((rd_T55 l0 (ji9)).f4.f2.f2)) ∧ w'.cell? ⟨(Ab.add (((ji9)).toNat * 10)).block, (Ab.add (((ji9)).toNat * 10)).off + 9, none⟩ = some (.int .u32 ((rd_T55 l0 (ji9)).f4.f2.f3))) (ds := []) #[false, false, false, false, false, false, false, false, false, false, false, false, false, false, false, false, false, false, false, false, false, false, false, false, false, false, false, false, false, false, false, false, false, false, false, false, false, false, false, false, false, false, false, false, false, false, false, false, false] (by kernel_rfl) rfl rfl ⟨(cT HB.out Ac), (cT HB.out Ad), (cT HB.out Ae), (cT HB.out Af), (cT HB.out Ag), (cT HB.out Ah), (cT HB.out Ai), (cT HB.out Aj), (cT HB.out Ak), (cT HB.out Al), (cT HB.out A1), (cT HB.out A2), (cT HB.out A3), (cT HB.out A5), (cT HB.out A7), (cT HB.out A8), (cT HB.out A9), (cT HB.out Ba), (cT HB.out Bb), (cT HB.out Bc)⟩ (fun hHeld => ?_); refine with_tabW garnerref23_Rows.tab4 garnerref23_Rows.bits4 (fun HT_ HW_ => ?_)
    generalize wr.drew = w16 at HB Az Br Ap Aq Ar As At Au Av Aw Ax Ay Bi Bj Bk Bl Bm Bg Bn Bo Bp Bq hHeld ⊢
    refine pui 0 10 49 1 HT_ ?_
    refine pui 1 11 49 3 HT_ ?_
    refine pui 2 12 49 7 HT_ ?_
    refine pui 3 13 49 15 HT_ ?_
    refine tki 4 14 49 31 HT_ HW_ hHeld ?_
    refine onei 5 15 49 63 HT_ (fun K hK => ?_)
    refine goes_ Try.func31 (by kernel_rfl) rfl #[.int .i64 ((rd_T55 l0 Aa).f0)] (by rfl) rfl rfl pL ?_
    with_reducible refine (garnerref23_counts.calls ((rd_T55 l0 Aa).f0) true _ A4.out).mono ?_
    rintro e w' ⟨rfl, ⟨nd, rfl⟩⟩
    refine ⟨_, rfl, ?_⟩
    refine hK.out _ _ ⟨(cT HB.out Ac), (cT HB.out Ad), (cT HB.out Ae), (cT HB.out Af), (cT HB.out Ag), (cT HB.out Ah), (cT HB.out Ai), (cT HB.out Aj), (cT HB.out Ak), (cT HB.out Al), (cT HB.out A1), (cT HB.out A2), (cT HB.out A3), (cT HB.out A5), (cT HB.out A7), (cT HB.out A8), (cT HB.out A9), (cT HB.out Ba), (cT HB.out Bb), (cT HB.out Bc)⟩ (fun hHeld => ?_)
    clear hK K
    refine norm_ (a' := ?_) ?_ ?_
    rotate_left
    ·show Act.put _ (some 15) _ = _
     simp only [Act.put, List.setIfInBounds_toArray, List.set_cons_zero, List.set_cons_succ, i64_w, i32_w]
     rfl
    refine pui 6 16 49 127 HT_ ?_
    refine pui 7 17 49 255 HT_ ?_
    refine pui 8 18 49 511 HT_ ?_
    refine pui 9 19 49 1023 HT_ ?_
    refine pui 10 20 49 2047 HT_ ?_
    refine pui 11 21 49 4095 HT_ ?_
    refine tki 12 22 49 8191 HT_ HW_ hHeld ?_
    refine onei 13 23 49 16383 HT_ (fun K hK => ?_)
    refine goes_ Try.func31 (by kernel_rfl) rfl #[.int .i64 ((rd_T55 l0 Aa).f1)] (by rfl) rfl rfl pL ?_
    with_reducible refine (garnerref23_counts.calls ((rd_T55 l0 Aa).f1) true _ A6.out).mono ?_
    rintro e w' ⟨rfl, ⟨nd, rfl⟩⟩
    refine ⟨_, rfl, ?_⟩
    refine hK.out _ _ ⟨(cT HB.out Ac), (cT HB.out Ad), (cT HB.out Ae), (cT HB.out Af), (cT HB.out Ag), (cT HB.out Ah), (cT HB.out Ai), (cT HB.out Aj), (cT HB.out Ak), (cT HB.out Al), (cT HB.out A1), (cT HB.out A2), (cT HB.out A3), (cT HB.out A5), (cT HB.out A7), (cT HB.out A8), (cT HB.out A9), (cT HB.out Ba), (cT HB.out Bb), (cT HB.out Bc)⟩ (fun hHeld => ?_)
    clear hK K
    refine norm_ (a' := ?_) ?_ ?_
    rotate_left
    ·show Act.put _ (some 23) _ = _
     simp only [Act.put, List.setIfInBounds_toArray, List.set_cons_zero, List.set_cons_succ, i64_w, i32_w]
     rfl
    refine pui 14 24 49 32767 HT_ ?_
    refine pui 15 25 49 65535 HT_ ?_
    refine pui 16 26 49 131071 HT_ ?_
    refine pui 17 27 49 262143 HT_ ?_
    refine pui 18 28 49 524287 HT_ ?_
    refine pui 19 29 49 1048575 HT_ ?_
    refine pui 20 30 49 2097151 HT_ ?_
    refine pui 21 31 49 4194303 HT_ ?_
    refine pui 22 32 49 8388607 HT_ ?_
    refine pui 23 33 49 16777215 HT_ ?_
    refine pui 26 36 49 83886079 HT_ ?_
    refine pui 27 37 49 218103807 HT_ ?_
    refine pui 28 38 49 486539263 HT_ ?_
    refine pui 29 39 49 1023410175 HT_ ?_
    refine pui 30 40 49 2097151999 HT_ ?_
    refine tki 24 34 49 2113929215 HT_ HW_ hHeld ?_
    refine pui 25 35 49 2147483647 HT_ ?_
    refine tki 31 41 49 4294967295 HT_ HW_ hHeld ?_
    refine pui 32 42 49 8589934591 HT_ ?_
    refine pui 33 43 49 17179869183 HT_ ?_
    refine pdi 34 44 49 34359738367 HT_ ?_
    refine pdi 35 45 49 68719476735 HT_ ?_
    refine pdi 36 46 49 137438953471 HT_ ?_
    refine pdi 37 47 49 274877906943 HT_ ?_
    refine pdi 38 48 49 549755813887 HT_ ?_
    refine pdi 39 49 49 1099511627775 HT_ ?_
    refine pdi 40 50 49 2199023255551 HT_ ?_
    refine pdi 41 51 49 4398046511103 HT_ ?_
    refine pdi 42 52 49 8796093022207 HT_ ?_
    refine pdi 43 53 49 17592186044415 HT_ ?_
    refine pdi 44 54 49 35184372088831 HT_ ?_
    refine pdi 45 55 49 70368744177663 HT_ ?_
    refine pui 46 56 49 140737488355327 HT_ ?_
    refine pui 47 57 49 281474976710655 HT_ ?_
    refine pui 48 58 49 562949953421311 HT_ ?_
    refine done_ (done_of HT_.out (by kernel_rfl)) ?_
    try go_wp2
    go_ret
    exact ⟨by first | rfl | (simp [errW_none, errW_some] <;> rfl) | (simp only [← hji9]; first | rfl | (simp [errW_none, errW_some] <;> rfl)) | (simp [*, errW_none, errW_some] <;> rfl), pB HB.out⟩
   rw [if_pos c12] at H
   have c12b0 : ((wrap64 (((rd_T55 l0 Aa).f0) - 1)) == ((rd_T55 l0 (ji9)).f0)) = true := beq_iff_eq.mpr c12
   have c12b1 : ((wrap64 (((rd_T55 l0 Aa).f0) - 1)) != ((rd_T55 l0 (ji9)).f0)) = false := bne_eq_false_iff_eq.mpr c12
   clear c12
   by_cases c13 : ((rd_T55 l0 Aa).f1) < ((rd_T55 l0 (ji9)).f1)
   ·rw [if_pos c13] at H
    have c13b0 : decide (((rd_T55 l0 Aa).f1) < ((rd_T55 l0 (ji9)).f1)) = true := decide_eq_true c13
    clear c13
    obtain rfl := Option.some.inj H
    try go_wp2
    replace HB := bDa HB
    have p280 : 0 ≤ (Aa : Int) := of_decide_eq_true pS
    have q280 : Aa < (l0.length : Int) := of_decide_eq_true pS
    obtain ⟨Ab, Bd, c280_5, e280, Ap, Aq, Ar, As, At, Au, Av, Aw, Ax, Ay, An, Ao, Ac, Ad, Ae, Af, Ag, Ah, Ai, Aj, Ak, Al⟩ := at_T55w HR0.out Aa p280 q280 HB.out
    cases e280
    have Az := Am Ao
    have Bh := Am An
    clear Ao An
    replace p280 := eq_true p280
    replace q280 := eq_true q280
    have p285 : 0 ≤ ((ji9) : Int) := of_decide_eq_true pS
    have q285 : (ji9) < (l0.length : Int) := of_decide_eq_true pS
    obtain ⟨B6, Bv, c285_5, e285, Bi, Bj, Bk, Bl, Bm, Bg, Bn, Bo, Bp, Bq, Be, Bf, A1, A2, A3, A5, A7, A8, A9, Ba, Bb, Bc⟩ := at_T55w HR0.out (ji9) p285 q285 HB.out
    obtain rfl : Ab = B6 := (by injection e285)
    have Br := Am Bf
    have B7 := Am Be
    clear Bf Be
    replace p285 := eq_true p285
    replace q285 := eq_true q285
    have p287 : 0 ≤ ((ji9) : Int) := of_decide_eq_true pS
    have q287 : (ji9) < (l0.length : Int) := of_decide_eq_true pS
    obtain ⟨B8, Ck, c287_5, e287, Bw, Bx, By, Bz, B0, Bs, B1, B2, B3, B4, Bt, Bu, B9, Ca, Cb, Cc, Cd, Ce, Cf, Cg, Ch, Ci⟩ := at_T55w HR0.out (ji9) p287 q287 HB.out
    obtain rfl : Ab = B8 := (by injection e287)
    have B5 := Am Bu
    have Cj := Am Bt
    clear Bu Bt
    replace p287 := eq_true p287
    replace q287 := eq_true q287
    have ea_ := Option.some.inj (Bg.symm.trans Bs)
    injection ea_ with ea_ en_ ec_
    subst ea_
    subst ec_
    clear en_
    refine start_ (n := 49) (S := fun w' => w'.cell? (Ab.add ((Aa).toNat * 10)) = some (.int .i64 ((rd_T55 l0 Aa).f0)) ∧ cA w' (Ab.add ((Aa).toNat * 10)) 1 (.int .i64 ((rd_T55 l0 Aa).f1)) ∧ cA w' (Ab.add ((Aa).toNat * 10)) 2 (.int .i64 ((rd_T55 l0 Aa).f2)) ∧ cA w' (Ab.add ((Aa).toNat * 10)) 3 (.string ((rd_T55 l0 Aa).f3)) ∧ cA w' (Ab.add ((Aa).toNat * 10)) 4 (.bool ((rd_T55 l0 Aa).f4.f0)) ∧ cA w' (Ab.add ((Aa).toNat * 10)) 5 (.slice Bd ((rd_T55 l0 Aa).f4.f1).length c280_5) ∧ cA w' (Ab.add ((Aa).toNat * 10)) 6 (.int .i64 ((rd_T55 l0 Aa).f4.f2.f0)) ∧ cA w' (Ab.add ((Aa).toNat * 10)) 7 (.int .i64 ((rd_T55 l0 Aa).f4.f2.f1)) ∧ cA w' (Ab.add ((Aa).toNat * 10)) 8 (.int .i64 ((rd_T55 l0 Aa).f4.f2.f2)) ∧ cA w' (Ab.add ((Aa).toNat * 10)) 9 (.int .u32 ((rd_T55 l0 Aa).f4.f2.f3)) ∧ w'.cell? (Ab.add (((ji9)).toNat * 10)) = some (.int .i64 ((rd_T55 l0 (ji9)).f0)) ∧ w'.cell? ⟨(Ab.add (((ji9)).toNat * 10)).block, (Ab.add (((ji9)).toNat * 10)).off + 1, none⟩ = some (.int .i64 ((rd_T55 l0 (ji9)).f1)) ∧ w'.cell? ⟨(Ab.add (((ji9)).toNat * 10)).block, (Ab.add (((ji9)).toNat * 10)).off + 2, none⟩ = some (.int .i64 ((rd_T55 l0 (ji9)).f2)) ∧ w'.cell? ⟨(Ab.add (((ji9)).toNat * 10)).block, (Ab.add (((ji9)).toNat * 10)).off + 3, none⟩ = some (.string ((rd_T55 l0 (ji9)).f3)) ∧ w'.cell? ⟨(Ab.add (((ji9)).toNat * 10)).block, (Ab.add (((ji9)).toNat * 10)).off + 4, none⟩ = some (.bool ((rd_T55 l0 (ji9)).f4.f0)) ∧ w'.cell? ⟨(Ab.add (((ji9)).toNat * 10)).block, (Ab.add (((ji9)).toNat * 10)).off + 5, none⟩ = some (.slice Bv ((rd_T55 l0 (ji9)).f4.f1).length c285_5) ∧ w'.cell? ⟨(Ab.add (((ji9)).toNat * 10)).block, (Ab.add (((ji9)).toNat * 10)).off + 6, none⟩ = some (.int .i64 ((rd_T55 l0 (ji9)).f4.f2.f0)) ∧ w'.cell? ⟨(Ab.add (((ji9)).toNat * 10)).block, (Ab.add (((ji9)).toNat * 10)).off + 7, none⟩ = some (.int .i64 ((rd_T55 l0 (ji9)).f4.f2.f1)) ∧ w'.cell? ⟨(Ab.add (((ji9)).toNat * 10)).block, (Ab.add (((ji9)).toNat * 10)).off + 8, none⟩ = some (.int .i64 ((rd_T55 l0 (ji9)).f4.f2.f2)) ∧ w'.cell? ⟨(Ab.add (((ji9)).toNat * 10)).block, (Ab.add (((ji9)).toNat * 10)).off + 9, none⟩ = some (.int .u32 ((rd_T55 l0 (ji9)).f4.f2.f3))) (ds := []) #[false, false, false, false, false, false, false, false, false, false, false, false, false, false, false, false, false, false, false, false, false, false, false, false, false, false, false, false, false, false, false, false, false, false, false, false, false, false, false, false, false, false, false, false, false, false, false, false, false] (by kernel_rfl) rfl rfl ⟨(cT HB.out Ac), (cT HB.out Ad), (cT HB.out Ae), (cT HB.out Af), (cT HB.out Ag), (cT HB.out Ah), (cT HB.out Ai), (cT HB.out Aj), (cT HB.out Ak), (cT HB.out Al), (cT HB.out A1), (cT HB.out A2), (cT HB.out A3), (cT HB.out A5), (cT HB.out A7), (cT HB.out A8), (cT HB.out A9), (cT HB.out Ba), (cT HB.out Bb), (cT HB.out Bc)⟩ (fun hHeld => ?_); refine with_tabW garnerref23_Rows.tab4 garnerref23_Rows.bits4 (fun HT_ HW_ => ?_)
    generalize wr.drew = w14 at HB Az Br B5 Ap Aq Ar As At Au Av Aw Ax Ay Bi Bj Bk Bl Bm Bg Bn Bo Bp Bq Bw Bx By Bz B0 Bs B1 B2 B3 B4 hHeld ⊢
    refine pui 0 10 49 1 HT_ ?_
    refine pui 1 11 49 3 HT_ ?_
    refine pui 2 12 49 7 HT_ ?_
    refine pui 3 13 49 15 HT_ ?_
    refine tki 4 14 49 31 HT_ HW_ hHeld ?_
    refine onei 5 15 49 63 HT_ (fun K hK => ?_)
    refine goes_ Try.func31 (by kernel_rfl) rfl #[.int .i64 ((rd_T55 l0 Aa).f0)] (by rfl) rfl rfl pL ?_
    with_reducible refine (garnerref23_counts.calls ((rd_T55 l0 Aa).f0) true _ A4.out).mono ?_
    rintro e w' ⟨rfl, ⟨nd, rfl⟩⟩
    refine ⟨_, rfl, ?_⟩
    refine hK.out _ _ ⟨(cT HB.out Ac), (cT HB.out Ad), (cT HB.out Ae), (cT HB.out Af), (cT HB.out Ag), (cT HB.out Ah), (cT HB.out Ai), (cT HB.out Aj), (cT HB.out Ak), (cT HB.out Al), (cT HB.out A1), (cT HB.out A2), (cT HB.out A3), (cT HB.out A5), (cT HB.out A7), (cT HB.out A8), (cT HB.out A9), (cT HB.out Ba), (cT HB.out Bb), (cT HB.out Bc)⟩ (fun hHeld => ?_)
    clear hK K
    refine norm_ (a' := ?_) ?_ ?_
    rotate_left
    ·show Act.put _ (some 15) _ = _
     simp only [Act.put, List.setIfInBounds_toArray, List.set_cons_zero, List.set_cons_succ, i64_w, i32_w]
     rfl
    refine pui 6 16 49 127 HT_ ?_
    refine pui 7 17 49 255 HT_ ?_
    refine pui 8 18 49 511 HT_ ?_
    refine pui 9 19 49 1023 HT_ ?_
    refine pui 10 20 49 2047 HT_ ?_
    refine pui 11 21 49 4095 HT_ ?_
    refine tki 12 22 49 8191 HT_ HW_ hHeld ?_
    refine onei 13 23 49 16383 HT_ (fun K hK => ?_)
    refine goes_ Try.func31 (by kernel_rfl) rfl #[.int .i64 ((rd_T55 l0 Aa).f1)] (by rfl) rfl rfl pL ?_
    with_reducible refine (garnerref23_counts.calls ((rd_T55 l0 Aa).f1) true _ A6.out).mono ?_
    rintro e w' ⟨rfl, ⟨nd, rfl⟩⟩
    refine ⟨_, rfl, ?_⟩
    refine hK.out _ _ ⟨(cT HB.out Ac), (cT HB.out Ad), (cT HB.out Ae), (cT HB.out Af), (cT HB.out Ag), (cT HB.out Ah), (cT HB.out Ai), (cT HB.out Aj), (cT HB.out Ak), (cT HB.out Al), (cT HB.out A1), (cT HB.out A2), (cT HB.out A3), (cT HB.out A5), (cT HB.out A7), (cT HB.out A8), (cT HB.out A9), (cT HB.out Ba), (cT HB.out Bb), (cT HB.out Bc)⟩ (fun hHeld => ?_)
    clear hK K
    refine norm_ (a' := ?_) ?_ ?_
    rotate_left
    ·show Act.put _ (some 23) _ = _
     simp only [Act.put, List.setIfInBounds_toArray, List.set_cons_zero, List.set_cons_succ, i64_w, i32_w]
     rfl
    refine pui 14 24 49 32767 HT_ ?_
    refine pui 15 25 49 65535 HT_ ?_
    refine pui 16 26 49 131071 HT_ ?_
    refine pui 17 27 49 262143 HT_ ?_
    refine pui 18 28 49 524287 HT_ ?_
    refine pui 19 29 49 1048575 HT_ ?_
    refine pui 20 30 49 2097151 HT_ ?_
    refine pui 21 31 49 4194303 HT_ ?_
    refine pui 22 32 49 8388607 HT_ ?_
    refine pui 23 33 49 16777215 HT_ ?_
    refine pui 26 36 49 83886079 HT_ ?_
    refine pui 27 37 49 218103807 HT_ ?_
    refine pui 28 38 49 486539263 HT_ ?_
    refine pui 29 39 49 1023410175 HT_ ?_
    refine pui 30 40 49 2097151999 HT_ ?_
    refine tki 24 34 49 2113929215 HT_ HW_ hHeld ?_
    refine pui 25 35 49 2147483647 HT_ ?_
    refine tki 31 41 49 4294967295 HT_ HW_ hHeld ?_
    refine pui 32 42 49 8589934591 HT_ ?_
    refine pui 33 43 49 17179869183 HT_ ?_
    refine pui 34 44 49 34359738367 HT_ ?_
    refine pui 35 45 49 68719476735 HT_ ?_
    refine pui 36 46 49 137438953471 HT_ ?_
    refine pui 37 47 49 274877906943 HT_ ?_
    refine pui 39 49 49 824633720831 HT_ ?_
    refine pui 40 50 49 1924145348607 HT_ ?_
    refine pui 41 51 49 4123168604159 HT_ ?_
    refine pui 42 52 49 8521215115263 HT_ ?_
    refine pui 43 53 49 17317308137471 HT_ ?_
    refine tki 38 48 49 17592186044415 HT_ HW_ hHeld ?_
    refine tki 44 54 49 35184372088831 HT_ HW_ hHeld ?_
    refine pui 45 55 49 70368744177663 HT_ ?_
    refine pui 46 56 49 140737488355327 HT_ ?_
    refine pui 47 57 49 281474976710655 HT_ ?_
    refine pui 48 58 49 562949953421311 HT_ ?_
    refine done_ (done_of HT_.out (by kernel_rfl)) ?_
    try go_wp2
    go_ret
    exact ⟨by first | rfl | (simp [errW_none, errW_some] <;> rfl) | (simp only [← hji9]; first | rfl | (simp [errW_none, errW_some] <;> rfl)) | (simp [*, errW_none, errW_some] <;> rfl), pB HB.out⟩
   rw [if_neg c13] at H
   have c13b0 : decide (((rd_T55 l0 Aa).f1) < ((rd_T55 l0 (ji9)).f1)) = false := decide_eq_false c13
   clear c13
   have H' := Am H
   clear H
   try go_wp2
   replace HB := bDa HB
   have p280 : 0 ≤ (Aa : Int) := of_decide_eq_true pS
   have q280 : Aa < (l0.length : Int) := of_decide_eq_true pS
   obtain ⟨Ab, Bd, c280_5, e280, Ap, Aq, Ar, As, At, Au, Av, Aw, Ax, Ay, An, Ao, Ac, Ad, Ae, Af, Ag, Ah, Ai, Aj, Ak, Al⟩ := at_T55w HR0.out Aa p280 q280 HB.out
   cases e280
   have Az := Am Ao
   have Bh := Am An
   clear Ao An
   replace p280 := eq_true p280
   replace q280 := eq_true q280
   have p285 : 0 ≤ ((ji9) : Int) := of_decide_eq_true pS
   have q285 : (ji9) < (l0.length : Int) := of_decide_eq_true pS
   obtain ⟨B6, Bv, c285_5, e285, Bi, Bj, Bk, Bl, Bm, Bg, Bn, Bo, Bp, Bq, Be, Bf, A1, A2, A3, A5, A7, A8, A9, Ba, Bb, Bc⟩ := at_T55w HR0.out (ji9) p285 q285 HB.out
   obtain rfl : Ab = B6 := (by injection e285)
   have Br := Am Bf
   have B7 := Am Be
   clear Bf Be
   replace p285 := eq_true p285
   replace q285 := eq_true q285
   have p287 : 0 ≤ ((ji9) : Int) := of_decide_eq_true pS
   have q287 : (ji9) < (l0.length : Int) := of_decide_eq_true pS
   obtain ⟨B8, Ck, c287_5, e287, Bw, Bx, By, Bz, B0, Bs, B1, B2, B3, B4, Bt, Bu, B9, Ca, Cb, Cc, Cd, Ce, Cf, Cg, Ch, Ci⟩ := at_T55w HR0.out (ji9) p287 q287 HB.out
   obtain rfl : Ab = B8 := (by injection e287)
   have B5 := Am Bu
   have Cj := Am Bt
   clear Bu Bt
   replace p287 := eq_true p287
   replace q287 := eq_true q287
   have ea_ := Option.some.inj (Bg.symm.trans Bs)
   injection ea_ with ea_ en_ ec_
   subst ea_
   subst ec_
   clear en_
   refine start_ (n := 49) (S := fun w' => w'.cell? (Ab.add ((Aa).toNat * 10)) = some (.int .i64 ((rd_T55 l0 Aa).f0)) ∧ cA w' (Ab.add ((Aa).toNat * 10)) 1 (.int .i64 ((rd_T55 l0 Aa).f1)) ∧ cA w' (Ab.add ((Aa).toNat * 10)) 2 (.int .i64 ((rd_T55 l0 Aa).f2)) ∧ cA w' (Ab.add ((Aa).toNat * 10)) 3 (.string ((rd_T55 l0 Aa).f3)) ∧ cA w' (Ab.add ((Aa).toNat * 10)) 4 (.bool ((rd_T55 l0 Aa).f4.f0)) ∧ cA w' (Ab.add ((Aa).toNat * 10)) 5 (.slice Bd ((rd_T55 l0 Aa).f4.f1).length c280_5) ∧ cA w' (Ab.add ((Aa).toNat * 10)) 6 (.int .i64 ((rd_T55 l0 Aa).f4.f2.f0)) ∧ cA w' (Ab.add ((Aa).toNat * 10)) 7 (.int .i64 ((rd_T55 l0 Aa).f4.f2.f1)) ∧ cA w' (Ab.add ((Aa).toNat * 10)) 8 (.int .i64 ((rd_T55 l0 Aa).f4.f2.f2)) ∧ cA w' (Ab.add ((Aa).toNat * 10)) 9 (.int .u32 ((rd_T55 l0 Aa).f4.f2.f3)) ∧ w'.cell? (Ab.add (((ji9)).toNat * 10)) = some (.int .i64 ((rd_T55 l0 (ji9)).f0)) ∧ w'.cell? ⟨(Ab.add (((ji9)).toNat * 10)).block, (Ab.add (((ji9)).toNat * 10)).off + 1, none⟩ = some (.int .i64 ((rd_T55 l0 (ji9)).f1)) ∧ w'.cell? ⟨(Ab.add (((ji9)).toNat * 10)).block, (Ab.add (((ji9)).toNat * 10)).off + 2, none⟩ = some (.int .i64 ((rd_T55 l0 (ji9)).f2)) ∧ w'.cell? ⟨(Ab.add (((ji9)).toNat * 10)).block, (Ab.add (((ji9)).toNat * 10)).off + 3, none⟩ = some (.string ((rd_T55 l0 (ji9)).f3)) ∧ w'.cell? ⟨(Ab.add (((ji9)).toNat * 10)).block, (Ab.add (((ji9)).toNat * 10)).off + 4, none⟩ = some (.bool ((rd_T55 l0 (ji9)).f4.f0)) ∧ w'.cell? ⟨(Ab.add (((ji9)).toNat * 10)).block, (Ab.add (((ji9)).toNat * 10)).off + 5, none⟩ = some (.slice Bv ((rd_T55 l0 (ji9)).f4.f1).length c285_5) ∧ w'.cell? ⟨(Ab.add (((ji9)).toNat * 10)).block, (Ab.add (((ji9)).toNat * 10)).off + 6, none⟩ = some (.int .i64 ((rd_T55 l0 (ji9)).f4.f2.f0)) ∧ w'.cell? ⟨(Ab.add (((ji9)).toNat * 10)).block, (Ab.add (((ji9)).toNat * 10)).off + 7, none⟩ = some (.int .i64 ((rd_T55 l0 (ji9)).f4.f2.f1)) ∧ w'.cell? ⟨(Ab.add (((ji9)).toNat * 10)).block, (Ab.add (((ji9)).toNat * 10)).off + 8, none⟩ = some (.int .i64 ((rd_T55 l0 (ji9)).f4.f2.f2)) ∧ w'.cell? ⟨(Ab.add (((ji9)).toNat * 10)).block, (Ab.add (((ji9)).toNat * 10)).off + 9, none⟩ = some (.int .u32 ((rd_T55 l0 (ji9)).f4.f2.f3))) (ds := []) #[false, false, false, false, false, false, false, false, false, false, false, false, false, false, false, false, false, false, false, false, false, false, false, false, false, false, false, false, false, false, false, false, false, false, false, false, false, false, false, false, false, false, false, false, false, false, false, false, false] (by kernel_rfl) rfl rfl ⟨(cT HB.out Ac), (cT HB.out Ad), (cT HB.out Ae), (cT HB.out Af), (cT HB.out Ag), (cT HB.out Ah), (cT HB.out Ai), (cT HB.out Aj), (cT HB.out Ak), (cT HB.out Al), (cT HB.out A1), (cT HB.out A2), (cT HB.out A3), (cT HB.out A5), (cT HB.out A7), (cT HB.out A8), (cT HB.out A9), (cT HB.out Ba), (cT HB.out Bb), (cT HB.out Bc)⟩ (fun hHeld => ?_); refine with_tabW garnerref23_Rows.tab4 garnerref23_Rows.bits4 (fun HT_ HW_ => ?_)
   generalize wr.drew = w15 at HB Az Br B5 Ap Aq Ar As At Au Av Aw Ax Ay Bi Bj Bk Bl Bm Bg Bn Bo Bp Bq Bw Bx By Bz B0 Bs B1 B2 B3 B4 hHeld ⊢
   refine pui 0 10 49 1 HT_ ?_
   refine pui 1 11 49 3 HT_ ?_
   refine pui 2 12 49 7 HT_ ?_
   refine pui 3 13 49 15 HT_ ?_
   refine tki 4 14 49 31 HT_ HW_ hHeld ?_
   refine onei 5 15 49 63 HT_ (fun K hK => ?_)
   refine goes_ Try.func31 (by kernel_rfl) rfl #[.int .i64 ((rd_T55 l0 Aa).f0)] (by rfl) rfl rfl pL ?_
   with_reducible refine (garnerref23_counts.calls ((rd_T55 l0 Aa).f0) true _ A4.out).mono ?_
   rintro e w' ⟨rfl, ⟨nd, rfl⟩⟩
   refine ⟨_, rfl, ?_⟩
   refine hK.out _ _ ⟨(cT HB.out Ac), (cT HB.out Ad), (cT HB.out Ae), (cT HB.out Af), (cT HB.out Ag), (cT HB.out Ah), (cT HB.out Ai), (cT HB.out Aj), (cT HB.out Ak), (cT HB.out Al), (cT HB.out A1), (cT HB.out A2), (cT HB.out A3), (cT HB.out A5), (cT HB.out A7), (cT HB.out A8), (cT HB.out A9), (cT HB.out Ba), (cT HB.out Bb), (cT HB.out Bc)⟩ (fun hHeld => ?_)
   clear hK K
   refine norm_ (a' := ?_) ?_ ?_
   rotate_left
   ·show Act.put _ (some 15) _ = _
    simp only [Act.put, List.setIfInBounds_toArray, List.set_cons_zero, List.set_cons_succ, i64_w, i32_w]
    rfl
   refine pui 6 16 49 127 HT_ ?_
   refine pui 7 17 49 255 HT_ ?_
   refine pui 8 18 49 511 HT_ ?_
   refine pui 9 19 49 1023 HT_ ?_
   refine pui 10 20 49 2047 HT_ ?_
   refine pui 11 21 49 4095 HT_ ?_
   refine tki 12 22 49 8191 HT_ HW_ hHeld ?_
   refine onei 13 23 49 16383 HT_ (fun K hK => ?_)
   refine goes_ Try.func31 (by kernel_rfl) rfl #[.int .i64 ((rd_T55 l0 Aa).f1)] (by rfl) rfl rfl pL ?_
   with_reducible refine (garnerref23_counts.calls ((rd_T55 l0 Aa).f1) true _ A6.out).mono ?_
   rintro e w' ⟨rfl, ⟨nd, rfl⟩⟩
   refine ⟨_, rfl, ?_⟩
   refine hK.out _ _ ⟨(cT HB.out Ac), (cT HB.out Ad), (cT HB.out Ae), (cT HB.out Af), (cT HB.out Ag), (cT HB.out Ah), (cT HB.out Ai), (cT HB.out Aj), (cT HB.out Ak), (cT HB.out Al), (cT HB.out A1), (cT HB.out A2), (cT HB.out A3), (cT HB.out A5), (cT HB.out A7), (cT HB.out A8), (cT HB.out A9), (cT HB.out Ba), (cT HB.out Bb), (cT HB.out Bc)⟩ (fun hHeld => ?_)
   clear hK K
   refine norm_ (a' := ?_) ?_ ?_
   rotate_left
   ·show Act.put _ (some 23) _ = _
    simp only [Act.put, List.setIfInBounds_toArray, List.set_cons_zero, List.set_cons_succ, i64_w, i32_w]
    rfl
   refine pui 14 24 49 32767 HT_ ?_
   refine pui 15 25 49 65535 HT_ ?_
   refine pui 16 26 49 131071 HT_ ?_
   refine pui 17 27 49 262143 HT_ ?_
   refine pui 18 28 49 524287 HT_ ?_
   refine pui 19 29 49 1048575 HT_ ?_
   refine pui 20 30 49 2097151 HT_ ?_
   refine pui 21 31 49 4194303 HT_ ?_
   refine pui 22 32 49 8388607 HT_ ?_
   refine pui 23 33 49 16777215 HT_ ?_
   refine pui 26 36 49 83886079 HT_ ?_
   refine pui 27 37 49 218103807 HT_ ?_
   refine pui 28 38 49 486539263 HT_ ?_
   refine pui 29 39 49 1023410175 HT_ ?_
   refine pui 30 40 49 2097151999 HT_ ?_
   refine tki 24 34 49 2113929215 HT_ HW_ hHeld ?_
   refine pui 25 35 49 2147483647 HT_ ?_
   refine tki 31 41 49 4294967295 HT_ HW_ hHeld ?_
   refine pui 32 42 49 8589934591 HT_ ?_
   refine pui 33 43 49 17179869183 HT_ ?_
   refine pui 34 44 49 34359738367 HT_ ?_
   refine pui 35 45 49 68719476735 HT_ ?_
   refine pui 36 46 49 137438953471 HT_ ?_
   refine pui 37 47 49 274877906943 HT_ ?_
   refine pui 39 49 49 824633720831 HT_ ?_
   refine pui 40 50 49 1924145348607 HT_ ?_
   refine pui 41 51 49 4123168604159 HT_ ?_
   refine pui 42 52 49 8521215115263 HT_ ?_
   refine pui 43 53 49 17317308137471 HT_ ?_
   refine tki 38 48 49 17592186044415 HT_ HW_ hHeld ?_
   refine tki 44 54 49 35184372088831 HT_ HW_ hHeld ?_
   refine pui 45 55 49 70368744177663 HT_ ?_
   refine pui 46 56 49 140737488355327 HT_ ?_
   refine pui 47 57 49 281474976710655 HT_ ?_
   refine pui 48 58 49 562949953421311 HT_ ?_
   refine done_ (done_of HT_.out (by kernel_rfl)) ?_
   try go_wp2
   go_roundg k1
   case measure => have := HK1.out; omega
   case rel => exact ⟨(wrap64 (Aa + 1)), (by first | rfl | (simp; done) | (simp [*]; done)), H', ⟨by have := HK1.out; omega⟩, ⟨pB HB.out⟩⟩
def garnerref22_May.f (a0_0 : Int) (a0_1 : Int) (a0_2 : Int) : Option (Bool) := if a0_0 < 0 then (some false) else (if a0_1 < 0 then (some false) else (if a0_2 < 0 then (some false) else (if a0_0 > 2147483647 then (some false) else (if a0_1 > 2147483647 then (some false) else (if a0_2 > 2147483647 then (some false) else (if a0_0 > 0 then (some true) else (some (a0_1 == 0))))))))
set_option maxHeartbeats 8000000 in
set_option maxRecDepth 100000 in
theorem garnerref22_May.calls (a0_0 : Int) (a0_1 : Int) (a0_2 : Int) (r : Bool) (w : World) (h : garnerref22_May.f a0_0 a0_1 a0_2 = some r) :
  Calls Try.prog 27 #[.agg #[.int .i64 a0_0, .int .i64 a0_1, .int .i64 a0_2]] w fun e w' => e = .returned (.bool r) ∧ Below w.heap.size w w' := by
 have hu24 := Try.underlying24
 have HB := Am (Below.refl w.heap.size w)
 have H : (if a0_0 < 0 then (some false) else (if a0_1 < 0 then (some false) else (if a0_2 < 0 then (some false) else (if a0_0 > 2147483647 then (some false) else (if a0_1 > 2147483647 then (some false) else (if a0_2 > 2147483647 then (some false) else (if a0_0 > 0 then (some true) else (some (a0_1 == 0))))))))) = some r := h
 clear h
 by_cases c2 : a0_0 < 0
 ·rw [if_pos c2] at H
  have c2b0 : decide (a0_0 < 0) = true := decide_eq_true c2
  clear c2
  obtain rfl := Option.some.inj H
  go_enter Try.func27, Try.ntmps27
  go_wp2_with (first | ((with_reducible refine gate_dst (N := 1) rfl ?_); refine box_event ?hg (N := 1) ?hd (cs := #[.int .i64 a0_0, .int .i64 a0_1, .int .i64 a0_2]) (t := 24) ?hr ?_; (case hd => rfl); (case hg => rfl); (case hr => first | (go_simp; done) | (go_simp; rfl)); intro Ab hg w3 hbox hb; have Aa := Am (hbox); have Ac := Am ((by rw [hg]; exact (below_size (pB HB.out)) : w.heap.size ≤ Ab)); replace HB := Am (below_step (pB HB.out) hb); have Ad := Ac; clear hb hbox hg; obtain ⟨_, _, _⟩ := bc3 Aa.out; obtain ⟨_, _, _⟩ := bf3 Aa.out))
  go_ret
  exact ⟨pX, pE HB.out Ad.out⟩
 rw [if_neg c2] at H
 have c2b0 : decide (a0_0 < 0) = false := decide_eq_false c2
 clear c2
 by_cases c5 : a0_1 < 0
 ·rw [if_pos c5] at H
  have c5b0 : decide (a0_1 < 0) = true := decide_eq_true c5
  clear c5
  obtain rfl := Option.some.inj H
  go_enter Try.func27, Try.ntmps27
  go_wp2_with (first | ((with_reducible refine gate_dst (N := 1) rfl ?_); refine box_event ?hg (N := 1) ?hd (cs := #[.int .i64 a0_0, .int .i64 a0_1, .int .i64 a0_2]) (t := 24) ?hr ?_; (case hd => rfl); (case hg => rfl); (case hr => first | (go_simp; done) | (go_simp; rfl)); intro Ab hg w6 hbox hb; have Aa := Am (hbox); have Ac := Am ((by rw [hg]; exact (below_size (pB HB.out)) : w.heap.size ≤ Ab)); replace HB := Am (below_step (pB HB.out) hb); have Ad := Ac; clear hb hbox hg; obtain ⟨_, _, _⟩ := bc3 Aa.out; obtain ⟨_, _, _⟩ := bf3 Aa.out))
  go_ret
  exact ⟨pX, pE HB.out Ad.out⟩
 rw [if_neg c5] at H
 have c5b0 : decide (a0_1 < 0) = false := decide_eq_false c5
 clear c5
 by_cases c8 : a0_2 < 0
 ·rw [if_pos c8] at H
  have c8b0 : decide (a0_2 < 0) = true := decide_eq_true c8
  clear c8
  obtain rfl := Option.some.inj H
  go_enter Try.func27, Try.ntmps27
  go_wp2_with (first | ((with_reducible refine gate_dst (N := 1) rfl ?_); refine box_event ?hg (N := 1) ?hd (cs := #[.int .i64 a0_0, .int .i64 a0_1, .int .i64 a0_2]) (t := 24) ?hr ?_; (case hd => rfl); (case hg => rfl); (case hr => first | (go_simp; done) | (go_simp; rfl)); intro Ab hg w9 hbox hb; have Aa := Am (hbox); have Ac := Am ((by rw [hg]; exact (below_size (pB HB.out)) : w.heap.size ≤ Ab)); replace HB := Am (below_step (pB HB.out) hb); have Ad := Ac; clear hb hbox hg; obtain ⟨_, _, _⟩ := bc3 Aa.out; obtain ⟨_, _, _⟩ := bf3 Aa.out))
  go_ret
  exact ⟨pX, pE HB.out Ad.out⟩
 rw [if_neg c8] at H
 have c8b0 : decide (a0_2 < 0) = false := decide_eq_false c8
 clear c8
 by_cases c11 : a0_0 > 2147483647
 ·rw [if_pos c11] at H
  have c11b0 : decide (2147483647 < a0_0) = true := decide_eq_true c11
  clear c11
  obtain rfl := Option.some.inj H
  go_enter Try.func27, Try.ntmps27
  go_wp2_with (first | ((with_reducible refine gate_dst (N := 1) rfl ?_); refine box_event ?hg (N := 1) ?hd (cs := #[.int .i64 a0_0, .int .i64 a0_1, .int .i64 a0_2]) (t := 24) ?hr ?_; (case hd => rfl); (case hg => rfl); (case hr => first | (go_simp; done) | (go_simp; rfl)); intro Ab hg w12 hbox hb; have Aa := Am (hbox); have Ac := Am ((by rw [hg]; exact (below_size (pB HB.out)) : w.heap.size ≤ Ab)); replace HB := Am (below_step (pB HB.out) hb); have Ad := Ac; clear hb hbox hg; obtain ⟨_, _, _⟩ := bc3 Aa.out; obtain ⟨_, _, _⟩ := bf3 Aa.out))
  go_ret
  exact ⟨pX, pE HB.out Ad.out⟩
 rw [if_neg c11] at H
 have c11b0 : decide (2147483647 < a0_0) = false := decide_eq_false c11
 clear c11
 by_cases c14 : a0_1 > 2147483647
 ·rw [if_pos c14] at H
  have c14b0 : decide (2147483647 < a0_1) = true := decide_eq_true c14
  clear c14
  obtain rfl := Option.some.inj H
  go_enter Try.func27, Try.ntmps27
  go_wp2_with (first | ((with_reducible refine gate_dst (N := 1) rfl ?_); refine box_event ?hg (N := 1) ?hd (cs := #[.int .i64 a0_0, .int .i64 a0_1, .int .i64 a0_2]) (t := 24) ?hr ?_; (case hd => rfl); (case hg => rfl); (case hr => first | (go_simp; done) | (go_simp; rfl)); intro Ab hg w15 hbox hb; have Aa := Am (hbox); have Ac := Am ((by rw [hg]; exact (below_size (pB HB.out)) : w.heap.size ≤ Ab)); replace HB := Am (below_step (pB HB.out) hb); have Ad := Ac; clear hb hbox hg; obtain ⟨_, _, _⟩ := bc3 Aa.out; obtain ⟨_, _, _⟩ := bf3 Aa.out))
  go_ret
  exact ⟨pX, pE HB.out Ad.out⟩
 rw [if_neg c14] at H
 have c14b0 : decide (2147483647 < a0_1) = false := decide_eq_false c14
 clear c14
 by_cases c17 : a0_2 > 2147483647
 ·rw [if_pos c17] at H
  have c17b0 : decide (2147483647 < a0_2) = true := decide_eq_true c17
  clear c17
  obtain rfl := Option.some.inj H
  go_enter Try.func27, Try.ntmps27
  go_wp2_with (first | ((with_reducible refine gate_dst (N := 1) rfl ?_); refine box_event ?hg (N := 1) ?hd (cs := #[.int .i64 a0_0, .int .i64 a0_1, .int .i64 a0_2]) (t := 24) ?hr ?_; (case hd => rfl); (case hg => rfl); (case hr => first | (go_simp; done) | (go_simp; rfl)); intro Ab hg w18 hbox hb; have Aa := Am (hbox); have Ac := Am ((by rw [hg]; exact (below_size (pB HB.out)) : w.heap.size ≤ Ab)); replace HB := Am (below_step (pB HB.out) hb); have Ad := Ac; clear hb hbox hg; obtain ⟨_, _, _⟩ := bc3 Aa.out; obtain ⟨_, _, _⟩ := bf3 Aa.out))
  go_ret
  exact ⟨pX, pE HB.out Ad.out⟩
 rw [if_neg c17] at H
 have c17b0 : decide (2147483647 < a0_2) = false := decide_eq_false c17
 clear c17
 by_cases c20 : a0_0 > 0
 ·rw [if_pos c20] at H
  have c20b0 : decide (0 < a0_0) = true := decide_eq_true c20
  clear c20
  obtain rfl := Option.some.inj H
  go_enter Try.func27, Try.ntmps27
  go_wp2_with (first | ((with_reducible refine gate_dst (N := 1) rfl ?_); refine box_event ?hg (N := 1) ?hd (cs := #[.int .i64 a0_0, .int .i64 a0_1, .int .i64 a0_2]) (t := 24) ?hr ?_; (case hd => rfl); (case hg => rfl); (case hr => first | (go_simp; done) | (go_simp; rfl)); intro Ab hg w21 hbox hb; have Aa := Am (hbox); have Ac := Am ((by rw [hg]; exact (below_size (pB HB.out)) : w.heap.size ≤ Ab)); replace HB := Am (below_step (pB HB.out) hb); have Ad := Ac; clear hb hbox hg; obtain ⟨_, _, _⟩ := bc3 Aa.out; obtain ⟨_, _, _⟩ := bf3 Aa.out))
  go_ret
  exact ⟨pX, pE HB.out Ad.out⟩
 rw [if_neg c20] at H
 have c20b0 : decide (0 < a0_0) = false := decide_eq_false c20
 clear c20
 obtain rfl := Option.some.inj H
 go_enter Try.func27, Try.ntmps27
 go_wp2_with (first | ((with_reducible refine gate_dst (N := 1) rfl ?_); refine box_event ?hg (N := 1) ?hd (cs := #[.int .i64 a0_0, .int .i64 a0_1, .int .i64 a0_2]) (t := 24) ?hr ?_; (case hd => rfl); (case hg => rfl); (case hr => first | (go_simp; done) | (go_simp; rfl)); intro Ab hg w23 hbox hb; have Aa := Am (hbox); have Ac := Am ((by rw [hg]; exact (below_size (pB HB.out)) : w.heap.size ≤ Ab)); replace HB := Am (below_step (pB HB.out) hb); have Ad := Ac; clear hb hbox hg; obtain ⟨_, _, _⟩ := bc3 Aa.out; obtain ⟨_, _, _⟩ := bf3 Aa.out))
 go_ret
 exact ⟨pX, pE HB.out Ad.out⟩
end Go.Proofs.Ytangfpcifdpfeaa.PRaftTurns
