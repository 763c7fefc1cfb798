/- What the law reaches, as plain Lean functions, and that the machine's calls answer just that. -/
import Derived.Test.YtpplclcgkcjmpaaPEntryReadsx0
import Derived.Test.YtpplclcgkcjmpaaPEntryReadsx2
import Derived.Test.YtpplclcgkcjmpaaPEntryReadsx10
namespace Go.Proofs.Ytpplclcgkcjmpaa.PEntryReads
open Go.RowKit Go.Proofs.YtpplclcgkcjmpaaW.PrintWords Go.Proofs.YtpplclcgkcjmpaaW.PrintLast Go.Proofs.YtpplclcgkcjmpaaW.PrintMore
attribute [local go_sem] max2_int min2_int max_two min_two max_three min_three max_four min_four
set_option linter.unusedVariables false
set_option linter.unusedSimpArgs false
attribute [local go_sem] wrap64_l1 wrap64_l2 wrap64_l3 wrap64_l4 wrap64_l5
def garnerref06_Batch.l0 : Nat → List (S42) → Int → Option (Bool)
 | 0, _, _ => none
 | k + 1, x0, x3 => if x3 < (x0.length : Int) then (if 0 ≤ x3 then ((garnerref06_May.f k ((rd_T42 x0 x3).f0) ((rd_T42 x0 x3).f1) ((rd_T42 x0 x3).f2) ((rd_T42 x0 x3).f3) ((rd_T42 x0 x3).f4.f0) ((rd_T42 x0 x3).f4.f1) ((rd_T42 x0 x3).f4.f2.f0) ((rd_T42 x0 x3).f4.f2.f1) ((rd_T42 x0 x3).f4.f2.f2) ((rd_T42 x0 x3).f4.f2.f3)).bind fun t295 => (if t295 = true then (if x3 > 0 then (if 0 ≤ (wrap64 (x3 - 1)) then (if (wrap64 (x3 - 1)) < (x0.length : Int) then (if (wrap64 (((rd_T42 x0 x3).f0) - 1)) = ((rd_T42 x0 (wrap64 (x3 - 1))).f0) then (if ((rd_T42 x0 x3).f1) < ((rd_T42 x0 (wrap64 (x3 - 1))).f1) then (some false) else (garnerref06_Batch.l0 k x0 (wrap64 (x3 + 1)))) else (some false)) else (none)) else (none)) else (garnerref06_Batch.l0 k x0 (wrap64 (x3 + 1)))) else (some false))) else (none)) else (if (x0.length : Int) ≥ 1 then (some (decide ((x0.length : Int) ≤ 16))) else (some false))
def garnerref06_Batch.f (k : Nat) (l0 : List (S42)) : Option (Bool) := garnerref06_Batch.l0 k l0 0
theorem garnerref06_Batch.mono_l : ∀ k, (∀ y0 y1, LeO (garnerref06_Batch.l0 k y0 y1) (garnerref06_Batch.l0 (k + 1) y0 y1))
 | 0 => fun _ _ r h => by simp [garnerref06_Batch.l0] at h
 | k + 1 => by
  have ih0 := garnerref06_Batch.mono_l k
  ·intro y0 y1
   unfold garnerref06_Batch.l0
   repeat' first
   | (with_reducible exact ih0 _ _)
   | (with_reducible exact garnerref06_May.mono _ _ _ _ _ _ _ _ _ _ _)
   | (with_reducible exact LeO.refl _)
   | (with_reducible exact LeO.none _)
   | (with_reducible refine LeO.ite ?_ ?_)
   | (with_reducible refine LeO.bind ?_ (fun _ => ?_))
   | exact ih0 _ _
   | exact garnerref06_May.mono _ _ _ _ _ _ _ _ _ _ _
   | exact LeO.none _
   | refine LeO.ite ?_ ?_
   | refine LeO.bind ?_ (fun _ => ?_)
theorem garnerref06_Batch.mono : ∀ a0 k, LeO (garnerref06_Batch.f k a0) (garnerref06_Batch.f (k + 1) a0) := by
 intro a0 k
 have ih0 := garnerref06_Batch.mono_l k
 unfold garnerref06_Batch.f
 repeat' first
   | (with_reducible exact ih0 _ _)
   | (with_reducible exact garnerref06_May.mono _ _ _ _ _ _ _ _ _ _ _)
   | (with_reducible exact LeO.refl _)
   | (with_reducible exact LeO.none _)
   | (with_reducible refine LeO.ite ?_ ?_)
   | (with_reducible refine LeO.bind ?_ (fun _ => ?_))
   | exact ih0 _ _
   | exact garnerref06_May.mono _ _ _ _ _ _ _ _ _ _ _
   | exact LeO.none _
   | refine LeO.ite ?_ ?_
   | refine LeO.bind ?_ (fun _ => ?_)
def garnerref06_Batch.T4 : Bool × List (List Nat × List Nat) := (true, [([], []), ([], []), ([0, 1], [0, 1]), ([2], [2]), ([3], [3]), ([4], [4]), ([5, 4], [5]), ([6], [6]), ([7, 6], [6, 7]), ([8, 6, 6], [6, 8]), ([9], [9]), ([9], [9]), ([10, 11, 9], [9, 10, 11]), ([12, 9], [9, 12]), ([13, 9], [9, 13]), ([14, 9], [9, 14]), ([9], [9]), ([9], [9]), ([17, 9], [9, 17]), ([16, 18, 9], [9, 16, 18]), ([19, 9], [9, 19]), ([20, 9], [9, 20]), ([15, 21, 9], [9, 15, 21]), ([22, 9, 9], [9, 22]), ([23], [23]), ([23], [23]), ([24, 25, 23], [23, 24, 25]), ([26, 23], [23, 26]), ([27, 23], [23, 27]), ([23], [23]), ([23], [23]), ([30, 23], [23, 30]), ([29, 31, 23], [23, 29, 31]), ([32, 23], [23, 32]), ([33, 23], [23, 33]), ([28, 34, 23], [23, 28, 34]), ([23, 35, 9], [9, 23, 35]), ([9, 36, 6], [6, 9, 36]), ([6, 37], [6, 37])])
def garnerref06_Batch.B4 : List Nat := [0, 0, 3, 7, 15, 31, 63, 127, 255, 511, 1023, 1023, 4095, 8191, 16383, 32767, 1023, 1023, 132095, 459775, 984063, 2032639, 4194303, 8388607, 16777215, 16777215, 67108863, 134217727, 268435455, 16777215, 16777215, 1090519039, 3774873599, 8069840895, 16659775487, 34359738367, 68719476735, 137438953471, 274877906943]
theorem garnerref06_Batch.tab4 : rtab .any (opsOf Try.f10 4) = garnerref06_Batch.T4 := by kernel_rfl
theorem garnerref06_Batch.bits4 : waitsOk garnerref06_Batch.T4.2 garnerref06_Batch.B4 = true := by kernel_rfl
set_option maxHeartbeats 8000000 in
set_option maxRecDepth 100000 in
theorem garnerref06_Batch.calls (k : Nat) (A0 : Option Addr) (c0 : Nat) (l0 : List (S42)) (r : Bool) (w : World) (hr0 : Kd.C k42 w A0 l0.length l0) (hc0 : l0.length ≤ c0) (h : garnerref06_Batch.f k l0 = some r) :
  Calls Try.prog 10 #[.slice A0 l0.length c0] w fun e w' => e = .returned (.bool r) ∧ Below w.heap.size w w' := by
 have hu42 := Try.underlying42
 have HR0 := Am hr0
 have HC0 := Am hc0
 clear hr0 hc0
 have HB := Am (Below.refl w.heap.size w)
 have H : (garnerref06_Batch.l0 k l0 0) = some r := h
 clear h
 have H' := Am H
 clear H
 go_enter Try.func10, Try.ntmps10
 go_wp2
 go_loopg [3] k (fun kq v3 w' => ∃ (Aa : Int), v3 = .int .i64 Aa ∧ Aside0 (garnerref06_Batch.l0 kq l0 Aa = some r) ∧ Aside0 (kq ≤ k) ∧ Aside0 (Below w.heap.size w w'))
 case atStart => exact ⟨(0), (by first | rfl | (simp; done) | (simp [*]; done)), H', ⟨Nat.le_refl _⟩, ⟨pB HB.out⟩⟩
 case round =>
  clear H'
  try clear c1
  obtain ⟨Aa, rfl, HA, HK1, HB⟩ := hrel
  cases gk with
  | zero => exact absurd HA.out (by simp [garnerref06_Batch.l0])
  | succ k1 =>
   have H := HA.out
   clear HA
   simp only [garnerref06_Batch.l0] at H
   by_cases c2 : Aa < (l0.length : Int)
   rotate_left
   ·rw [if_neg c2] at H
    have c2b0 : decide (Aa < (l0.length : Int)) = false := decide_eq_false c2
    clear c2
    by_cases c22 : (l0.length : Int) ≥ 1
    ·rw [if_pos c22] at H
     have c22b0 : decide (1 ≤ (l0.length : Int)) = true := decide_eq_true c22
     have c22b1 : decide (1 ≤ l0.length) = true := decide_eq_true (by omega)
     clear c22
     obtain rfl := Option.some.inj H
     go_wp2
     go_ret
     exact ⟨pX, pB HB.out⟩
    rw [if_neg c22] at H
    have c22b0 : decide (1 ≤ (l0.length : Int)) = false := decide_eq_false c22
    have c22b1 : decide (1 ≤ l0.length) = false := decide_eq_false (by omega)
    clear c22
    obtain rfl := Option.some.inj H
    go_wp2
    go_ret
    exact ⟨pX, pB HB.out⟩
   rw [if_pos c2] at H
   have c2b0 : decide (Aa < (l0.length : Int)) = true := decide_eq_true c2
   clear c2
   by_cases c3 : 0 ≤ Aa
   rotate_left
   ·rw [if_neg c3] at H
    exact absurd H (by simp)
   rw [if_pos c3] at H
   have c3b0 : decide (0 ≤ Aa) = true := decide_eq_true c3
   clear c3
   replace H := Option.bind_eq_some_iff.mp H
   obtain ⟨t295, A40, H⟩ := H
   replace H : (if t295 = true then (if Aa > 0 then (if 0 ≤ (wrap64 (Aa - 1)) then (if (wrap64 (Aa - 1)) < (l0.length : Int) then (if (wrap64 (((rd_T42 l0 Aa).f0) - 1)) = ((rd_T42 l0 (wrap64 (Aa - 1))).f0) then (if ((rd_T42 l0 Aa).f1) < ((rd_T42 l0 (wrap64 (Aa - 1))).f1) then (some false) else (garnerref06_Batch.l0 k1 l0 (wrap64 (Aa + 1)))) else (some false)) else (none)) else (none)) else (garnerref06_Batch.l0 k1 l0 (wrap64 (Aa + 1)))) else (some false)) = some r := H
   have A4 := Am A40
   clear A40
   by_cases c5 : t295 = true
   rotate_left
   ·replace c5 := Bool.eq_false_iff.mpr c5
    subst c5
    have H1 : (some false) = some r := by rw [if_neg (show ¬ (false = true) by decide)] at H; exact H
    clear H
    have H := H1
    clear H1
    obtain rfl := Option.some.inj H
    try go_wp2
    replace HB := bDa HB
    have p294 : 0 ≤ (Aa : Int) := of_decide_eq_true pS
    have q294 : Aa < (l0.length : Int) := of_decide_eq_true pS
    obtain ⟨Ab, Aq, c294_5, e294, Ar, As, At, Au, Av, Aw, Ax, Ay, Az, A1, Ac, Ad, Ae, Af, Ag, Ah, Ai, Aj, Ak, Al, An, Ao⟩ := at_T42w HR0.out Aa p294 q294 HB.out
    cases e294
    have Ap := Am Ad
    have A2 := Am Ac
    clear Ad Ac
    replace p294 := eq_true p294
    replace q294 := eq_true q294
    refine start_ (n := 39) (S := fun w' => w'.cell? (Ab.add ((Aa).toNat * 10)) = some (.int .i64 ((rd_T42 l0 Aa).f0)) ∧ cA w' (Ab.add ((Aa).toNat * 10)) 1 (.int .i64 ((rd_T42 l0 Aa).f1)) ∧ cA w' (Ab.add ((Aa).toNat * 10)) 2 (.int .i64 ((rd_T42 l0 Aa).f2)) ∧ cA w' (Ab.add ((Aa).toNat * 10)) 3 (.string ((rd_T42 l0 Aa).f3)) ∧ cA w' (Ab.add ((Aa).toNat * 10)) 4 (.bool ((rd_T42 l0 Aa).f4.f0)) ∧ cA w' (Ab.add ((Aa).toNat * 10)) 5 (.slice Aq ((rd_T42 l0 Aa).f4.f1).length c294_5) ∧ cA w' (Ab.add ((Aa).toNat * 10)) 6 (.int .i64 ((rd_T42 l0 Aa).f4.f2.f0)) ∧ cA w' (Ab.add ((Aa).toNat * 10)) 7 (.int .i64 ((rd_T42 l0 Aa).f4.f2.f1)) ∧ cA w' (Ab.add ((Aa).toNat * 10)) 8 (.int .i64 ((rd_T42 l0 Aa).f4.f2.f2)) ∧ cA w' (Ab.add ((Aa).toNat * 10)) 9 (.int .u32 ((rd_T42 l0 Aa).f4.f2.f3))) (ds := []) #[false, false, false, false, false, false, false, false, false, false, false, false, false, false, false, false, false, false, false, false, false, false, false, false, false, false, false, false, false, false, false, false, false, false, false, false, false, false, false] (by kernel_rfl) rfl rfl ⟨(cT HB.out Ae), (cT HB.out Af), (cT HB.out Ag), (cT HB.out Ah), (cT HB.out Ai), (cT HB.out Aj), (cT HB.out Ak), (cT HB.out Al), (cT HB.out An), (cT HB.out Ao)⟩ (fun hHeld => ?_); refine with_tabW garnerref06_Batch.tab4 garnerref06_Batch.bits4 (fun HT_ HW_ => ?_)
    generalize wr.drew = w20 at HB Ap Ar As At Au Av Aw Ax Ay Az A1 hHeld ⊢
    refine pui 0 10 39 1 HT_ ?_
    refine pui 1 11 39 3 HT_ ?_
    refine pui 2 12 39 7 HT_ ?_
    refine tki 3 13 39 15 HT_ HW_ hHeld ?_
    refine onei 4 14 39 31 HT_ (fun K hK => ?_)
    refine goes_ Try.func20 (by kernel_rfl) rfl #[.agg #[.int .i64 ((rd_T42 l0 Aa).f0), .int .i64 ((rd_T42 l0 Aa).f1), .int .i64 ((rd_T42 l0 Aa).f2), .string ((rd_T42 l0 Aa).f3), .bool ((rd_T42 l0 Aa).f4.f0), .slice Aq ((rd_T42 l0 Aa).f4.f1).length c294_5, .int .i64 ((rd_T42 l0 Aa).f4.f2.f0), .int .i64 ((rd_T42 l0 Aa).f4.f2.f1), .int .i64 ((rd_T42 l0 Aa).f4.f2.f2), .int .u32 ((rd_T42 l0 Aa).f4.f2.f3)]] (by rfl) rfl rfl pL ?_
    with_reducible refine (garnerref06_May.calls k1 ((rd_T42 l0 Aa).f0) ((rd_T42 l0 Aa).f1) ((rd_T42 l0 Aa).f2) ((rd_T42 l0 Aa).f3) ((rd_T42 l0 Aa).f4.f0) _ _ ((rd_T42 l0 Aa).f4.f1) ((rd_T42 l0 Aa).f4.f2.f0) ((rd_T42 l0 Aa).f4.f2.f1) ((rd_T42 l0 Aa).f4.f2.f2) ((rd_T42 l0 Aa).f4.f2.f3) false _ ?Bh ?Bi A4.out).mono ?_
    (case Bh => exact pC (Kd.C_below Ap.out HB.out))
    (case Bi => exact A2.out)
    rintro e w21 ⟨rfl, hb⟩
    refine ⟨_, rfl, ?_⟩
    replace HB := Am (below_step (pB HB.out) hb)
    (try clear hb)
    (try clear hb2)
    (try clear hk)
    (try clear hi)
    refine hK.out _ _ ⟨(cT HB.out Ae), (cT HB.out Af), (cT HB.out Ag), (cT HB.out Ah), (cT HB.out Ai), (cT HB.out Aj), (cT HB.out Ak), (cT HB.out Al), (cT HB.out An), (cT HB.out Ao)⟩ (fun hHeld => ?_)
    clear hK K
    refine norm_ (a' := ?_) ?_ ?_
    rotate_left
    ·show Act.put _ (some 14) _ = _
     simp only [Act.put, List.setIfInBounds_toArray, List.set_cons_zero, List.set_cons_succ, i64_w, i32_w]
     rfl
    refine pui 5 15 39 63 HT_ ?_
    refine pui 6 16 39 127 HT_ ?_
    refine pdi 7 17 39 255 HT_ ?_
    refine pdi 8 18 39 511 HT_ ?_
    refine pdi 9 19 39 1023 HT_ ?_
    refine pdi 10 20 39 2047 HT_ ?_
    refine pdi 11 21 39 4095 HT_ ?_
    refine pdi 12 22 39 8191 HT_ ?_
    refine pdi 13 23 39 16383 HT_ ?_
    refine pdi 14 24 39 32767 HT_ ?_
    refine pdi 15 25 39 65535 HT_ ?_
    refine pdi 16 26 39 131071 HT_ ?_
    refine pdi 17 27 39 262143 HT_ ?_
    refine pdi 18 28 39 524287 HT_ ?_
    refine pdi 19 29 39 1048575 HT_ ?_
    refine pdi 20 30 39 2097151 HT_ ?_
    refine pdi 21 31 39 4194303 HT_ ?_
    refine pdi 22 32 39 8388607 HT_ ?_
    refine pdi 23 33 39 16777215 HT_ ?_
    refine pdi 24 34 39 33554431 HT_ ?_
    refine pdi 25 35 39 67108863 HT_ ?_
    refine pdi 26 36 39 134217727 HT_ ?_
    refine pdi 27 37 39 268435455 HT_ ?_
    refine pdi 28 38 39 536870911 HT_ ?_
    refine pdi 29 39 39 1073741823 HT_ ?_
    refine pdi 30 40 39 2147483647 HT_ ?_
    refine pdi 31 41 39 4294967295 HT_ ?_
    refine pdi 32 42 39 8589934591 HT_ ?_
    refine pdi 33 43 39 17179869183 HT_ ?_
    refine pdi 34 44 39 34359738367 HT_ ?_
    refine pdi 35 45 39 68719476735 HT_ ?_
    refine pdi 36 46 39 137438953471 HT_ ?_
    refine pdi 37 47 39 274877906943 HT_ ?_
    refine pui 38 48 39 549755813887 HT_ ?_
    refine done_ (done_of HT_.out (by kernel_rfl)) ?_
    try go_wp2
    go_ret
    exact ⟨pX, pB HB.out⟩
   subst c5
   have H1 : (if Aa > 0 then (if 0 ≤ (wrap64 (Aa - 1)) then (if (wrap64 (Aa - 1)) < (l0.length : Int) then (if (wrap64 (((rd_T42 l0 Aa).f0) - 1)) = ((rd_T42 l0 (wrap64 (Aa - 1))).f0) then (if ((rd_T42 l0 Aa).f1) < ((rd_T42 l0 (wrap64 (Aa - 1))).f1) then (some false) else (garnerref06_Batch.l0 k1 l0 (wrap64 (Aa + 1)))) else (some false)) else (none)) else (none)) else (garnerref06_Batch.l0 k1 l0 (wrap64 (Aa + 1)))) = some r := by rw [if_pos rfl] at H; exact H
   clear H
   have H := H1
   clear H1
   by_cases c6 : Aa > 0
   rotate_left
   ·rw [if_neg c6] at H
    have c6b0 : decide (0 < Aa) = false := decide_eq_false c6
    clear c6
    have H' := Am H
    clear H
    try go_wp2
    replace HB := bDa HB
    have p294 : 0 ≤ (Aa : Int) := of_decide_eq_true pS
    have q294 : Aa < (l0.length : Int) := of_decide_eq_true pS
    obtain ⟨Ab, Aq, c294_5, e294, Ar, As, At, Au, Av, Aw, Ax, Ay, Az, A1, Ac, Ad, Ae, Af, Ag, Ah, Ai, Aj, Ak, Al, An, Ao⟩ := at_T42w HR0.out Aa p294 q294 HB.out
    cases e294
    have Ap := Am Ad
    have A2 := Am Ac
    clear Ad Ac
    replace p294 := eq_true p294
    replace q294 := eq_true q294
    refine start_ (n := 39) (S := fun w' => w'.cell? (Ab.add ((Aa).toNat * 10)) = some (.int .i64 ((rd_T42 l0 Aa).f0)) ∧ cA w' (Ab.add ((Aa).toNat * 10)) 1 (.int .i64 ((rd_T42 l0 Aa).f1)) ∧ cA w' (Ab.add ((Aa).toNat * 10)) 2 (.int .i64 ((rd_T42 l0 Aa).f2)) ∧ cA w' (Ab.add ((Aa).toNat * 10)) 3 (.string ((rd_T42 l0 Aa).f3)) ∧ cA w' (Ab.add ((Aa).toNat * 10)) 4 (.bool ((rd_T42 l0 Aa).f4.f0)) ∧ cA w' (Ab.add ((Aa).toNat * 10)) 5 (.slice Aq ((rd_T42 l0 Aa).f4.f1).length c294_5) ∧ cA w' (Ab.add ((Aa).toNat * 10)) 6 (.int .i64 ((rd_T42 l0 Aa).f4.f2.f0)) ∧ cA w' (Ab.add ((Aa).toNat * 10)) 7 (.int .i64 ((rd_T42 l0 Aa).f4.f2.f1)) ∧ cA w' (Ab.add ((Aa).toNat * 10)) 8 (.int .i64 ((rd_T42 l0 Aa).f4.f2.f2)) ∧ cA w' (Ab.add ((Aa).toNat * 10)) 9 (.int .u32 ((rd_T42 l0 Aa).f4.f2.f3))) (ds := []) #[false, false, false, false, false, false, false, false, false, false, false, false, false, false, false, false, false, false, false, false, false, false, false, false, false, false, false, false, false, false, false, false, false, false, false, false, false, false, false] (by kernel_rfl) rfl rfl ⟨(cT HB.out Ae), (cT HB.out Af), (cT HB.out Ag), (cT HB.out Ah), (cT HB.out Ai), (cT HB.out Aj), (cT HB.out Ak), (cT HB.out Al), (cT HB.out An), (cT HB.out Ao)⟩ (fun hHeld => ?_); refine with_tabW garnerref06_Batch.tab4 garnerref06_Batch.bits4 (fun HT_ HW_ => ?_)
    generalize wr.drew = w18 at HB Ap Ar As At Au Av Aw Ax Ay Az A1 hHeld ⊢
    refine pui 0 10 39 1 HT_ ?_
    refine pui 1 11 39 3 HT_ ?_
    refine pui 2 12 39 7 HT_ ?_
    refine tki 3 13 39 15 HT_ HW_ hHeld ?_
    refine onei 4 14 39 31 HT_ (fun K hK => ?_)
    refine goes_ Try.func20 (by kernel_rfl) rfl #[.agg #[.int .i64 ((rd_T42 l0 Aa).f0), .int .i64 ((rd_T42 l0 Aa).f1), .int .i64 ((rd_T42 l0 Aa).f2), .string ((rd_T42 l0 Aa).f3), .bool ((rd_T42 l0 Aa).f4.f0), .slice Aq ((rd_T42 l0 Aa).f4.f1).length c294_5, .int .i64 ((rd_T42 l0 Aa).f4.f2.f0), .int .i64 ((rd_T42 l0 Aa).f4.f2.f1), .int .i64 ((rd_T42 l0 Aa).f4.f2.f2), .int .u32 ((rd_T42 l0 Aa).f4.f2.f3)]] (by rfl) rfl rfl pL ?_
    with_reducible refine (garnerref06_May.calls k1 ((rd_T42 l0 Aa).f0) ((rd_T42 l0 Aa).f1) ((rd_T42 l0 Aa).f2) ((rd_T42 l0 Aa).f3) ((rd_T42 l0 Aa).f4.f0) _ _ ((rd_T42 l0 Aa).f4.f1) ((rd_T42 l0 Aa).f4.f2.f0) ((rd_T42 l0 Aa).f4.f2.f1) ((rd_T42 l0 Aa).f4.f2.f2) ((rd_T42 l0 Aa).f4.f2.f3) true _ ?Bh ?Bi A4.out).mono ?_
    (case Bh => exact pC (Kd.C_below Ap.out HB.out))
    (case Bi => exact A2.out)
    rintro e w19 ⟨rfl, hb⟩
    refine ⟨_, rfl, ?_⟩
    replace HB := Am (below_step (pB HB.out) hb)
    (try clear hb)
    (try clear hb2)
    (try clear hk)
    (try clear hi)
    refine hK.out _ _ ⟨(cT HB.out Ae), (cT HB.out Af), (cT HB.out Ag), (cT HB.out Ah), (cT HB.out Ai), (cT HB.out Aj), (cT HB.out Ak), (cT HB.out Al), (cT HB.out An), (cT HB.out Ao)⟩ (fun hHeld => ?_)
    clear hK K
    refine norm_ (a' := ?_) ?_ ?_
    rotate_left
    ·show Act.put _ (some 14) _ = _
     simp only [Act.put, List.setIfInBounds_toArray, List.set_cons_zero, List.set_cons_succ, i64_w, i32_w]
     rfl
    refine pui 5 15 39 63 HT_ ?_
    refine pui 6 16 39 127 HT_ ?_
    refine pui 7 17 39 255 HT_ ?_
    refine pui 8 18 39 511 HT_ ?_
    refine pui 9 19 39 1023 HT_ ?_
    refine pdi 10 20 39 2047 HT_ ?_
    refine pdi 11 21 39 4095 HT_ ?_
    refine pdi 12 22 39 8191 HT_ ?_
    refine pdi 13 23 39 16383 HT_ ?_
    refine pdi 14 24 39 32767 HT_ ?_
    refine pdi 15 25 39 65535 HT_ ?_
    refine pdi 16 26 39 131071 HT_ ?_
    refine pdi 17 27 39 262143 HT_ ?_
    refine pdi 18 28 39 524287 HT_ ?_
    refine pdi 19 29 39 1048575 HT_ ?_
    refine pdi 20 30 39 2097151 HT_ ?_
    refine pdi 21 31 39 4194303 HT_ ?_
    refine pdi 22 32 39 8388607 HT_ ?_
    refine pdi 23 33 39 16777215 HT_ ?_
    refine pdi 24 34 39 33554431 HT_ ?_
    refine pdi 25 35 39 67108863 HT_ ?_
    refine pdi 26 36 39 134217727 HT_ ?_
    refine pdi 27 37 39 268435455 HT_ ?_
    refine pdi 28 38 39 536870911 HT_ ?_
    refine pdi 29 39 39 1073741823 HT_ ?_
    refine pdi 30 40 39 2147483647 HT_ ?_
    refine pdi 31 41 39 4294967295 HT_ ?_
    refine pdi 32 42 39 8589934591 HT_ ?_
    refine pdi 33 43 39 17179869183 HT_ ?_
    refine pdi 34 44 39 34359738367 HT_ ?_
    refine pdi 35 45 39 68719476735 HT_ ?_
    refine pdi 36 46 39 137438953471 HT_ ?_
    refine pui 37 47 39 274877906943 HT_ ?_
    refine pui 38 48 39 549755813887 HT_ ?_
    refine done_ (done_of HT_.out (by kernel_rfl)) ?_
    try go_wp2
    go_roundg k1
    case measure => have := HK1.out; omega
    case rel => exact ⟨(wrap64 (Aa + 1)), (by first | rfl | (simp; done) | (simp [*]; done)), H', ⟨by have := HK1.out; omega⟩, ⟨pB HB.out⟩⟩
   rw [if_pos c6] at H
   have c6b0 : decide (0 < Aa) = true := decide_eq_true c6
   clear c6
   obtain ⟨ji7, hji7⟩ : ∃ j_ : Int, (wrap64 (Aa - 1)) = j_ := ⟨_, rfl⟩
   replace H : (if 0 ≤ (ji7) then (if (ji7) < (l0.length : Int) then (if (wrap64 (((rd_T42 l0 Aa).f0) - 1)) = ((rd_T42 l0 (ji7)).f0) then (if ((rd_T42 l0 Aa).f1) < ((rd_T42 l0 (ji7)).f1) then (some false) else (garnerref06_Batch.l0 k1 l0 (wrap64 (Aa + 1)))) else (some false)) else (none)) else (none)) = some r := by first | (rw [hji7] at H; exact H) | (simp only [hji7] at H ⊢; exact H)
   (try rw [hji7] at A4)
   have hji7w : (IntKind.i64.wrap (Aa - 1)) = ji7 := (i64_w _).trans hji7
   by_cases c8 : 0 ≤ (ji7)
   rotate_left
   ·rw [if_neg c8] at H
    exact absurd H (by simp)
   rw [if_pos c8] at H
   have c8b0 : decide (0 ≤ (ji7)) = true := decide_eq_true c8
   clear c8
   by_cases c9 : (ji7) < (l0.length : Int)
   rotate_left
   ·rw [if_neg c9] at H
    exact absurd H (by simp)
   rw [if_pos c9] at H
   have c9b0 : decide ((ji7) < (l0.length : Int)) = true := decide_eq_true c9
   clear c9
   by_cases c10 : (wrap64 (((rd_T42 l0 Aa).f0) - 1)) = ((rd_T42 l0 (ji7)).f0)
   rotate_left
   ·rw [if_neg c10] at H
    have c10b0 : ((wrap64 (((rd_T42 l0 Aa).f0) - 1)) == ((rd_T42 l0 (ji7)).f0)) = false := beq_eq_false_iff_ne.mpr c10
    have c10b1 : ((wrap64 (((rd_T42 l0 Aa).f0) - 1)) != ((rd_T42 l0 (ji7)).f0)) = true := bne_iff_ne.mpr c10
    obtain rfl := Option.some.inj H
    try go_wp2
    replace HB := bDa HB
    have p294 : 0 ≤ (Aa : Int) := of_decide_eq_true pS
    have q294 : Aa < (l0.length : Int) := of_decide_eq_true pS
    obtain ⟨Ab, Aq, c294_5, e294, Ar, As, At, Au, Av, Aw, Ax, Ay, Az, A1, Ac, Ad, Ae, Af, Ag, Ah, Ai, Aj, Ak, Al, An, Ao⟩ := at_T42w HR0.out Aa p294 q294 HB.out
    cases e294
    have Ap := Am Ad
    have A2 := Am Ac
    clear Ad Ac
    replace p294 := eq_true p294
    replace q294 := eq_true q294
    have p297 : 0 ≤ ((ji7) : Int) := of_decide_eq_true pS
    have q297 : (ji7) < (l0.length : Int) := of_decide_eq_true pS
    obtain ⟨B7, Bw, c297_5, e297, Bj, Bk, Bl, Bm, Bn, Bg, Bo, Bp, Bq, Br, A3, A5, A6, A7, A8, A9, Ba, Bb, Bc, Bd, Be, Bf⟩ := at_T42w HR0.out (ji7) p297 q297 HB.out
    obtain rfl : Ab = B7 := (by injection e297)
    have Bs := Am A5
    have B8 := Am A3
    clear A5 A3
    replace p297 := eq_true p297
    replace q297 := eq_true q297
    refine start_ (n := 39) (S := fun w' => w'.cell? (Ab.add ((Aa).toNat * 10)) = some (.int .i64 ((rd_T42 l0 Aa).f0)) ∧ cA w' (Ab.add ((Aa).toNat * 10)) 1 (.int .i64 ((rd_T42 l0 Aa).f1)) ∧ cA w' (Ab.add ((Aa).toNat * 10)) 2 (.int .i64 ((rd_T42 l0 Aa).f2)) ∧ cA w' (Ab.add ((Aa).toNat * 10)) 3 (.string ((rd_T42 l0 Aa).f3)) ∧ cA w' (Ab.add ((Aa).toNat * 10)) 4 (.bool ((rd_T42 l0 Aa).f4.f0)) ∧ cA w' (Ab.add ((Aa).toNat * 10)) 5 (.slice Aq ((rd_T42 l0 Aa).f4.f1).length c294_5) ∧ cA w' (Ab.add ((Aa).toNat * 10)) 6 (.int .i64 ((rd_T42 l0 Aa).f4.f2.f0)) ∧ cA w' (Ab.add ((Aa).toNat * 10)) 7 (.int .i64 ((rd_T42 l0 Aa).f4.f2.f1)) ∧ cA w' (Ab.add ((Aa).toNat * 10)) 8 (.int .i64 ((rd_T42 l0 Aa).f4.f2.f2)) ∧ cA w' (Ab.add ((Aa).toNat * 10)) 9 (.int .u32 ((rd_T42 l0 Aa).f4.f2.f3)) ∧ w'.cell? (Ab.add (((ji7)).toNat * 10)) = some (.int .i64 ((rd_T42 l0 (ji7)).f0)) ∧ w'.cell? ⟨(Ab.add (((ji7)).toNat * 10)).block, (Ab.add (((ji7)).toNat * 10)).off + 1, none⟩ = some (.int .i64 ((rd_T42 l0 (ji7)).f1)) ∧ w'.cell? ⟨(Ab.add (((ji7)).toNat * 10)).block, (Ab.add (((ji7)).toNat * 10)).off + 2, none⟩ = some (.int .i64 ((rd_T42 l0 (ji7)).f2)) ∧ w'.cell? ⟨(Ab.add (((ji7)).toNat * 10)).block, (Ab.add (((ji7)).toNat * 10)).off + 3, none⟩ = some (.string ((rd_T42 l0 (ji7)).f3)) ∧ w'.cell? ⟨(Ab.add (((ji7)).toNat * 10)).block, (Ab.add (((ji7)).toNat * 10)).off + 4, none⟩ = some (.bool ((rd_T42 l0 (ji7)).f4.f0)) ∧ w'.cell? ⟨(Ab.add (((ji7)).toNat * 10)).block, (Ab.add (((ji7)).toNat * 10)).off + 5, none⟩ = some (.slice Bw ((rd_T42 l0 (ji7)).f4.f1).length c297_5) ∧ w'.cell? ⟨(Ab.add (((ji7)).toNat * 10)).block, (Ab.add (((ji7)).toNat * 10)).off + 6, none⟩ = some (.int .i64 ((rd_T42 l0 (ji7)).f4.f2.f0)) ∧ w'.cell? ⟨(Ab.add (((ji7)).toNat * 10)).block, (Ab.add (((ji7)).toNat * 10)).off + 7, none⟩ = some (.int .i64 ((rd_T42 l0 (ji7)).f4.f2.f1)) ∧ w'.cell? ⟨(Ab.add (((ji7)).toNat * 10)).block, (Ab.add (((ji7)).toNat * 10)).off + 8, none⟩ = some (.int .i64 ((rd_T42 l0 (ji7)).f4.f2.f2)) ∧ w'.cell? ⟨(Ab.add (((ji7)).toNat * 10)).block, (Ab.add (((ji7)).toNat * 10)).off + 9, none⟩ = some (.int .u32 ((rd_T42 l0 (ji7)).f4.f2.f3))) (ds := []) #[false, false, false, false, false, false, false, false, false, false, false, false, false, false, false, false, false, false, false, false, false, false, false, false, false, false, false, false, false, false, false, false, false, false, false, false, false, false, false] (by kernel_rfl) rfl rfl ⟨(cT HB.out Ae), (cT HB.out Af), (cT HB.out Ag), (cT HB.out Ah), (cT HB.out Ai), (cT HB.out Aj), (cT HB.out Ak), (cT HB.out Al), (cT HB.out An), (cT HB.out Ao), (cT HB.out A6), (cT HB.out A7), (cT HB.out A8), (cT HB.out A9), (cT HB.out Ba), (cT HB.out Bb), (cT HB.out Bc), (cT HB.out Bd), (cT HB.out Be), (cT HB.out Bf)⟩ (fun hHeld => ?_); refine with_tabW garnerref06_Batch.tab4 garnerref06_Batch.bits4 (fun HT_ HW_ => ?_)
    generalize wr.drew = w16 at HB Ap Bs Ar As At Au Av Aw Ax Ay Az A1 Bj Bk Bl Bm Bn Bg Bo Bp Bq Br hHeld ⊢
    refine pui 0 10 39 1 HT_ ?_
    refine pui 1 11 39 3 HT_ ?_
    refine pui 2 12 39 7 HT_ ?_
    refine tki 3 13 39 15 HT_ HW_ hHeld ?_
    refine onei 4 14 39 31 HT_ (fun K hK => ?_)
    refine goes_ Try.func20 (by kernel_rfl) rfl #[.agg #[.int .i64 ((rd_T42 l0 Aa).f0), .int .i64 ((rd_T42 l0 Aa).f1), .int .i64 ((rd_T42 l0 Aa).f2), .string ((rd_T42 l0 Aa).f3), .bool ((rd_T42 l0 Aa).f4.f0), .slice Aq ((rd_T42 l0 Aa).f4.f1).length c294_5, .int .i64 ((rd_T42 l0 Aa).f4.f2.f0), .int .i64 ((rd_T42 l0 Aa).f4.f2.f1), .int .i64 ((rd_T42 l0 Aa).f4.f2.f2), .int .u32 ((rd_T42 l0 Aa).f4.f2.f3)]] (by rfl) rfl rfl pL ?_
    with_reducible refine (garnerref06_May.calls k1 ((rd_T42 l0 Aa).f0) ((rd_T42 l0 Aa).f1) ((rd_T42 l0 Aa).f2) ((rd_T42 l0 Aa).f3) ((rd_T42 l0 Aa).f4.f0) _ _ ((rd_T42 l0 Aa).f4.f1) ((rd_T42 l0 Aa).f4.f2.f0) ((rd_T42 l0 Aa).f4.f2.f1) ((rd_T42 l0 Aa).f4.f2.f2) ((rd_T42 l0 Aa).f4.f2.f3) true _ ?Bh ?Bi A4.out).mono ?_
    (case Bh => exact pC (Kd.C_below Ap.out HB.out))
    (case Bi => exact A2.out)
    rintro e w17 ⟨rfl, hb⟩
    refine ⟨_, rfl, ?_⟩
    replace HB := Am (below_step (pB HB.out) hb)
    (try clear hb)
    (try clear hb2)
    (try clear hk)
    (try clear hi)
    refine hK.out _ _ ⟨(cT HB.out Ae), (cT HB.out Af), (cT HB.out Ag), (cT HB.out Ah), (cT HB.out Ai), (cT HB.out Aj), (cT HB.out Ak), (cT HB.out Al), (cT HB.out An), (cT HB.out Ao), (cT HB.out A6), (cT HB.out A7), (cT HB.out A8), (cT HB.out A9), (cT HB.out Ba), (cT HB.out Bb), (cT HB.out Bc), (cT HB.out Bd), (cT HB.out Be), (cT HB.out Bf)⟩ (fun hHeld => ?_)
    clear hK K
    refine norm_ (a' := ?_) ?_ ?_
    rotate_left
    ·show Act.put _ (some 14) _ = _
     simp only [Act.put, List.setIfInBounds_toArray, List.set_cons_zero, List.set_cons_succ, i64_w, i32_w]
     rfl
    refine pui 5 15 39 63 HT_ ?_
    refine pui 6 16 39 127 HT_ ?_
    refine pui 7 17 39 255 HT_ ?_
    refine pui 8 18 39 511 HT_ ?_
    refine pui 9 19 39 1023 HT_ ?_
    refine pui 10 20 39 2047 HT_ ?_
    refine pui 11 21 39 4095 HT_ ?_
    refine pui 12 22 39 8191 HT_ ?_
    refine pui 13 23 39 16383 HT_ ?_
    refine pui 16 26 39 81919 HT_ ?_
    refine pui 17 27 39 212991 HT_ ?_
    refine pui 18 28 39 475135 HT_ ?_
    refine pui 19 29 39 999423 HT_ ?_
    refine pui 20 30 39 2047999 HT_ ?_
    refine tki 14 24 39 2064383 HT_ HW_ hHeld ?_
    refine pui 15 25 39 2097151 HT_ ?_
    refine tki 21 31 39 4194303 HT_ HW_ hHeld ?_
    refine pui 22 32 39 8388607 HT_ ?_
    refine pui 23 33 39 16777215 HT_ ?_
    refine pdi 24 34 39 33554431 HT_ ?_
    refine pdi 25 35 39 67108863 HT_ ?_
    refine pdi 26 36 39 134217727 HT_ ?_
    refine pdi 27 37 39 268435455 HT_ ?_
    refine pdi 28 38 39 536870911 HT_ ?_
    refine pdi 29 39 39 1073741823 HT_ ?_
    refine pdi 30 40 39 2147483647 HT_ ?_
    refine pdi 31 41 39 4294967295 HT_ ?_
    refine pdi 32 42 39 8589934591 HT_ ?_
    refine pdi 33 43 39 17179869183 HT_ ?_
    refine pdi 34 44 39 34359738367 HT_ ?_
    refine pdi 35 45 39 68719476735 HT_ ?_
    refine pui 36 46 39 137438953471 HT_ ?_
    refine pui 37 47 39 274877906943 HT_ ?_
    refine pui 38 48 39 549755813887 HT_ ?_
    refine done_ (done_of HT_.out (by kernel_rfl)) ?_
    try go_wp2
    go_ret
    exact ⟨by first | rfl | (simp [errW_none, errW_some] <;> rfl) | (simp only [← hji7]; first | rfl | (simp [errW_none, errW_some] <;> rfl)) | (simp [*, errW_none, errW_some] <;> rfl), pB HB.out⟩
   rw [if_pos c10] at H
   have c10b0 : ((wrap64 (((rd_T42 l0 Aa).f0) - 1)) == ((rd_T42 l0 (ji7)).f0)) = true := beq_iff_eq.mpr c10
   have c10b1 : ((wrap64 (((rd_T42 l0 Aa).f0) - 1)) != ((rd_T42 l0 (ji7)).f0)) = false := bne_eq_false_iff_eq.mpr c10
   clear c10
   by_cases c11 : ((rd_T42 l0 Aa).f1) < ((rd_T42 l0 (ji7)).f1)
   ·rw [if_pos c11] at H
    have c11b0 : decide (((rd_T42 l0 Aa).f1) < ((rd_T42 l0 (ji7)).f1)) = true := decide_eq_true c11
    clear c11
    obtain rfl := Option.some.inj H
    try go_wp2
    replace HB := bDa HB
    have p294 : 0 ≤ (Aa : Int) := of_decide_eq_true pS
    have q294 : Aa < (l0.length : Int) := of_decide_eq_true pS
    obtain ⟨Ab, Aq, c294_5, e294, Ar, As, At, Au, Av, Aw, Ax, Ay, Az, A1, Ac, Ad, Ae, Af, Ag, Ah, Ai, Aj, Ak, Al, An, Ao⟩ := at_T42w HR0.out Aa p294 q294 HB.out
    cases e294
    have Ap := Am Ad
    have A2 := Am Ac
    clear Ad Ac
    replace p294 := eq_true p294
    replace q294 := eq_true q294
    have p297 : 0 ≤ ((ji7) : Int) := of_decide_eq_true pS
    have q297 : (ji7) < (l0.length : Int) := of_decide_eq_true pS
    obtain ⟨B7, Bw, c297_5, e297, Bj, Bk, Bl, Bm, Bn, Bg, Bo, Bp, Bq, Br, A3, A5, A6, A7, A8, A9, Ba, Bb, Bc, Bd, Be, Bf⟩ := at_T42w HR0.out (ji7) p297 q297 HB.out
    obtain rfl : Ab = B7 := (by injection e297)
    have Bs := Am A5
    have B8 := Am A3
    clear A5 A3
    replace p297 := eq_true p297
    replace q297 := eq_true q297
    have p299 : 0 ≤ ((ji7) : Int) := of_decide_eq_true pS
    have q299 : (ji7) < (l0.length : Int) := of_decide_eq_true pS
    obtain ⟨B9, Cl, c299_5, e299, Bx, By, Bz, B0, B1, Bt, B2, B3, B4, B5, Bu, Bv, Ca, Cb, Cc, Cd, Ce, Cf, Cg, Ch, Ci, Cj⟩ := at_T42w HR0.out (ji7) p299 q299 HB.out
    obtain rfl : Ab = B9 := (by injection e299)
    have B6 := Am Bv
    have Ck := Am Bu
    clear Bv Bu
    replace p299 := eq_true p299
    replace q299 := eq_true q299
    have ea_ := Option.some.inj (Bg.symm.trans Bt)
    injection ea_ with ea_ en_ ec_
    subst ea_
    subst ec_
    clear en_
    refine start_ (n := 39) (S := fun w' => w'.cell? (Ab.add ((Aa).toNat * 10)) = some (.int .i64 ((rd_T42 l0 Aa).f0)) ∧ cA w' (Ab.add ((Aa).toNat * 10)) 1 (.int .i64 ((rd_T42 l0 Aa).f1)) ∧ cA w' (Ab.add ((Aa).toNat * 10)) 2 (.int .i64 ((rd_T42 l0 Aa).f2)) ∧ cA w' (Ab.add ((Aa).toNat * 10)) 3 (.string ((rd_T42 l0 Aa).f3)) ∧ cA w' (Ab.add ((Aa).toNat * 10)) 4 (.bool ((rd_T42 l0 Aa).f4.f0)) ∧ cA w' (Ab.add ((Aa).toNat * 10)) 5 (.slice Aq ((rd_T42 l0 Aa).f4.f1).length c294_5) ∧ cA w' (Ab.add ((Aa).toNat * 10)) 6 (.int .i64 ((rd_T42 l0 Aa).f4.f2.f0)) ∧ cA w' (Ab.add ((Aa).toNat * 10)) 7 (.int .i64 ((rd_T42 l0 Aa).f4.f2.f1)) ∧ cA w' (Ab.add ((Aa).toNat * 10)) 8 (.int .i64 ((rd_T42 l0 Aa).f4.f2.f2)) ∧ cA w' (Ab.add ((Aa).toNat * 10)) 9 (.int .u32 ((rd_T42 l0 Aa).f4.f2.f3)) ∧ w'.cell? (Ab.add (((ji7)).toNat * 10)) = some (.int .i64 ((rd_T42 l0 (ji7)).f0)) ∧ w'.cell? ⟨(Ab.add (((ji7)).toNat * 10)).block, (Ab.add (((ji7)).toNat * 10)).off + 1, none⟩ = some (.int .i64 ((rd_T42 l0 (ji7)).f1)) ∧ w'.cell? ⟨(Ab.add (((ji7)).toNat * 10)).block, (Ab.add (((ji7)).toNat * 10)).off + 2, none⟩ = some (.int .i64 ((rd_T42 l0 (ji7)).f2)) ∧ w'.cell? ⟨(Ab.add (((ji7)).toNat * 10)).block, (Ab.add (((ji7)).toNat * 10)).off + 3, none⟩ = some (.string ((rd_T42 l0 (ji7)).f3)) ∧ w'.cell? ⟨(Ab.add (((ji7)).toNat * 10)).block, (Ab.add (((ji7)).toNat * 10)).off + 4, none⟩ = some (.bool ((rd_T42 l0 (ji7)).f4.f0)) ∧ w'.cell? ⟨(Ab.add (((ji7)).toNat * 10)).block, (Ab.add (((ji7)).toNat * 10)).off + 5, none⟩ = some (.slice Bw ((rd_T42 l0 (ji7)).f4.f1).length c297_5) ∧ w'.cell? ⟨(Ab.add (((ji7)).toNat * 10)).block, (Ab.add (((ji7)).toNat * 10)).off + 6, none⟩ = some (.int .i64 ((rd_T42 l0 (ji7)).f4.f2.f0)) ∧ w'.cell? ⟨(Ab.add (((ji7)).toNat * 10)).block, (Ab.add (((ji7)).toNat * 10)).off + 7, none⟩ = some (.int .i64 ((rd_T42 l0 (ji7)).f4.f2.f1)) ∧ w'.cell? ⟨(Ab.add (((ji7)).toNat * 10)).block, (Ab.add (((ji7)).toNat * 10)).off + 8, none⟩ = some (.int .i64 ((rd_T42 l0 (ji7)).f4.f2.f2)) ∧ w'.cell? ⟨(Ab.add (((ji7)).toNat * 10)).block, (Ab.add (((ji7)).toNat * 10)).off + 9, none⟩ = some (.int .u32 ((rd_T42 l0 (ji7)).f4.f2.f3))) (ds := []) #[false, false, false, false, false, false, false, false, false, false, false, false, false, false, false, false, false, false, false, false, false, false, false, false, false, false, false, false, false, false, false, false, false, false, false, false, false, false, false] (by kernel_rfl) rfl rfl ⟨(cT HB.out Ae), (cT HB.out Af), (cT HB.out Ag), (cT HB.out Ah), (cT HB.out Ai), (cT HB.out Aj), (cT HB.out Ak), (cT HB.out Al), (cT HB.out An), (cT HB.out Ao), (cT HB.out A6), (cT HB.out A7), (cT HB.out A8), (cT HB.out A9), (cT HB.out Ba), (cT HB.out Bb), (cT HB.out Bc), (cT HB.out Bd), (cT HB.out Be), (cT HB.out Bf)⟩ (fun hHeld => ?_); refine with_tabW garnerref06_Batch.tab4 garnerref06_Batch.bits4 (fun HT_ HW_ => ?_)
    generalize wr.drew = w12 at HB Ap Bs B6 Ar As At Au Av Aw Ax Ay Az A1 Bj Bk Bl Bm Bn Bg Bo Bp Bq Br Bx By Bz B0 B1 Bt B2 B3 B4 B5 hHeld ⊢
    refine pui 0 10 39 1 HT_ ?_
    refine pui 1 11 39 3 HT_ ?_
    refine pui 2 12 39 7 HT_ ?_
    refine tki 3 13 39 15 HT_ HW_ hHeld ?_
    refine onei 4 14 39 31 HT_ (fun K hK => ?_)
    refine goes_ Try.func20 (by kernel_rfl) rfl #[.agg #[.int .i64 ((rd_T42 l0 Aa).f0), .int .i64 ((rd_T42 l0 Aa).f1), .int .i64 ((rd_T42 l0 Aa).f2), .string ((rd_T42 l0 Aa).f3), .bool ((rd_T42 l0 Aa).f4.f0), .slice Aq ((rd_T42 l0 Aa).f4.f1).length c294_5, .int .i64 ((rd_T42 l0 Aa).f4.f2.f0), .int .i64 ((rd_T42 l0 Aa).f4.f2.f1), .int .i64 ((rd_T42 l0 Aa).f4.f2.f2), .int .u32 ((rd_T42 l0 Aa).f4.f2.f3)]] (by rfl) rfl rfl pL ?_
    with_reducible refine (garnerref06_May.calls k1 ((rd_T42 l0 Aa).f0) ((rd_T42 l0 Aa).f1) ((rd_T42 l0 Aa).f2) ((rd_T42 l0 Aa).f3) ((rd_T42 l0 Aa).f4.f0) _ _ ((rd_T42 l0 Aa).f4.f1) ((rd_T42 l0 Aa).f4.f2.f0) ((rd_T42 l0 Aa).f4.f2.f1) ((rd_T42 l0 Aa).f4.f2.f2) ((rd_T42 l0 Aa).f4.f2.f3) true _ ?Bh ?Bi A4.out).mono ?_
    (case Bh => exact pC (Kd.C_below Ap.out HB.out))
    (case Bi => exact A2.out)
    rintro e w13 ⟨rfl, hb⟩
    refine ⟨_, rfl, ?_⟩
    replace HB := Am (below_step (pB HB.out) hb)
    (try clear hb)
    (try clear hb2)
    (try clear hk)
    (try clear hi)
    refine hK.out _ _ ⟨(cT HB.out Ae), (cT HB.out Af), (cT HB.out Ag), (cT HB.out Ah), (cT HB.out Ai), (cT HB.out Aj), (cT HB.out Ak), (cT HB.out Al), (cT HB.out An), (cT HB.out Ao), (cT HB.out A6), (cT HB.out A7), (cT HB.out A8), (cT HB.out A9), (cT HB.out Ba), (cT HB.out Bb), (cT HB.out Bc), (cT HB.out Bd), (cT HB.out Be), (cT HB.out Bf)⟩ (fun hHeld => ?_)
    clear hK K
    refine norm_ (a' := ?_) ?_ ?_
    rotate_left
    ·show Act.put _ (some 14) _ = _
     simp only [Act.put, List.setIfInBounds_toArray, List.set_cons_zero, List.set_cons_succ, i64_w, i32_w]
     rfl
    refine pui 5 15 39 63 HT_ ?_
    refine pui 6 16 39 127 HT_ ?_
    refine pui 7 17 39 255 HT_ ?_
    refine pui 8 18 39 511 HT_ ?_
    refine pui 9 19 39 1023 HT_ ?_
    refine pui 10 20 39 2047 HT_ ?_
    refine pui 11 21 39 4095 HT_ ?_
    refine pui 12 22 39 8191 HT_ ?_
    refine pui 13 23 39 16383 HT_ ?_
    refine pui 16 26 39 81919 HT_ ?_
    refine pui 17 27 39 212991 HT_ ?_
    refine pui 18 28 39 475135 HT_ ?_
    refine pui 19 29 39 999423 HT_ ?_
    refine pui 20 30 39 2047999 HT_ ?_
    refine tki 14 24 39 2064383 HT_ HW_ hHeld ?_
    refine pui 15 25 39 2097151 HT_ ?_
    refine tki 21 31 39 4194303 HT_ HW_ hHeld ?_
    refine pui 22 32 39 8388607 HT_ ?_
    refine pui 23 33 39 16777215 HT_ ?_
    refine pui 24 34 39 33554431 HT_ ?_
    refine pui 25 35 39 67108863 HT_ ?_
    refine pui 26 36 39 134217727 HT_ ?_
    refine pui 27 37 39 268435455 HT_ ?_
    refine pui 29 39 39 805306367 HT_ ?_
    refine pui 30 40 39 1879048191 HT_ ?_
    refine pui 31 41 39 4026531839 HT_ ?_
    refine pui 32 42 39 8321499135 HT_ ?_
    refine pui 33 43 39 16911433727 HT_ ?_
    refine tki 28 38 39 17179869183 HT_ HW_ hHeld ?_
    refine tki 34 44 39 34359738367 HT_ HW_ hHeld ?_
    refine pui 35 45 39 68719476735 HT_ ?_
    refine pui 36 46 39 137438953471 HT_ ?_
    refine pui 37 47 39 274877906943 HT_ ?_
    refine pui 38 48 39 549755813887 HT_ ?_
    refine done_ (done_of HT_.out (by kernel_rfl)) ?_
    try go_wp2
    go_ret
    exact ⟨by first | rfl | (simp [errW_none, errW_some] <;> rfl) | (simp only [← hji7]; first | rfl | (simp [errW_none, errW_some] <;> rfl)) | (simp [*, errW_none, errW_some] <;> rfl), pB HB.out⟩
   rw [if_neg c11] at H
   have c11b0 : decide (((rd_T42 l0 Aa).f1) < ((rd_T42 l0 (ji7)).f1)) = false := decide_eq_false c11
   clear c11
   have H' := Am H
   clear H
   try go_wp2
   replace HB := bDa HB
   have p294 : 0 ≤ (Aa : Int) := of_decide_eq_true pS
   have q294 : Aa < (l0.length : Int) := of_decide_eq_true pS
   obtain ⟨Ab, Aq, c294_5, e294, Ar, As, At, Au, Av, Aw, Ax, Ay, Az, A1, Ac, Ad, Ae, Af, Ag, Ah, Ai, Aj, Ak, Al, An, Ao⟩ := at_T42w HR0.out Aa p294 q294 HB.out
   cases e294
   have Ap := Am Ad
   have A2 := Am Ac
   clear Ad Ac
   replace p294 := eq_true p294
   replace q294 := eq_true q294
   have p297 : 0 ≤ ((ji7) : Int) := of_decide_eq_true pS
   have q297 : (ji7) < (l0.length : Int) := of_decide_eq_true pS
   obtain ⟨B7, Bw, c297_5, e297, Bj, Bk, Bl, Bm, Bn, Bg, Bo, Bp, Bq, Br, A3, A5, A6, A7, A8, A9, Ba, Bb, Bc, Bd, Be, Bf⟩ := at_T42w HR0.out (ji7) p297 q297 HB.out
   obtain rfl : Ab = B7 := (by injection e297)
   have Bs := Am A5
   have B8 := Am A3
   clear A5 A3
   replace p297 := eq_true p297
   replace q297 := eq_true q297
   have p299 : 0 ≤ ((ji7) : Int) := of_decide_eq_true pS
   have q299 : (ji7) < (l0.length : Int) := of_decide_eq_true pS
   obtain ⟨B9, Cl, c299_5, e299, Bx, By, Bz, B0, B1, Bt, B2, B3, B4, B5, Bu, Bv, Ca, Cb, Cc, Cd, Ce, Cf, Cg, Ch, Ci, Cj⟩ := at_T42w HR0.out (ji7) p299 q299 HB.out
   obtain rfl : Ab = B9 := (by injection e299)
   have B6 := Am Bv
   have Ck := Am Bu
   clear Bv Bu
   replace p299 := eq_true p299
   replace q299 := eq_true q299
   have ea_ := Option.some.inj (Bg.symm.trans Bt)
   injection ea_ with ea_ en_ ec_
   subst ea_
   subst ec_
   clear en_
   refine start_ (n := 39) (S := fun w' => w'.cell? (Ab.add ((Aa).toNat * 10)) = some (.int .i64 ((rd_T42 l0 Aa).f0)) ∧ cA w' (Ab.add ((Aa).toNat * 10)) 1 (.int .i64 ((rd_T42 l0 Aa).f1)) ∧ cA w' (Ab.add ((Aa).toNat * 10)) 2 (.int .i64 ((rd_T42 l0 Aa).f2)) ∧ cA w' (Ab.add ((Aa).toNat * 10)) 3 (.string ((rd_T42 l0 Aa).f3)) ∧ cA w' (Ab.add ((Aa).toNat * 10)) 4 (.bool ((rd_T42 l0 Aa).f4.f0)) ∧ cA w' (Ab.add ((Aa).toNat * 10)) 5 (.slice Aq ((rd_T42 l0 Aa).f4.f1).length c294_5) ∧ cA w' (Ab.add ((Aa).toNat * 10)) 6 (.int .i64 ((rd_T42 l0 Aa).f4.f2.f0)) ∧ cA w' (Ab.add ((Aa).toNat * 10)) 7 (.int .i64 ((rd_T42 l0 Aa).f4.f2.f1)) ∧ cA w' (Ab.add ((Aa).toNat * 10)) 8 (.int .i64 ((rd_T42 l0 Aa).f4.f2.f2)) ∧ cA w' (Ab.add ((Aa).toNat * 10)) 9 (.int .u32 ((rd_T42 l0 Aa).f4.f2.f3)) ∧ w'.cell? (Ab.add (((ji7)).toNat * 10)) = some (.int .i64 ((rd_T42 l0 (ji7)).f0)) ∧ w'.cell? ⟨(Ab.add (((ji7)).toNat * 10)).block, (Ab.add (((ji7)).toNat * 10)).off + 1, none⟩ = some (.int .i64 ((rd_T42 l0 (ji7)).f1)) ∧ w'.cell? ⟨(Ab.add (((ji7)).toNat * 10)).block, (Ab.add (((ji7)).toNat * 10)).off + 2, none⟩ = some (.int .i64 ((rd_T42 l0 (ji7)).f2)) ∧ w'.cell? ⟨(Ab.add (((ji7)).toNat * 10)).block, (Ab.add (((ji7)).toNat * 10)).off + 3, none⟩ = some (.string ((rd_T42 l0 (ji7)).f3)) ∧ w'.cell? ⟨(Ab.add (((ji7)).toNat * 10)).block, (Ab.add (((ji7)).toNat * 10)).off + 4, none⟩ = some (.bool ((rd_T42 l0 (ji7)).f4.f0)) ∧ w'.cell? ⟨(Ab.add (((ji7)).toNat * 10)).block, (Ab.add (((ji7)).toNat * 10)).off + 5, none⟩ = some (.slice Bw ((rd_T42 l0 (ji7)).f4.f1).length c297_5) ∧ w'.cell? ⟨(Ab.add (((ji7)).toNat * 10)).block, (Ab.add (((ji7)).toNat * 10)).off + 6, none⟩ = some (.int .i64 ((rd_T42 l0 (ji7)).f4.f2.f0)) ∧ w'.cell? ⟨(Ab.add (((ji7)).toNat * 10)).block, (Ab.add (((ji7)).toNat * 10)).off + 7, none⟩ = some (.int .i64 ((rd_T42 l0 (ji7)).f4.f2.f1)) ∧ w'.cell? ⟨(Ab.add (((ji7)).toNat * 10)).block, (Ab.add (((ji7)).toNat * 10)).off + 8, none⟩ = some (.int .i64 ((rd_T42 l0 (ji7)).f4.f2.f2)) ∧ w'.cell? ⟨(Ab.add (((ji7)).toNat * 10)).block, (Ab.add (((ji7)).toNat * 10)).off + 9, none⟩ = some (.int .u32 ((rd_T42 l0 (ji7)).f4.f2.f3))) (ds := []) #[false, false, false, false, false, false, false, false, false, false, false, false, false, false, false, false, false, false, false, false, false, false, false, false, false, false, false, false, false, false, false, false, false, false, false, false, false, false, false] (by kernel_rfl) rfl rfl ⟨(cT HB.out Ae), (cT HB.out Af), (cT HB.out Ag), (cT HB.out Ah), (cT HB.out Ai), (cT HB.out Aj), (cT HB.out Ak), (cT HB.out Al), (cT HB.out An), (cT HB.out Ao), (cT HB.out A6), (cT HB.out A7), (cT HB.out A8), (cT HB.out A9), (cT HB.out Ba), (cT HB.out Bb), (cT HB.out Bc), (cT HB.out Bd), (cT HB.out Be), (cT HB.out Bf)⟩ (fun hHeld => ?_); refine with_tabW garnerref06_Batch.tab4 garnerref06_Batch.bits4 (fun HT_ HW_ => ?_)
   generalize wr.drew = w14 at HB Ap Bs B6 Ar As At Au Av Aw Ax Ay Az A1 Bj Bk Bl Bm Bn Bg Bo Bp Bq Br Bx By Bz B0 B1 Bt B2 B3 B4 B5 hHeld ⊢
   refine pui 0 10 39 1 HT_ ?_
   refine pui 1 11 39 3 HT_ ?_
   refine pui 2 12 39 7 HT_ ?_
   refine tki 3 13 39 15 HT_ HW_ hHeld ?_
   refine onei 4 14 39 31 HT_ (fun K hK => ?_)
   refine goes_ Try.func20 (by kernel_rfl) rfl #[.agg #[.int .i64 ((rd_T42 l0 Aa).f0), .int .i64 ((rd_T42 l0 Aa).f1), .int .i64 ((rd_T42 l0 Aa).f2), .string ((rd_T42 l0 Aa).f3), .bool ((rd_T42 l0 Aa).f4.f0), .slice Aq ((rd_T42 l0 Aa).f4.f1).length c294_5, .int .i64 ((rd_T42 l0 Aa).f4.f2.f0), .int .i64 ((rd_T42 l0 Aa).f4.f2.f1), .int .i64 ((rd_T42 l0 Aa).f4.f2.f2), .int .u32 ((rd_T42 l0 Aa).f4.f2.f3)]] (by rfl) rfl rfl pL ?_
   with_reducible refine (garnerref06_May.calls k1 ((rd_T42 l0 Aa).f0) ((rd_T42 l0 Aa).f1) ((rd_T42 l0 Aa).f2) ((rd_T42 l0 Aa).f3) ((rd_T42 l0 Aa).f4.f0) _ _ ((rd_T42 l0 Aa).f4.f1) ((rd_T42 l0 Aa).f4.f2.f0) ((rd_T42 l0 Aa).f4.f2.f1) ((rd_T42 l0 Aa).f4.f2.f2) ((rd_T42 l0 Aa).f4.f2.f3) true _ ?Bh ?Bi A4.out).mono ?_
   (case Bh => exact pC (Kd.C_below Ap.out HB.out))
   (case Bi => exact A2.out)
   rintro e w15 ⟨rfl, hb⟩
   refine ⟨_, rfl, ?_⟩
   replace HB := Am (below_step (pB HB.out) hb)
   (try clear hb)
   (try clear hb2)
   (try clear hk)
   (try clear hi)
   refine hK.out _ _ ⟨(cT HB.out Ae), (cT HB.out Af), (cT HB.out Ag), (cT HB.out Ah), (cT HB.out Ai), (cT HB.out Aj), (cT HB.out Ak), (cT HB.out Al), (cT HB.out An), (cT HB.out Ao), (cT HB.out A6), (cT HB.out A7), (cT HB.out A8), (cT HB.out A9), (cT HB.out Ba), (cT HB.out Bb), (cT HB.out Bc), (cT HB.out Bd), (cT HB.out Be), (cT HB.out Bf)⟩ (fun hHeld => ?_)
   clear hK K
   refine norm_ (a' := ?_) ?_ ?_
   rotate_left
   ·show Act.put _ (some 14) _ = _
    simp only [Act.put, List.setIfInBounds_toArray, List.set_cons_zero, List.set_cons_succ, i64_w, i32_w]
    rfl
   refine pui 5 15 39 63 HT_ ?_
   refine pui 6 16 39 127 HT_ ?_
   refine pui 7 17 39 255 HT_ ?_
   refine pui 8 18 39 511 HT_ ?_
   refine pui 9 19 39 1023 HT_ ?_
   refine pui 10 20 39 2047 HT_ ?_
   refine pui 11 21 39 4095 HT_ ?_
   refine pui 12 22 39 8191 HT_ ?_
   refine pui 13 23 39 16383 HT_ ?_
   refine pui 16 26 39 81919 HT_ ?_
   refine pui 17 27 39 212991 HT_ ?_
   refine pui 18 28 39 475135 HT_ ?_
   refine pui 19 29 39 999423 HT_ ?_
   refine pui 20 30 39 2047999 HT_ ?_
   refine tki 14 24 39 2064383 HT_ HW_ hHeld ?_
   refine pui 15 25 39 2097151 HT_ ?_
   refine tki 21 31 39 4194303 HT_ HW_ hHeld ?_
   refine pui 22 32 39 8388607 HT_ ?_
   refine pui 23 33 39 16777215 HT_ ?_
   refine pui 24 34 39 33554431 HT_ ?_
   refine pui 25 35 39 67108863 HT_ ?_
   refine pui 26 36 39 134217727 HT_ ?_
   refine pui 27 37 39 268435455 HT_ ?_
   refine pui 29 39 39 805306367 HT_ ?_
   refine pui 30 40 39 1879048191 HT_ ?_
   refine pui 31 41 39 4026531839 HT_ ?_
   refine pui 32 42 39 8321499135 HT_ ?_
   refine pui 33 43 39 16911433727 HT_ ?_
   refine tki 28 38 39 17179869183 HT_ HW_ hHeld ?_
   refine tki 34 44 39 34359738367 HT_ HW_ hHeld ?_
   refine pui 35 45 39 68719476735 HT_ ?_
   refine pui 36 46 39 137438953471 HT_ ?_
   refine pui 37 47 39 274877906943 HT_ ?_
   refine pui 38 48 39 549755813887 HT_ ?_
   refine done_ (done_of HT_.out (by kernel_rfl)) ?_
   try go_wp2
   go_roundg k1
   case measure => have := HK1.out; omega
   case rel => exact ⟨(wrap64 (Aa + 1)), (by first | rfl | (simp; done) | (simp [*]; done)), H', ⟨by have := HK1.out; omega⟩, ⟨pB HB.out⟩⟩
def entry_Same_1.f (a0_0 : Int) (a0_1 : Int) (a0_2 : Int) (a0_3 : ByteArray) (a0_4 : Bool) (l0_5 : List Int) (a0_6 : Int) (a0_7 : Int) (a0_8 : Int) (a0_9 : Int) (a1_0 : Int) (a1_1 : Int) (a1_2 : Int) (a1_3 : ByteArray) (a1_4 : Bool) (l1_5 : List Int) (a1_6 : Int) (a1_7 : Int) (a1_8 : Int) (a1_9 : Int) : Option (Bool) := if a0_0 = a1_0 then (if a0_1 = a1_1 then (if a0_2 = a1_2 then (if a0_3.toList = a1_3.toList then ((cell_Same.f a0_4 l0_5 a0_6 a0_7 a0_8 a0_9 a1_4 l1_5 a1_6 a1_7 a1_8 a1_9).bind fun t302 => (some t302)) else (some false)) else (some false)) else (some false)) else (some false)
set_option maxHeartbeats 8000000 in
set_option maxRecDepth 100000 in
theorem entry_Same_1.calls (a0_0 : Int) (a0_1 : Int) (a0_2 : Int) (a0_3 : ByteArray) (a0_4 : Bool) (A0_5 : Option Addr) (c0_5 : Nat) (l0_5 : List Int) (a0_6 : Int) (a0_7 : Int) (a0_8 : Int) (a0_9 : Int) (a1_0 : Int) (a1_1 : Int) (a1_2 : Int) (a1_3 : ByteArray) (a1_4 : Bool) (A1_5 : Option Addr) (c1_5 : Nat) (l1_5 : List Int) (a1_6 : Int) (a1_7 : Int) (a1_8 : Int) (a1_9 : Int) (r : Bool) (w : World) (hr0_5 : Kd.C (Kd.int .u8) w A0_5 l0_5.length l0_5) (hc0_5 : l0_5.length ≤ c0_5) (hr1_5 : Kd.C (Kd.int .u8) w A1_5 l1_5.length l1_5) (hc1_5 : l1_5.length ≤ c1_5) (h : entry_Same_1.f a0_0 a0_1 a0_2 a0_3 a0_4 l0_5 a0_6 a0_7 a0_8 a0_9 a1_0 a1_1 a1_2 a1_3 a1_4 l1_5 a1_6 a1_7 a1_8 a1_9 = some r) :
  Calls Try.prog 24 #[.agg #[.int .i64 a0_0, .int .i64 a0_1, .int .i64 a0_2, .string a0_3, .bool a0_4, .slice A0_5 l0_5.length c0_5, .int .i64 a0_6, .int .i64 a0_7, .int .i64 a0_8, .int .u32 a0_9], .agg #[.int .i64 a1_0, .int .i64 a1_1, .int .i64 a1_2, .string a1_3, .bool a1_4, .slice A1_5 l1_5.length c1_5, .int .i64 a1_6, .int .i64 a1_7, .int .i64 a1_8, .int .u32 a1_9]] w fun e w' => e = .returned (.bool r) ∧ Below w.heap.size w w' := by
 have hu42 := Try.underlying42
 have hu40 := Try.underlying40
 have Ak := Am hr0_5
 have Al := Am hc0_5
 clear hr0_5 hc0_5
 have An := Am hr1_5
 have Ao := Am hc1_5
 clear hr1_5 hc1_5
 have HB := Am (Below.refl w.heap.size w)
 have H : (if a0_0 = a1_0 then (if a0_1 = a1_1 then (if a0_2 = a1_2 then (if a0_3.toList = a1_3.toList then ((cell_Same.f a0_4 l0_5 a0_6 a0_7 a0_8 a0_9 a1_4 l1_5 a1_6 a1_7 a1_8 a1_9).bind fun t302 => (some t302)) else (some false)) else (some false)) else (some false)) else (some false)) = some r := h
 clear h
 by_cases c3 : a0_0 = a1_0
 rotate_left
 ·rw [if_neg c3] at H
  have c3b0 : (a0_0 == a1_0) = false := beq_eq_false_iff_ne.mpr c3
  have c3b1 : (a0_0 != a1_0) = true := bne_iff_ne.mpr c3
  obtain rfl := Option.some.inj H
  go_enter Try.func24, Try.ntmps24
  go_wp2_with (first | ((with_reducible refine gate_dst (N := 2) rfl ?_); refine box_event ?hg (N := 2) ?hd (cs := #[.int .i64 a0_0, .int .i64 a0_1, .int .i64 a0_2, .string a0_3, .bool a0_4, .slice A0_5 l0_5.length c0_5, .int .i64 a0_6, .int .i64 a0_7, .int .i64 a0_8, .int .u32 a0_9]) (t := 42) ?hr ?_; (case hd => rfl); (case hg => rfl); (case hr => first | (go_simp; done) | (go_simp; rfl)); intro Ae hg w29 hbox hb; have Aa := Am (hbox); have Ai := Am ((by rw [hg]; exact (below_size (pB HB.out)) : w.heap.size ≤ Ae)); replace HB := Am (below_step (pB HB.out) hb); have Ad := Ai; clear hb hbox hg) | ((with_reducible refine gate_dst (N := 3) rfl ?_); refine box_event ?hg (N := 3) ?hd (cs := #[.int .i64 a1_0, .int .i64 a1_1, .int .i64 a1_2, .string a1_3, .bool a1_4, .slice A1_5 l1_5.length c1_5, .int .i64 a1_6, .int .i64 a1_7, .int .i64 a1_8, .int .u32 a1_9]) (t := 42) ?hr ?_; (case hd => rfl); (case hg => rfl); (case hr => first | (go_simp; done) | (go_simp; rfl)); intro Af hg w30 hbox hb; have Ag := Am (hbox); have Aj := Am ((by rw [hg]; exact (below_size (pE HB.out Ad.out)) : w.heap.size ≤ Af)); replace HB := Am (below_step (pE HB.out Ad.out) hb); have Ah := Aj; have Ab := Am ((by rw [hg]; exact Nat.ne_of_lt (kL Aa.out) : Ae ≠ Af)); have Ac := Am ((by rw [hg]; exact Nat.ne_of_gt (kL Aa.out) : Af ≠ Ae)); replace Aa := kBa Aa hb; clear hb hbox hg; have hnb31 := Ab.out; have hnc31 := Ac.out; obtain ⟨_, _, _, _, _, _, _, _, _, _⟩ := bc10 Aa.out; obtain ⟨_, _, _, _, _, _, _, _, _, _⟩ := bf10 Aa.out; obtain ⟨_, _, _, _, _, _, _, _, _, _⟩ := bc10 Ag.out; obtain ⟨_, _, _, _, _, _, _, _, _, _⟩ := bf10 Ag.out))
  go_ret
  exact ⟨pX, pE2 HB.out Ad.out Ah.out⟩
 rw [if_pos c3] at H
 have c3b0 : (a0_0 == a1_0) = true := beq_iff_eq.mpr c3
 have c3b1 : (a0_0 != a1_0) = false := bne_eq_false_iff_eq.mpr c3
 clear c3
 by_cases c4 : a0_1 = a1_1
 rotate_left
 ·rw [if_neg c4] at H
  have c4b0 : (a0_1 == a1_1) = false := beq_eq_false_iff_ne.mpr c4
  have c4b1 : (a0_1 != a1_1) = true := bne_iff_ne.mpr c4
  obtain rfl := Option.some.inj H
  go_enter Try.func24, Try.ntmps24
  go_wp2_with (first | ((with_reducible refine gate_dst (N := 2) rfl ?_); refine box_event ?hg (N := 2) ?hd (cs := #[.int .i64 a0_0, .int .i64 a0_1, .int .i64 a0_2, .string a0_3, .bool a0_4, .slice A0_5 l0_5.length c0_5, .int .i64 a0_6, .int .i64 a0_7, .int .i64 a0_8, .int .u32 a0_9]) (t := 42) ?hr ?_; (case hd => rfl); (case hg => rfl); (case hr => first | (go_simp; done) | (go_simp; rfl)); intro Ae hg w24 hbox hb; have Aa := Am (hbox); have Ai := Am ((by rw [hg]; exact (below_size (pB HB.out)) : w.heap.size ≤ Ae)); replace HB := Am (below_step (pB HB.out) hb); have Ad := Ai; clear hb hbox hg) | ((with_reducible refine gate_dst (N := 3) rfl ?_); refine box_event ?hg (N := 3) ?hd (cs := #[.int .i64 a1_0, .int .i64 a1_1, .int .i64 a1_2, .string a1_3, .bool a1_4, .slice A1_5 l1_5.length c1_5, .int .i64 a1_6, .int .i64 a1_7, .int .i64 a1_8, .int .u32 a1_9]) (t := 42) ?hr ?_; (case hd => rfl); (case hg => rfl); (case hr => first | (go_simp; done) | (go_simp; rfl)); intro Af hg w25 hbox hb; have Ag := Am (hbox); have Aj := Am ((by rw [hg]; exact (below_size (pE HB.out Ad.out)) : w.heap.size ≤ Af)); replace HB := Am (below_step (pE HB.out Ad.out) hb); have Ah := Aj; have Ab := Am ((by rw [hg]; exact Nat.ne_of_lt (kL Aa.out) : Ae ≠ Af)); have Ac := Am ((by rw [hg]; exact Nat.ne_of_gt (kL Aa.out) : Af ≠ Ae)); replace Aa := kBa Aa hb; clear hb hbox hg; have hnb26 := Ab.out; have hnc26 := Ac.out; obtain ⟨_, _, _, _, _, _, _, _, _, _⟩ := bc10 Aa.out; obtain ⟨_, _, _, _, _, _, _, _, _, _⟩ := bf10 Aa.out; obtain ⟨_, _, _, _, _, _, _, _, _, _⟩ := bc10 Ag.out; obtain ⟨_, _, _, _, _, _, _, _, _, _⟩ := bf10 Ag.out))
  go_ret
  exact ⟨pX, pE2 HB.out Ad.out Ah.out⟩
 rw [if_pos c4] at H
 have c4b0 : (a0_1 == a1_1) = true := beq_iff_eq.mpr c4
 have c4b1 : (a0_1 != a1_1) = false := bne_eq_false_iff_eq.mpr c4
 clear c4
 by_cases c5 : a0_2 = a1_2
 rotate_left
 ·rw [if_neg c5] at H
  have c5b0 : (a0_2 == a1_2) = false := beq_eq_false_iff_ne.mpr c5
  have c5b1 : (a0_2 != a1_2) = true := bne_iff_ne.mpr c5
  obtain rfl := Option.some.inj H
  go_enter Try.func24, Try.ntmps24
  go_wp2_with (first | ((with_reducible refine gate_dst (N := 2) rfl ?_); refine box_event ?hg (N := 2) ?hd (cs := #[.int .i64 a0_0, .int .i64 a0_1, .int .i64 a0_2, .string a0_3, .bool a0_4, .slice A0_5 l0_5.length c0_5, .int .i64 a0_6, .int .i64 a0_7, .int .i64 a0_8, .int .u32 a0_9]) (t := 42) ?hr ?_; (case hd => rfl); (case hg => rfl); (case hr => first | (go_simp; done) | (go_simp; rfl)); intro Ae hg w19 hbox hb; have Aa := Am (hbox); have Ai := Am ((by rw [hg]; exact (below_size (pB HB.out)) : w.heap.size ≤ Ae)); replace HB := Am (below_step (pB HB.out) hb); have Ad := Ai; clear hb hbox hg) | ((with_reducible refine gate_dst (N := 3) rfl ?_); refine box_event ?hg (N := 3) ?hd (cs := #[.int .i64 a1_0, .int .i64 a1_1, .int .i64 a1_2, .string a1_3, .bool a1_4, .slice A1_5 l1_5.length c1_5, .int .i64 a1_6, .int .i64 a1_7, .int .i64 a1_8, .int .u32 a1_9]) (t := 42) ?hr ?_; (case hd => rfl); (case hg => rfl); (case hr => first | (go_simp; done) | (go_simp; rfl)); intro Af hg w20 hbox hb; have Ag := Am (hbox); have Aj := Am ((by rw [hg]; exact (below_size (pE HB.out Ad.out)) : w.heap.size ≤ Af)); replace HB := Am (below_step (pE HB.out Ad.out) hb); have Ah := Aj; have Ab := Am ((by rw [hg]; exact Nat.ne_of_lt (kL Aa.out) : Ae ≠ Af)); have Ac := Am ((by rw [hg]; exact Nat.ne_of_gt (kL Aa.out) : Af ≠ Ae)); replace Aa := kBa Aa hb; clear hb hbox hg; have hnb21 := Ab.out; have hnc21 := Ac.out; obtain ⟨_, _, _, _, _, _, _, _, _, _⟩ := bc10 Aa.out; obtain ⟨_, _, _, _, _, _, _, _, _, _⟩ := bf10 Aa.out; obtain ⟨_, _, _, _, _, _, _, _, _, _⟩ := bc10 Ag.out; obtain ⟨_, _, _, _, _, _, _, _, _, _⟩ := bf10 Ag.out))
  go_ret
  exact ⟨pX, pE2 HB.out Ad.out Ah.out⟩
 rw [if_pos c5] at H
 have c5b0 : (a0_2 == a1_2) = true := beq_iff_eq.mpr c5
 have c5b1 : (a0_2 != a1_2) = false := bne_eq_false_iff_eq.mpr c5
 clear c5
 by_cases c6 : a0_3.toList = a1_3.toList
 rotate_left
 ·rw [if_neg c6] at H
  have c6b0 : (a0_3.toList == a1_3.toList) = false := beq_eq_false_iff_ne.mpr c6
  have c6b1 : (a0_3.toList != a1_3.toList) = true := bne_iff_ne.mpr c6
  obtain rfl := Option.some.inj H
  go_enter Try.func24, Try.ntmps24
  go_wp2_with (first | ((with_reducible refine gate_dst (N := 2) rfl ?_); refine box_event ?hg (N := 2) ?hd (cs := #[.int .i64 a0_0, .int .i64 a0_1, .int .i64 a0_2, .string a0_3, .bool a0_4, .slice A0_5 l0_5.length c0_5, .int .i64 a0_6, .int .i64 a0_7, .int .i64 a0_8, .int .u32 a0_9]) (t := 42) ?hr ?_; (case hd => rfl); (case hg => rfl); (case hr => first | (go_simp; done) | (go_simp; rfl)); intro Ae hg w14 hbox hb; have Aa := Am (hbox); have Ai := Am ((by rw [hg]; exact (below_size (pB HB.out)) : w.heap.size ≤ Ae)); replace HB := Am (below_step (pB HB.out) hb); have Ad := Ai; clear hb hbox hg) | ((with_reducible refine gate_dst (N := 3) rfl ?_); refine box_event ?hg (N := 3) ?hd (cs := #[.int .i64 a1_0, .int .i64 a1_1, .int .i64 a1_2, .string a1_3, .bool a1_4, .slice A1_5 l1_5.length c1_5, .int .i64 a1_6, .int .i64 a1_7, .int .i64 a1_8, .int .u32 a1_9]) (t := 42) ?hr ?_; (case hd => rfl); (case hg => rfl); (case hr => first | (go_simp; done) | (go_simp; rfl)); intro Af hg w15 hbox hb; have Ag := Am (hbox); have Aj := Am ((by rw [hg]; exact (below_size (pE HB.out Ad.out)) : w.heap.size ≤ Af)); replace HB := Am (below_step (pE HB.out Ad.out) hb); have Ah := Aj; have Ab := Am ((by rw [hg]; exact Nat.ne_of_lt (kL Aa.out) : Ae ≠ Af)); have Ac := Am ((by rw [hg]; exact Nat.ne_of_gt (kL Aa.out) : Af ≠ Ae)); replace Aa := kBa Aa hb; clear hb hbox hg; have hnb16 := Ab.out; have hnc16 := Ac.out; obtain ⟨_, _, _, _, _, _, _, _, _, _⟩ := bc10 Aa.out; obtain ⟨_, _, _, _, _, _, _, _, _, _⟩ := bf10 Aa.out; obtain ⟨_, _, _, _, _, _, _, _, _, _⟩ := bc10 Ag.out; obtain ⟨_, _, _, _, _, _, _, _, _, _⟩ := bf10 Ag.out))
  go_ret
  exact ⟨pX, pE2 HB.out Ad.out Ah.out⟩
 rw [if_pos c6] at H
 have c6b0 : (a0_3.toList == a1_3.toList) = true := beq_iff_eq.mpr c6
 have c6b1 : (a0_3.toList != a1_3.toList) = false := bne_eq_false_iff_eq.mpr c6
 clear c6
 replace H := Option.bind_eq_some_iff.mp H
 obtain ⟨t302, A70, H⟩ := H
 replace H : (some t302) = some r := H
 have A7 := Am A70
 clear A70
 obtain rfl := Option.some.inj H
 go_enter Try.func24, Try.ntmps24
 go_wp2_with (first | ((with_reducible refine gate_dst (N := 2) rfl ?_); refine box_event ?hg (N := 2) ?hd (cs := #[.int .i64 a0_0, .int .i64 a0_1, .int .i64 a0_2, .string a0_3, .bool a0_4, .slice A0_5 l0_5.length c0_5, .int .i64 a0_6, .int .i64 a0_7, .int .i64 a0_8, .int .u32 a0_9]) (t := 42) ?hr ?_; (case hd => rfl); (case hg => rfl); (case hr => first | (go_simp; done) | (go_simp; rfl)); intro Ae hg w8 hbox hb; have Aa := Am (hbox); have Ai := Am ((by rw [hg]; exact (below_size (pB HB.out)) : w.heap.size ≤ Ae)); replace HB := Am (below_step (pB HB.out) hb); have Ad := Ai; clear hb hbox hg) | ((with_reducible refine gate_dst (N := 3) rfl ?_); refine box_event ?hg (N := 3) ?hd (cs := #[.int .i64 a1_0, .int .i64 a1_1, .int .i64 a1_2, .string a1_3, .bool a1_4, .slice A1_5 l1_5.length c1_5, .int .i64 a1_6, .int .i64 a1_7, .int .i64 a1_8, .int .u32 a1_9]) (t := 42) ?hr ?_; (case hd => rfl); (case hg => rfl); (case hr => first | (go_simp; done) | (go_simp; rfl)); intro Af hg w9 hbox hb; have Ag := Am (hbox); have Aj := Am ((by rw [hg]; exact (below_size (pE HB.out Ad.out)) : w.heap.size ≤ Af)); replace HB := Am (below_step (pE HB.out Ad.out) hb); have Ah := Aj; have Ab := Am ((by rw [hg]; exact Nat.ne_of_lt (kL Aa.out) : Ae ≠ Af)); have Ac := Am ((by rw [hg]; exact Nat.ne_of_gt (kL Aa.out) : Af ≠ Ae)); replace Aa := kBa Aa hb; clear hb hbox hg; have hnb10 := Ab.out; have hnc10 := Ac.out; obtain ⟨_, _, _, _, _, _, _, _, _, _⟩ := bc10 Aa.out; obtain ⟨_, _, _, _, _, _, _, _, _, _⟩ := bf10 Aa.out; obtain ⟨_, _, _, _, _, _, _, _, _, _⟩ := bc10 Ag.out; obtain ⟨_, _, _, _, _, _, _, _, _, _⟩ := bf10 Ag.out) | (go_at_call 25; (with_reducible refine (cell_Same.calls a0_4 _ _ l0_5 a0_6 a0_7 a0_8 a0_9 a1_4 _ _ l1_5 a1_6 a1_7 a1_8 a1_9 t302 _ ?Ap ?Aq ?Ar ?As A7.out).mono ?_); (case Ap => exact pC (Kd.C_below Ak.out HB.out)); (case Aq => exact Al.out); (case Ar => exact pC (Kd.C_below An.out HB.out)); (case As => exact Ao.out); rintro e w13 ⟨rfl, hb⟩; replace Aa := kBa Aa hb; replace Ag := kBa Ag hb; replace HB := Am (below_step (pE2 HB.out Ad.out Ah.out) hb); (try clear hb); (try clear hb2); (try clear hk); (try clear hi)))
 go_ret
 exact ⟨pX, pE2 HB.out Ad.out Ah.out⟩
def slices_EqualFunc_api_Entry.l0 : Nat → List (S42) → List (S42) → Int → Int → Option (Bool)
 | 0, _, _, _, _ => none
 | k + 1, x1, x15, x16, x17 => if x17 < x16 then (if 0 ≤ x17 then (if x17 < (x15.length : Int) then (if x17 < (x1.length : Int) then ((entry_Same_1.f ((rd_T42 x15 x17).f0) ((rd_T42 x15 x17).f1) ((rd_T42 x15 x17).f2) ((rd_T42 x15 x17).f3) ((rd_T42 x15 x17).f4.f0) ((rd_T42 x15 x17).f4.f1) ((rd_T42 x15 x17).f4.f2.f0) ((rd_T42 x15 x17).f4.f2.f1) ((rd_T42 x15 x17).f4.f2.f2) ((rd_T42 x15 x17).f4.f2.f3) ((rd_T42 x1 x17).f0) ((rd_T42 x1 x17).f1) ((rd_T42 x1 x17).f2) ((rd_T42 x1 x17).f3) ((rd_T42 x1 x17).f4.f0) ((rd_T42 x1 x17).f4.f1) ((rd_T42 x1 x17).f4.f2.f0) ((rd_T42 x1 x17).f4.f2.f1) ((rd_T42 x1 x17).f4.f2.f2) ((rd_T42 x1 x17).f4.f2.f3)).bind fun t307 => (if t307 = true then (slices_EqualFunc_api_Entry.l0 k x1 x15 x16 (wrap64 (x17 + 1))) else (some false))) else (none)) else (none)) else (none)) else (some true)
def slices_EqualFunc_api_Entry.f (k : Nat) (l0 : List (S42)) (l1 : List (S42))  : Option (Bool) := if (l0.length : Int) = (l1.length : Int) then (slices_EqualFunc_api_Entry.l0 k l1 l0 (l0.length : Int) 0) else (some false)
theorem slices_EqualFunc_api_Entry.mono_l : ∀ k, (∀ y0 y1 y2 y3, LeO (slices_EqualFunc_api_Entry.l0 k y0 y1 y2 y3) (slices_EqualFunc_api_Entry.l0 (k + 1) y0 y1 y2 y3))
 | 0 => fun _ _ _ _ r h => by simp [slices_EqualFunc_api_Entry.l0] at h
 | k + 1 => by
  have ih0 := slices_EqualFunc_api_Entry.mono_l k
  ·intro y0 y1 y2 y3
   unfold slices_EqualFunc_api_Entry.l0
   repeat' first
   | (with_reducible exact ih0 _ _ _ _)
   | (with_reducible exact LeO.refl _)
   | (with_reducible exact LeO.none _)
   | (with_reducible refine LeO.ite ?_ ?_)
   | (with_reducible refine LeO.bind ?_ (fun _ => ?_))
   | exact ih0 _ _ _ _
   | exact LeO.none _
   | refine LeO.ite ?_ ?_
   | refine LeO.bind ?_ (fun _ => ?_)
theorem slices_EqualFunc_api_Entry.mono : ∀ a0 a1 k, LeO (slices_EqualFunc_api_Entry.f k a0 a1) (slices_EqualFunc_api_Entry.f (k + 1) a0 a1) := by
 intro a0 a1 k
 have ih0 := slices_EqualFunc_api_Entry.mono_l k
 unfold slices_EqualFunc_api_Entry.f
 repeat' first
   | (with_reducible exact ih0 _ _ _ _)
   | (with_reducible exact LeO.refl _)
   | (with_reducible exact LeO.none _)
   | (with_reducible refine LeO.ite ?_ ?_)
   | (with_reducible refine LeO.bind ?_ (fun _ => ?_))
   | exact ih0 _ _ _ _
   | exact LeO.none _
   | refine LeO.ite ?_ ?_
   | refine LeO.bind ?_ (fun _ => ?_)
set_option maxHeartbeats 8000000 in
set_option maxRecDepth 100000 in
theorem slices_EqualFunc_api_Entry.calls (k : Nat) (A0 : Option Addr) (c0 : Nat) (l0 : List (S42)) (A1 : Option Addr) (c1 : Nat) (l1 : List (S42))  (r : Bool) (w : World) (hr0 : Kd.C k42 w A0 l0.length l0) (hc0 : l0.length ≤ c0) (hr1 : Kd.C k42 w A1 l1.length l1) (hc1 : l1.length ≤ c1) (h : slices_EqualFunc_api_Entry.f k l0 l1 = some r) :
  Calls Try.prog 23 #[.slice A0 l0.length c0, .slice A1 l1.length c1, .func (.func 24) #[] #[]] w fun e w' => e = .returned (.bool r) ∧ Below w.heap.size w w' := by
 have hu42 := Try.underlying42
 have HR0 := Am hr0
 have HC0 := Am hc0
 clear hr0 hc0
 have HR1 := Am hr1
 have HC1 := Am hc1
 clear hr1 hc1
 have HB := Am (Below.refl w.heap.size w)
 have H : (if (l0.length : Int) = (l1.length : Int) then (slices_EqualFunc_api_Entry.l0 k l1 l0 (l0.length : Int) 0) else (some false)) = some r := h
 clear h
 by_cases c4 : (l0.length : Int) = (l1.length : Int)
 rotate_left
 ·rw [if_neg c4] at H
  have c4b0 : ((l0.length : Int) == (l1.length : Int)) = false := beq_eq_false_iff_ne.mpr c4
  have c4b1 : ((l0.length : Int) != (l1.length : Int)) = true := bne_iff_ne.mpr c4
  have c4b2 : (l0.length == l1.length) = false := by first | simpa using c4 | (simp at c4 ⊢; omega)
  obtain rfl := Option.some.inj H
  go_enter Try.func23, Try.ntmps23
  go_wp2
  go_ret
  exact ⟨pX, pB HB.out⟩
 rw [if_pos c4] at H
 have c4b0 : ((l0.length : Int) == (l1.length : Int)) = true := beq_iff_eq.mpr c4
 have c4b1 : ((l0.length : Int) != (l1.length : Int)) = false := bne_eq_false_iff_eq.mpr c4
 have c4b2 : (l0.length == l1.length) = true := by first | simpa using c4 | (simp at c4 ⊢; omega)
 clear c4
 have H' := Am H
 clear H
 go_enter Try.func23, Try.ntmps23
 go_wp2
 go_loopg [17] k (fun kq v17 w' => ∃ (Aa : Int), v17 = .int .i64 Aa ∧ Aside0 (slices_EqualFunc_api_Entry.l0 kq l1 l0 (l0.length : Int) Aa = some r) ∧ Aside0 (kq ≤ k) ∧ Aside0 (Below w.heap.size w w'))
 case atStart => exact ⟨(0), (by first | rfl | (simp; done) | (simp [*]; done)), H', ⟨Nat.le_refl _⟩, ⟨pB HB.out⟩⟩
 case round =>
  clear H'
  try clear c1
  try clear c2
  try clear p2
  try clear c4
  try clear c4b0
  try clear c4b1
  try clear c4b2
  obtain ⟨Aa, rfl, HA, HK1, HB⟩ := hrel
  cases gk with
  | zero => exact absurd HA.out (by simp [slices_EqualFunc_api_Entry.l0])
  | succ k1 =>
   have H := HA.out
   clear HA
   simp only [slices_EqualFunc_api_Entry.l0] at H
   by_cases c5 : Aa < (l0.length : Int)
   rotate_left
   ·rw [if_neg c5] at H
    have c5b0 : decide (Aa < (l0.length : Int)) = false := decide_eq_false c5
    clear c5
    obtain rfl := Option.some.inj H
    go_wp2
    go_ret
    exact ⟨pX, pB HB.out⟩
   rw [if_pos c5] at H
   have c5b0 : decide (Aa < (l0.length : Int)) = true := decide_eq_true c5
   clear c5
   by_cases c6 : 0 ≤ Aa
   rotate_left
   ·rw [if_neg c6] at H
    exact absurd H (by simp)
   rw [if_pos c6] at H
   have c6b0 : decide (0 ≤ Aa) = true := decide_eq_true c6
   clear c6
   by_cases c7 : Aa < (l0.length : Int)
   rotate_left
   ·rw [if_neg c7] at H
    exact absurd H (by simp)
   rw [if_pos c7] at H
   have c7b0 : decide (Aa < (l0.length : Int)) = true := decide_eq_true c7
   clear c7
   by_cases c8 : Aa < (l1.length : Int)
   rotate_left
   ·rw [if_neg c8] at H
    exact absurd H (by simp)
   rw [if_pos c8] at H
   have c8b0 : decide (Aa < (l1.length : Int)) = true := decide_eq_true c8
   clear c8
   replace H := Option.bind_eq_some_iff.mp H
   obtain ⟨t307, A90, H⟩ := H
   replace H : (if t307 = true then (slices_EqualFunc_api_Entry.l0 k1 l1 l0 (l0.length : Int) (wrap64 (Aa + 1))) else (some false)) = some r := H
   have A9 := Am A90
   clear A90
   by_cases c10 : t307 = true
   rotate_left
   ·replace c10 := Bool.eq_false_iff.mpr c10
    subst c10
    have H1 : (some false) = some r := by rw [if_neg (show ¬ (false = true) by decide)] at H; exact H
    clear H
    have H := H1
    clear H1
    obtain rfl := Option.some.inj H
    have p303 : 0 ≤ (Aa : Int) := of_decide_eq_true pS
    have q303 : Aa < (l0.length : Int) := of_decide_eq_true pS
    obtain ⟨Bo, An, c303_5, e303, Bd, Be, Bf, Bg, Bh, Bi, Bj, Bk, Bl, Bm, Aw, Ax⟩ := at_T42u HR0.out Aa p303 q303 HB.out
    cases e303
    have A3 := Am Ax
    have A4 := Am Aw
    clear Ax Aw
    replace p303 := eq_true p303
    replace q303 := eq_true q303
    go_wp2_with (first | ((with_reducible refine gate_dst (N := 8) rfl ?_); refine box_event ?hg (N := 8) ?hd (cs := #[.int .i64 0, .int .i64 0, .int .i64 0, .string (⟨#[]⟩ : ByteArray), .bool false, .slice none 0 0, .int .i64 0, .int .i64 0, .int .i64 0, .int .u32 0]) (t := 42) ?hr ?_; (case hd => rfl); (case hg => rfl); (case hr => first | (go_simp; done) | (go_simp; rfl)); intro Ab hg w18 hbox hb; have Ap := Am (hbox); have Ao := Am ((by rw [hg]; exact (below_size (pB HB.out)) : w.heap.size ≤ Ab)); replace HB := Am (below_step (pB HB.out) hb); have Ar := Ao; clear hb hbox hg; obtain ⟨_, _, _, _, _, _, _, _, _, _⟩ := bc10 Ap.out; obtain ⟨_, _, _, _, _, _, _, _, _, _⟩ := bf10 Ap.out; have p305 : 0 ≤ (Aa : Int) := of_decide_eq_true pS; have q305 : Aa < (l1.length : Int) := of_decide_eq_true pS; obtain ⟨Aq, Bn, c305_5, e305, Ac, Ad, Ae, Af, Ag, Ah, Ai, Aj, Ak, Al, Ay, Az⟩ := at_T42 HR1.out Aa p305 q305; cases e305; have hn305_0 : Aq.block ≠ Ab := Nat.ne_of_lt (Nat.lt_of_lt_of_le (by have := World.block_lt_of_cell? _ _ Ac; first | rwa [add_block] at this | exact this) Ao.out); have hn305_1 : Aq.block ≠ Ab := Nat.ne_of_lt (Nat.lt_of_lt_of_le (by have := World.block_lt_of_cell? _ _ Ac; first | rwa [add_block] at this | exact this) Ao.out); have hn305_2 : Aq.block ≠ Ab := Nat.ne_of_lt (Nat.lt_of_lt_of_le (by have := World.block_lt_of_cell? _ _ Ac; first | rwa [add_block] at this | exact this) Ao.out); have hn305_3 : Aq.block ≠ Ab := Nat.ne_of_lt (Nat.lt_of_lt_of_le (by have := World.block_lt_of_cell? _ _ Ac; first | rwa [add_block] at this | exact this) Ao.out); have hn305_4 : Aq.block ≠ Ab := Nat.ne_of_lt (Nat.lt_of_lt_of_le (by have := World.block_lt_of_cell? _ _ Ac; first | rwa [add_block] at this | exact this) Ao.out); have hn305_5 : Aq.block ≠ Ab := Nat.ne_of_lt (Nat.lt_of_lt_of_le (by have := World.block_lt_of_cell? _ _ Ac; first | rwa [add_block] at this | exact this) Ao.out); have hn305_6 : Aq.block ≠ Ab := Nat.ne_of_lt (Nat.lt_of_lt_of_le (by have := World.block_lt_of_cell? _ _ Ac; first | rwa [add_block] at this | exact this) Ao.out); have hn305_7 : Aq.block ≠ Ab := Nat.ne_of_lt (Nat.lt_of_lt_of_le (by have := World.block_lt_of_cell? _ _ Ac; first | rwa [add_block] at this | exact this) Ao.out); have hn305_8 : Aq.block ≠ Ab := Nat.ne_of_lt (Nat.lt_of_lt_of_le (by have := World.block_lt_of_cell? _ _ Ac; first | rwa [add_block] at this | exact this) Ao.out); have hn305_9 : Aq.block ≠ Ab := Nat.ne_of_lt (Nat.lt_of_lt_of_le (by have := World.block_lt_of_cell? _ _ Ac; first | rwa [add_block] at this | exact this) Ao.out); replace Ac := cU HB.out Ac; replace Ad := cU HB.out Ad; replace Ae := cU HB.out Ae; replace Af := cU HB.out Af; replace Ag := cU HB.out Ag; replace Ah := cU HB.out Ah; replace Ai := cU HB.out Ai; replace Aj := cU HB.out Aj; replace Ak := cU HB.out Ak; replace Al := cU HB.out Al; have A5 := Am Az; have A6 := Am Ay; clear Az Ay; replace Ac := (cell_far (p := ⟨Ab, 0, none⟩) (pA hn305_0) (.int .i64 ((rd_T42 l0 Aa).f0))).trans Ac; replace Ad := (cell_far (p := ⟨Ab, 0, none⟩) (pA hn305_0) (.int .i64 ((rd_T42 l0 Aa).f0))).trans Ad; replace Ae := (cell_far (p := ⟨Ab, 0, none⟩) (pA hn305_0) (.int .i64 ((rd_T42 l0 Aa).f0))).trans Ae; replace Af := (cell_far (p := ⟨Ab, 0, none⟩) (pA hn305_0) (.int .i64 ((rd_T42 l0 Aa).f0))).trans Af; replace Ag := (cell_far (p := ⟨Ab, 0, none⟩) (pA hn305_0) (.int .i64 ((rd_T42 l0 Aa).f0))).trans Ag; replace Ah := (cell_far (p := ⟨Ab, 0, none⟩) (pA hn305_0) (.int .i64 ((rd_T42 l0 Aa).f0))).trans Ah; replace Ai := (cell_far (p := ⟨Ab, 0, none⟩) (pA hn305_0) (.int .i64 ((rd_T42 l0 Aa).f0))).trans Ai; replace Aj := (cell_far (p := ⟨Ab, 0, none⟩) (pA hn305_0) (.int .i64 ((rd_T42 l0 Aa).f0))).trans Aj; replace Ak := (cell_far (p := ⟨Ab, 0, none⟩) (pA hn305_0) (.int .i64 ((rd_T42 l0 Aa).f0))).trans Ak; replace Al := (cell_far (p := ⟨Ab, 0, none⟩) (pA hn305_0) (.int .i64 ((rd_T42 l0 Aa).f0))).trans Al; replace Ac := (cell_far (p := ⟨Ab, 1, none⟩) (pA hn305_1) (.int .i64 ((rd_T42 l0 Aa).f1))).trans Ac; replace Ad := (cell_far (p := ⟨Ab, 1, none⟩) (pA hn305_1) (.int .i64 ((rd_T42 l0 Aa).f1))).trans Ad; replace Ae := (cell_far (p := ⟨Ab, 1, none⟩) (pA hn305_1) (.int .i64 ((rd_T42 l0 Aa).f1))).trans Ae; replace Af := (cell_far (p := ⟨Ab, 1, none⟩) (pA hn305_1) (.int .i64 ((rd_T42 l0 Aa).f1))).trans Af; replace Ag := (cell_far (p := ⟨Ab, 1, none⟩) (pA hn305_1) (.int .i64 ((rd_T42 l0 Aa).f1))).trans Ag; replace Ah := (cell_far (p := ⟨Ab, 1, none⟩) (pA hn305_1) (.int .i64 ((rd_T42 l0 Aa).f1))).trans Ah; replace Ai := (cell_far (p := ⟨Ab, 1, none⟩) (pA hn305_1) (.int .i64 ((rd_T42 l0 Aa).f1))).trans Ai; replace Aj := (cell_far (p := ⟨Ab, 1, none⟩) (pA hn305_1) (.int .i64 ((rd_T42 l0 Aa).f1))).trans Aj; replace Ak := (cell_far (p := ⟨Ab, 1, none⟩) (pA hn305_1) (.int .i64 ((rd_T42 l0 Aa).f1))).trans Ak; replace Al := (cell_far (p := ⟨Ab, 1, none⟩) (pA hn305_1) (.int .i64 ((rd_T42 l0 Aa).f1))).trans Al; replace Ac := (cell_far (p := ⟨Ab, 2, none⟩) (pA hn305_2) (.int .i64 ((rd_T42 l0 Aa).f2))).trans Ac; replace Ad := (cell_far (p := ⟨Ab, 2, none⟩) (pA hn305_2) (.int .i64 ((rd_T42 l0 Aa).f2))).trans Ad; replace Ae := (cell_far (p := ⟨Ab, 2, none⟩) (pA hn305_2) (.int .i64 ((rd_T42 l0 Aa).f2))).trans Ae; replace Af := (cell_far (p := ⟨Ab, 2, none⟩) (pA hn305_2) (.int .i64 ((rd_T42 l0 Aa).f2))).trans Af; replace Ag := (cell_far (p := ⟨Ab, 2, none⟩) (pA hn305_2) (.int .i64 ((rd_T42 l0 Aa).f2))).trans Ag; replace Ah := (cell_far (p := ⟨Ab, 2, none⟩) (pA hn305_2) (.int .i64 ((rd_T42 l0 Aa).f2))).trans Ah; replace Ai := (cell_far (p := ⟨Ab, 2, none⟩) (pA hn305_2) (.int .i64 ((rd_T42 l0 Aa).f2))).trans Ai; replace Aj := (cell_far (p := ⟨Ab, 2, none⟩) (pA hn305_2) (.int .i64 ((rd_T42 l0 Aa).f2))).trans Aj; replace Ak := (cell_far (p := ⟨Ab, 2, none⟩) (pA hn305_2) (.int .i64 ((rd_T42 l0 Aa).f2))).trans Ak; replace Al := (cell_far (p := ⟨Ab, 2, none⟩) (pA hn305_2) (.int .i64 ((rd_T42 l0 Aa).f2))).trans Al; replace Ac := (cell_far (p := ⟨Ab, 3, none⟩) (pA hn305_3) (.string ((rd_T42 l0 Aa).f3))).trans Ac; replace Ad := (cell_far (p := ⟨Ab, 3, none⟩) (pA hn305_3) (.string ((rd_T42 l0 Aa).f3))).trans Ad; replace Ae := (cell_far (p := ⟨Ab, 3, none⟩) (pA hn305_3) (.string ((rd_T42 l0 Aa).f3))).trans Ae; replace Af := (cell_far (p := ⟨Ab, 3, none⟩) (pA hn305_3) (.string ((rd_T42 l0 Aa).f3))).trans Af; replace Ag := (cell_far (p := ⟨Ab, 3, none⟩) (pA hn305_3) (.string ((rd_T42 l0 Aa).f3))).trans Ag; replace Ah := (cell_far (p := ⟨Ab, 3, none⟩) (pA hn305_3) (.string ((rd_T42 l0 Aa).f3))).trans Ah; replace Ai := (cell_far (p := ⟨Ab, 3, none⟩) (pA hn305_3) (.string ((rd_T42 l0 Aa).f3))).trans Ai; replace Aj := (cell_far (p := ⟨Ab, 3, none⟩) (pA hn305_3) (.string ((rd_T42 l0 Aa).f3))).trans Aj; replace Ak := (cell_far (p := ⟨Ab, 3, none⟩) (pA hn305_3) (.string ((rd_T42 l0 Aa).f3))).trans Ak; replace Al := (cell_far (p := ⟨Ab, 3, none⟩) (pA hn305_3) (.string ((rd_T42 l0 Aa).f3))).trans Al; replace Ac := (cell_far (p := ⟨Ab, 4, none⟩) (pA hn305_4) (.bool ((rd_T42 l0 Aa).f4.f0))).trans Ac; replace Ad := (cell_far (p := ⟨Ab, 4, none⟩) (pA hn305_4) (.bool ((rd_T42 l0 Aa).f4.f0))).trans Ad; replace Ae := (cell_far (p := ⟨Ab, 4, none⟩) (pA hn305_4) (.bool ((rd_T42 l0 Aa).f4.f0))).trans Ae; replace Af := (cell_far (p := ⟨Ab, 4, none⟩) (pA hn305_4) (.bool ((rd_T42 l0 Aa).f4.f0))).trans Af; replace Ag := (cell_far (p := ⟨Ab, 4, none⟩) (pA hn305_4) (.bool ((rd_T42 l0 Aa).f4.f0))).trans Ag; replace Ah := (cell_far (p := ⟨Ab, 4, none⟩) (pA hn305_4) (.bool ((rd_T42 l0 Aa).f4.f0))).trans Ah; replace Ai := (cell_far (p := ⟨Ab, 4, none⟩) (pA hn305_4) (.bool ((rd_T42 l0 Aa).f4.f0))).trans Ai; replace Aj := (cell_far (p := ⟨Ab, 4, none⟩) (pA hn305_4) (.bool ((rd_T42 l0 Aa).f4.f0))).trans Aj; replace Ak := (cell_far (p := ⟨Ab, 4, none⟩) (pA hn305_4) (.bool ((rd_T42 l0 Aa).f4.f0))).trans Ak; replace Al := (cell_far (p := ⟨Ab, 4, none⟩) (pA hn305_4) (.bool ((rd_T42 l0 Aa).f4.f0))).trans Al; replace Ac := (cell_far (p := ⟨Ab, 5, none⟩) (pA hn305_5) (.slice An ((rd_T42 l0 Aa).f4.f1).length c303_5)).trans Ac; replace Ad := (cell_far (p := ⟨Ab, 5, none⟩) (pA hn305_5) (.slice An ((rd_T42 l0 Aa).f4.f1).length c303_5)).trans Ad; replace Ae := (cell_far (p := ⟨Ab, 5, none⟩) (pA hn305_5) (.slice An ((rd_T42 l0 Aa).f4.f1).length c303_5)).trans Ae; replace Af := (cell_far (p := ⟨Ab, 5, none⟩) (pA hn305_5) (.slice An ((rd_T42 l0 Aa).f4.f1).length c303_5)).trans Af; replace Ag := (cell_far (p := ⟨Ab, 5, none⟩) (pA hn305_5) (.slice An ((rd_T42 l0 Aa).f4.f1).length c303_5)).trans Ag; replace Ah := (cell_far (p := ⟨Ab, 5, none⟩) (pA hn305_5) (.slice An ((rd_T42 l0 Aa).f4.f1).length c303_5)).trans Ah; replace Ai := (cell_far (p := ⟨Ab, 5, none⟩) (pA hn305_5) (.slice An ((rd_T42 l0 Aa).f4.f1).length c303_5)).trans Ai; replace Aj := (cell_far (p := ⟨Ab, 5, none⟩) (pA hn305_5) (.slice An ((rd_T42 l0 Aa).f4.f1).length c303_5)).trans Aj; replace Ak := (cell_far (p := ⟨Ab, 5, none⟩) (pA hn305_5) (.slice An ((rd_T42 l0 Aa).f4.f1).length c303_5)).trans Ak; replace Al := (cell_far (p := ⟨Ab, 5, none⟩) (pA hn305_5) (.slice An ((rd_T42 l0 Aa).f4.f1).length c303_5)).trans Al; replace Ac := (cell_far (p := ⟨Ab, 6, none⟩) (pA hn305_6) (.int .i64 ((rd_T42 l0 Aa).f4.f2.f0))).trans Ac; replace Ad := (cell_far (p := ⟨Ab, 6, none⟩) (pA hn305_6) (.int .i64 ((rd_T42 l0 Aa).f4.f2.f0))).trans Ad; replace Ae := (cell_far (p := ⟨Ab, 6, none⟩) (pA hn305_6) (.int .i64 ((rd_T42 l0 Aa).f4.f2.f0))).trans Ae; replace Af := (cell_far (p := ⟨Ab, 6, none⟩) (pA hn305_6) (.int .i64 ((rd_T42 l0 Aa).f4.f2.f0))).trans Af; replace Ag := (cell_far (p := ⟨Ab, 6, none⟩) (pA hn305_6) (.int .i64 ((rd_T42 l0 Aa).f4.f2.f0))).trans Ag; replace Ah := (cell_far (p := ⟨Ab, 6, none⟩) (pA hn305_6) (.int .i64 ((rd_T42 l0 Aa).f4.f2.f0))).trans Ah; replace Ai := (cell_far (p := ⟨Ab, 6, none⟩) (pA hn305_6) (.int .i64 ((rd_T42 l0 Aa).f4.f2.f0))).trans Ai; replace Aj := (cell_far (p := ⟨Ab, 6, none⟩) (pA hn305_6) (.int .i64 ((rd_T42 l0 Aa).f4.f2.f0))).trans Aj; replace Ak := (cell_far (p := ⟨Ab, 6, none⟩) (pA hn305_6) (.int .i64 ((rd_T42 l0 Aa).f4.f2.f0))).trans Ak; replace Al := (cell_far (p := ⟨Ab, 6, none⟩) (pA hn305_6) (.int .i64 ((rd_T42 l0 Aa).f4.f2.f0))).trans Al; replace Ac := (cell_far (p := ⟨Ab, 7, none⟩) (pA hn305_7) (.int .i64 ((rd_T42 l0 Aa).f4.f2.f1))).trans Ac; replace Ad := (cell_far (p := ⟨Ab, 7, none⟩) (pA hn305_7) (.int .i64 ((rd_T42 l0 Aa).f4.f2.f1))).trans Ad; replace Ae := (cell_far (p := ⟨Ab, 7, none⟩) (pA hn305_7) (.int .i64 ((rd_T42 l0 Aa).f4.f2.f1))).trans Ae; replace Af := (cell_far (p := ⟨Ab, 7, none⟩) (pA hn305_7) (.int .i64 ((rd_T42 l0 Aa).f4.f2.f1))).trans Af; replace Ag := (cell_far (p := ⟨Ab, 7, none⟩) (pA hn305_7) (.int .i64 ((rd_T42 l0 Aa).f4.f2.f1))).trans Ag; replace Ah := (cell_far (p := ⟨Ab, 7, none⟩) (pA hn305_7) (.int .i64 ((rd_T42 l0 Aa).f4.f2.f1))).trans Ah; replace Ai := (cell_far (p := ⟨Ab, 7, none⟩) (pA hn305_7) (.int .i64 ((rd_T42 l0 Aa).f4.f2.f1))).trans Ai; replace Aj := (cell_far (p := ⟨Ab, 7, none⟩) (pA hn305_7) (.int .i64 ((rd_T42 l0 Aa).f4.f2.f1))).trans Aj; replace Ak := (cell_far (p := ⟨Ab, 7, none⟩) (pA hn305_7) (.int .i64 ((rd_T42 l0 Aa).f4.f2.f1))).trans Ak; replace Al := (cell_far (p := ⟨Ab, 7, none⟩) (pA hn305_7) (.int .i64 ((rd_T42 l0 Aa).f4.f2.f1))).trans Al; replace Ac := (cell_far (p := ⟨Ab, 8, none⟩) (pA hn305_8) (.int .i64 ((rd_T42 l0 Aa).f4.f2.f2))).trans Ac; replace Ad := (cell_far (p := ⟨Ab, 8, none⟩) (pA hn305_8) (.int .i64 ((rd_T42 l0 Aa).f4.f2.f2))).trans Ad; replace Ae := (cell_far (p := ⟨Ab, 8, none⟩) (pA hn305_8) (.int .i64 ((rd_T42 l0 Aa).f4.f2.f2))).trans Ae; replace Af := (cell_far (p := ⟨Ab, 8, none⟩) (pA hn305_8) (.int .i64 ((rd_T42 l0 Aa).f4.f2.f2))).trans Af; replace Ag := (cell_far (p := ⟨Ab, 8, none⟩) (pA hn305_8) (.int .i64 ((rd_T42 l0 Aa).f4.f2.f2))).trans Ag; replace Ah := (cell_far (p := ⟨Ab, 8, none⟩) (pA hn305_8) (.int .i64 ((rd_T42 l0 Aa).f4.f2.f2))).trans Ah; replace Ai := (cell_far (p := ⟨Ab, 8, none⟩) (pA hn305_8) (.int .i64 ((rd_T42 l0 Aa).f4.f2.f2))).trans Ai; replace Aj := (cell_far (p := ⟨Ab, 8, none⟩) (pA hn305_8) (.int .i64 ((rd_T42 l0 Aa).f4.f2.f2))).trans Aj; replace Ak := (cell_far (p := ⟨Ab, 8, none⟩) (pA hn305_8) (.int .i64 ((rd_T42 l0 Aa).f4.f2.f2))).trans Ak; replace Al := (cell_far (p := ⟨Ab, 8, none⟩) (pA hn305_8) (.int .i64 ((rd_T42 l0 Aa).f4.f2.f2))).trans Al; replace Ac := (cell_far (p := ⟨Ab, 9, none⟩) (pA hn305_9) (.int .u32 ((rd_T42 l0 Aa).f4.f2.f3))).trans Ac; replace Ad := (cell_far (p := ⟨Ab, 9, none⟩) (pA hn305_9) (.int .u32 ((rd_T42 l0 Aa).f4.f2.f3))).trans Ad; replace Ae := (cell_far (p := ⟨Ab, 9, none⟩) (pA hn305_9) (.int .u32 ((rd_T42 l0 Aa).f4.f2.f3))).trans Ae; replace Af := (cell_far (p := ⟨Ab, 9, none⟩) (pA hn305_9) (.int .u32 ((rd_T42 l0 Aa).f4.f2.f3))).trans Af; replace Ag := (cell_far (p := ⟨Ab, 9, none⟩) (pA hn305_9) (.int .u32 ((rd_T42 l0 Aa).f4.f2.f3))).trans Ag; replace Ah := (cell_far (p := ⟨Ab, 9, none⟩) (pA hn305_9) (.int .u32 ((rd_T42 l0 Aa).f4.f2.f3))).trans Ah; replace Ai := (cell_far (p := ⟨Ab, 9, none⟩) (pA hn305_9) (.int .u32 ((rd_T42 l0 Aa).f4.f2.f3))).trans Ai; replace Aj := (cell_far (p := ⟨Ab, 9, none⟩) (pA hn305_9) (.int .u32 ((rd_T42 l0 Aa).f4.f2.f3))).trans Aj; replace Ak := (cell_far (p := ⟨Ab, 9, none⟩) (pA hn305_9) (.int .u32 ((rd_T42 l0 Aa).f4.f2.f3))).trans Ak; replace Al := (cell_far (p := ⟨Ab, 9, none⟩) (pA hn305_9) (.int .u32 ((rd_T42 l0 Aa).f4.f2.f3))).trans Al; clear hn305_0 hn305_1 hn305_2 hn305_3 hn305_4 hn305_5 hn305_6 hn305_7 hn305_8 hn305_9; replace p305 := eq_true p305; replace q305 := eq_true q305) | ((with_reducible refine gate_dst (N := 9) rfl ?_); refine box_event ?hg (N := 9) ?hd (cs := #[.int .i64 0, .int .i64 0, .int .i64 0, .string (⟨#[]⟩ : ByteArray), .bool false, .slice none 0 0, .int .i64 0, .int .i64 0, .int .i64 0, .int .u32 0]) (t := 42) ?hr ?_; (case hd => rfl); (case hg => rfl); (case hr => first | (go_simp; done) | (go_simp; rfl)); intro At hg w20 hbox hb; have Au := Am (hbox); have A7 := Am ((by rw [hg]; exact (below_size (pE HB.out Ar.out)) : w.heap.size ≤ At)); replace HB := Am (below_step (pE HB.out Ar.out) hb); have Av := A7; have As := Am ((by rw [hg]; exact Nat.ne_of_lt (blk_lt (g := Ab) (o := .cells #[.int .i64 ((rd_T42 l0 Aa).f0), .int .i64 ((rd_T42 l0 Aa).f1), .int .i64 ((rd_T42 l0 Aa).f2), .string ((rd_T42 l0 Aa).f3), .bool ((rd_T42 l0 Aa).f4.f0), .slice An ((rd_T42 l0 Aa).f4.f1).length c303_5, .int .i64 ((rd_T42 l0 Aa).f4.f2.f0), .int .i64 ((rd_T42 l0 Aa).f4.f2.f1), .int .i64 ((rd_T42 l0 Aa).f4.f2.f2), .int .u32 ((rd_T42 l0 Aa).f4.f2.f3)] 42 (0, 0)) (kX0 Ap.out)) : Ab ≠ At)); have A2 := Am ((by rw [hg]; exact Nat.ne_of_gt (blk_lt (g := Ab) (o := .cells #[.int .i64 ((rd_T42 l0 Aa).f0), .int .i64 ((rd_T42 l0 Aa).f1), .int .i64 ((rd_T42 l0 Aa).f2), .string ((rd_T42 l0 Aa).f3), .bool ((rd_T42 l0 Aa).f4.f0), .slice An ((rd_T42 l0 Aa).f4.f1).length c303_5, .int .i64 ((rd_T42 l0 Aa).f4.f2.f0), .int .i64 ((rd_T42 l0 Aa).f4.f2.f1), .int .i64 ((rd_T42 l0 Aa).f4.f2.f2), .int .u32 ((rd_T42 l0 Aa).f4.f2.f3)] 42 (0, 0)) (kX0 Ap.out)) : At ≠ Ab)); replace Ap := Am (blk_below (g := Ab) (kX0 Ap.out) hb); clear hb hbox hg; have hnb21 := A2.out; have hnc21 := As.out; obtain ⟨_, _, _, _, _, _, _, _, _, _⟩ := bc10 Au.out; obtain ⟨_, _, _, _, _, _, _, _, _, _⟩ := bf10 Au.out; obtain ⟨_, _, _, _, _, _, _, _, _, _⟩ := bc10 Ap.out; obtain ⟨_, _, _, _, _, _, _, _, _, _⟩ := bf10 Ap.out) | (go_at_call 24; (with_reducible refine (entry_Same_1.calls ((rd_T42 l0 Aa).f0) ((rd_T42 l0 Aa).f1) ((rd_T42 l0 Aa).f2) ((rd_T42 l0 Aa).f3) ((rd_T42 l0 Aa).f4.f0) _ _ ((rd_T42 l0 Aa).f4.f1) ((rd_T42 l0 Aa).f4.f2.f0) ((rd_T42 l0 Aa).f4.f2.f1) ((rd_T42 l0 Aa).f4.f2.f2) ((rd_T42 l0 Aa).f4.f2.f3) ((rd_T42 l1 Aa).f0) ((rd_T42 l1 Aa).f1) ((rd_T42 l1 Aa).f2) ((rd_T42 l1 Aa).f3) ((rd_T42 l1 Aa).f4.f0) _ _ ((rd_T42 l1 Aa).f4.f1) ((rd_T42 l1 Aa).f4.f2.f0) ((rd_T42 l1 Aa).f4.f2.f1) ((rd_T42 l1 Aa).f4.f2.f2) ((rd_T42 l1 Aa).f4.f2.f3) false _ ?A8 ?Ba ?Bb ?Bc A9.out).mono ?_); (case A8 => exact Kd.C_below A3.out (pE2 HB.out Ar.out Av.out)); (case Ba => exact A4.out); (case Bb => exact Kd.C_below A5.out (pE2 HB.out Ar.out Av.out)); (case Bc => exact A6.out); rintro e w24 ⟨rfl, hb⟩; replace Ap := Am (blk_below (g := Ab) (kX1 Ap.out As.out) hb); replace Au := Am (blk_below (g := At) (kX0 Au.out) hb); replace HB := Am (below_step (pE2 HB.out Ar.out Av.out) hb); (try clear hb); (try clear hb2); (try clear hk); (try clear hi)))
    go_ret
    exact ⟨pX, pE2 HB.out Ar.out Av.out⟩
   subst c10
   have H1 : (slices_EqualFunc_api_Entry.l0 k1 l1 l0 (l0.length : Int) (wrap64 (Aa + 1))) = some r := by rw [if_pos rfl] at H; exact H
   clear H
   have H := H1
   clear H1
   have H' := Am H
   clear H
   have p303 : 0 ≤ (Aa : Int) := of_decide_eq_true pS
   have q303 : Aa < (l0.length : Int) := of_decide_eq_true pS
   obtain ⟨Bo, An, c303_5, e303, Bd, Be, Bf, Bg, Bh, Bi, Bj, Bk, Bl, Bm, Aw, Ax⟩ := at_T42u HR0.out Aa p303 q303 HB.out
   cases e303
   have A3 := Am Ax
   have A4 := Am Aw
   clear Ax Aw
   replace p303 := eq_true p303
   replace q303 := eq_true q303
   go_wp2_with (first | ((with_reducible refine gate_dst (N := 8) rfl ?_); refine box_event ?hg (N := 8) ?hd (cs := #[.int .i64 0, .int .i64 0, .int .i64 0, .string (⟨#[]⟩ : ByteArray), .bool false, .slice none 0 0, .int .i64 0, .int .i64 0, .int .i64 0, .int .u32 0]) (t := 42) ?hr ?_; (case hd => rfl); (case hg => rfl); (case hr => first | (go_simp; done) | (go_simp; rfl)); intro Ab hg w11 hbox hb; have Ap := Am (hbox); have Ao := Am ((by rw [hg]; exact (below_size (pB HB.out)) : w.heap.size ≤ Ab)); replace HB := Am (below_step (pB HB.out) hb); have Ar := Ao; clear hb hbox hg; obtain ⟨_, _, _, _, _, _, _, _, _, _⟩ := bc10 Ap.out; obtain ⟨_, _, _, _, _, _, _, _, _, _⟩ := bf10 Ap.out; have p305 : 0 ≤ (Aa : Int) := of_decide_eq_true pS; have q305 : Aa < (l1.length : Int) := of_decide_eq_true pS; obtain ⟨Aq, Bn, c305_5, e305, Ac, Ad, Ae, Af, Ag, Ah, Ai, Aj, Ak, Al, Ay, Az⟩ := at_T42 HR1.out Aa p305 q305; cases e305; have hn305_0 : Aq.block ≠ Ab := Nat.ne_of_lt (Nat.lt_of_lt_of_le (by have := World.block_lt_of_cell? _ _ Ac; first | rwa [add_block] at this | exact this) Ao.out); have hn305_1 : Aq.block ≠ Ab := Nat.ne_of_lt (Nat.lt_of_lt_of_le (by have := World.block_lt_of_cell? _ _ Ac; first | rwa [add_block] at this | exact this) Ao.out); have hn305_2 : Aq.block ≠ Ab := Nat.ne_of_lt (Nat.lt_of_lt_of_le (by have := World.block_lt_of_cell? _ _ Ac; first | rwa [add_block] at this | exact this) Ao.out); have hn305_3 : Aq.block ≠ Ab := Nat.ne_of_lt (Nat.lt_of_lt_of_le (by have := World.block_lt_of_cell? _ _ Ac; first | rwa [add_block] at this | exact this) Ao.out); have hn305_4 : Aq.block ≠ Ab := Nat.ne_of_lt (Nat.lt_of_lt_of_le (by have := World.block_lt_of_cell? _ _ Ac; first | rwa [add_block] at this | exact this) Ao.out); have hn305_5 : Aq.block ≠ Ab := Nat.ne_of_lt (Nat.lt_of_lt_of_le (by have := World.block_lt_of_cell? _ _ Ac; first | rwa [add_block] at this | exact this) Ao.out); have hn305_6 : Aq.block ≠ Ab := Nat.ne_of_lt (Nat.lt_of_lt_of_le (by have := World.block_lt_of_cell? _ _ Ac; first | rwa [add_block] at this | exact this) Ao.out); have hn305_7 : Aq.block ≠ Ab := Nat.ne_of_lt (Nat.lt_of_lt_of_le (by have := World.block_lt_of_cell? _ _ Ac; first | rwa [add_block] at this | exact this) Ao.out); have hn305_8 : Aq.block ≠ Ab := Nat.ne_of_lt (Nat.lt_of_lt_of_le (by have := World.block_lt_of_cell? _ _ Ac; first | rwa [add_block] at this | exact this) Ao.out); have hn305_9 : Aq.block ≠ Ab := Nat.ne_of_lt (Nat.lt_of_lt_of_le (by have := World.block_lt_of_cell? _ _ Ac; first | rwa [add_block] at this | exact this) Ao.out); replace Ac := cU HB.out Ac; replace Ad := cU HB.out Ad; replace Ae := cU HB.out Ae; replace Af := cU HB.out Af; replace Ag := cU HB.out Ag; replace Ah := cU HB.out Ah; replace Ai := cU HB.out Ai; replace Aj := cU HB.out Aj; replace Ak := cU HB.out Ak; replace Al := cU HB.out Al; have A5 := Am Az; have A6 := Am Ay; clear Az Ay; replace Ac := (cell_far (p := ⟨Ab, 0, none⟩) (pA hn305_0) (.int .i64 ((rd_T42 l0 Aa).f0))).trans Ac; replace Ad := (cell_far (p := ⟨Ab, 0, none⟩) (pA hn305_0) (.int .i64 ((rd_T42 l0 Aa).f0))).trans Ad; replace Ae := (cell_far (p := ⟨Ab, 0, none⟩) (pA hn305_0) (.int .i64 ((rd_T42 l0 Aa).f0))).trans Ae; replace Af := (cell_far (p := ⟨Ab, 0, none⟩) (pA hn305_0) (.int .i64 ((rd_T42 l0 Aa).f0))).trans Af; replace Ag := (cell_far (p := ⟨Ab, 0, none⟩) (pA hn305_0) (.int .i64 ((rd_T42 l0 Aa).f0))).trans Ag; replace Ah := (cell_far (p := ⟨Ab, 0, none⟩) (pA hn305_0) (.int .i64 ((rd_T42 l0 Aa).f0))).trans Ah; replace Ai := (cell_far (p := ⟨Ab, 0, none⟩) (pA hn305_0) (.int .i64 ((rd_T42 l0 Aa).f0))).trans Ai; replace Aj := (cell_far (p := ⟨Ab, 0, none⟩) (pA hn305_0) (.int .i64 ((rd_T42 l0 Aa).f0))).trans Aj; replace Ak := (cell_far (p := ⟨Ab, 0, none⟩) (pA hn305_0) (.int .i64 ((rd_T42 l0 Aa).f0))).trans Ak; replace Al := (cell_far (p := ⟨Ab, 0, none⟩) (pA hn305_0) (.int .i64 ((rd_T42 l0 Aa).f0))).trans Al; replace Ac := (cell_far (p := ⟨Ab, 1, none⟩) (pA hn305_1) (.int .i64 ((rd_T42 l0 Aa).f1))).trans Ac; replace Ad := (cell_far (p := ⟨Ab, 1, none⟩) (pA hn305_1) (.int .i64 ((rd_T42 l0 Aa).f1))).trans Ad; replace Ae := (cell_far (p := ⟨Ab, 1, none⟩) (pA hn305_1) (.int .i64 ((rd_T42 l0 Aa).f1))).trans Ae; replace Af := (cell_far (p := ⟨Ab, 1, none⟩) (pA hn305_1) (.int .i64 ((rd_T42 l0 Aa).f1))).trans Af; replace Ag := (cell_far (p := ⟨Ab, 1, none⟩) (pA hn305_1) (.int .i64 ((rd_T42 l0 Aa).f1))).trans Ag; replace Ah := (cell_far (p := ⟨Ab, 1, none⟩) (pA hn305_1) (.int .i64 ((rd_T42 l0 Aa).f1))).trans Ah; replace Ai := (cell_far (p := ⟨Ab, 1, none⟩) (pA hn305_1) (.int .i64 ((rd_T42 l0 Aa).f1))).trans Ai; replace Aj := (cell_far (p := ⟨Ab, 1, none⟩) (pA hn305_1) (.int .i64 ((rd_T42 l0 Aa).f1))).trans Aj; replace Ak := (cell_far (p := ⟨Ab, 1, none⟩) (pA hn305_1) (.int .i64 ((rd_T42 l0 Aa).f1))).trans Ak; replace Al := (cell_far (p := ⟨Ab, 1, none⟩) (pA hn305_1) (.int .i64 ((rd_T42 l0 Aa).f1))).trans Al; replace Ac := (cell_far (p := ⟨Ab, 2, none⟩) (pA hn305_2) (.int .i64 ((rd_T42 l0 Aa).f2))).trans Ac; replace Ad := (cell_far (p := ⟨Ab, 2, none⟩) (pA hn305_2) (.int .i64 ((rd_T42 l0 Aa).f2))).trans Ad; replace Ae := (cell_far (p := ⟨Ab, 2, none⟩) (pA hn305_2) (.int .i64 ((rd_T42 l0 Aa).f2))).trans Ae; replace Af := (cell_far (p := ⟨Ab, 2, none⟩) (pA hn305_2) (.int .i64 ((rd_T42 l0 Aa).f2))).trans Af; replace Ag := (cell_far (p := ⟨Ab, 2, none⟩) (pA hn305_2) (.int .i64 ((rd_T42 l0 Aa).f2))).trans Ag; replace Ah := (cell_far (p := ⟨Ab, 2, none⟩) (pA hn305_2) (.int .i64 ((rd_T42 l0 Aa).f2))).trans Ah; replace Ai := (cell_far (p := ⟨Ab, 2, none⟩) (pA hn305_2) (.int .i64 ((rd_T42 l0 Aa).f2))).trans Ai; replace Aj := (cell_far (p := ⟨Ab, 2, none⟩) (pA hn305_2) (.int .i64 ((rd_T42 l0 Aa).f2))).trans Aj; replace Ak := (cell_far (p := ⟨Ab, 2, none⟩) (pA hn305_2) (.int .i64 ((rd_T42 l0 Aa).f2))).trans Ak; replace Al := (cell_far (p := ⟨Ab, 2, none⟩) (pA hn305_2) (.int .i64 ((rd_T42 l0 Aa).f2))).trans Al; replace Ac := (cell_far (p := ⟨Ab, 3, none⟩) (pA hn305_3) (.string ((rd_T42 l0 Aa).f3))).trans Ac; replace Ad := (cell_far (p := ⟨Ab, 3, none⟩) (pA hn305_3) (.string ((rd_T42 l0 Aa).f3))).trans Ad; replace Ae := (cell_far (p := ⟨Ab, 3, none⟩) (pA hn305_3) (.string ((rd_T42 l0 Aa).f3))).trans Ae; replace Af := (cell_far (p := ⟨Ab, 3, none⟩) (pA hn305_3) (.string ((rd_T42 l0 Aa).f3))).trans Af; replace Ag := (cell_far (p := ⟨Ab, 3, none⟩) (pA hn305_3) (.string ((rd_T42 l0 Aa).f3))).trans Ag; replace Ah := (cell_far (p := ⟨Ab, 3, none⟩) (pA hn305_3) (.string ((rd_T42 l0 Aa).f3))).trans Ah; replace Ai := (cell_far (p := ⟨Ab, 3, none⟩) (pA hn305_3) (.string ((rd_T42 l0 Aa).f3))).trans Ai; replace Aj := (cell_far (p := ⟨Ab, 3, none⟩) (pA hn305_3) (.string ((rd_T42 l0 Aa).f3))).trans Aj; replace Ak := (cell_far (p := ⟨Ab, 3, none⟩) (pA hn305_3) (.string ((rd_T42 l0 Aa).f3))).trans Ak; replace Al := (cell_far (p := ⟨Ab, 3, none⟩) (pA hn305_3) (.string ((rd_T42 l0 Aa).f3))).trans Al; replace Ac := (cell_far (p := ⟨Ab, 4, none⟩) (pA hn305_4) (.bool ((rd_T42 l0 Aa).f4.f0))).trans Ac; replace Ad := (cell_far (p := ⟨Ab, 4, none⟩) (pA hn305_4) (.bool ((rd_T42 l0 Aa).f4.f0))).trans Ad; replace Ae := (cell_far (p := ⟨Ab, 4, none⟩) (pA hn305_4) (.bool ((rd_T42 l0 Aa).f4.f0))).trans Ae; replace Af := (cell_far (p := ⟨Ab, 4, none⟩) (pA hn305_4) (.bool ((rd_T42 l0 Aa).f4.f0))).trans Af; replace Ag := (cell_far (p := ⟨Ab, 4, none⟩) (pA hn305_4) (.bool ((rd_T42 l0 Aa).f4.f0))).trans Ag; replace Ah := (cell_far (p := ⟨Ab, 4, none⟩) (pA hn305_4) (.bool ((rd_T42 l0 Aa).f4.f0))).trans Ah; replace Ai := (cell_far (p := ⟨Ab, 4, none⟩) (pA hn305_4) (.bool ((rd_T42 l0 Aa).f4.f0))).trans Ai; replace Aj := (cell_far (p := ⟨Ab, 4, none⟩) (pA hn305_4) (.bool ((rd_T42 l0 Aa).f4.f0))).trans Aj; replace Ak := (cell_far (p := ⟨Ab, 4, none⟩) (pA hn305_4) (.bool ((rd_T42 l0 Aa).f4.f0))).trans Ak; replace Al := (cell_far (p := ⟨Ab, 4, none⟩) (pA hn305_4) (.bool ((rd_T42 l0 Aa).f4.f0))).trans Al; replace Ac := (cell_far (p := ⟨Ab, 5, none⟩) (pA hn305_5) (.slice An ((rd_T42 l0 Aa).f4.f1).length c303_5)).trans Ac; replace Ad := (cell_far (p := ⟨Ab, 5, none⟩) (pA hn305_5) (.slice An ((rd_T42 l0 Aa).f4.f1).length c303_5)).trans Ad; replace Ae := (cell_far (p := ⟨Ab, 5, none⟩) (pA hn305_5) (.slice An ((rd_T42 l0 Aa).f4.f1).length c303_5)).trans Ae; replace Af := (cell_far (p := ⟨Ab, 5, none⟩) (pA hn305_5) (.slice An ((rd_T42 l0 Aa).f4.f1).length c303_5)).trans Af; replace Ag := (cell_far (p := ⟨Ab, 5, none⟩) (pA hn305_5) (.slice An ((rd_T42 l0 Aa).f4.f1).length c303_5)).trans Ag; replace Ah := (cell_far (p := ⟨Ab, 5, none⟩) (pA hn305_5) (.slice An ((rd_T42 l0 Aa).f4.f1).length c303_5)).trans Ah; replace Ai := (cell_far (p := ⟨Ab, 5, none⟩) (pA hn305_5) (.slice An ((rd_T42 l0 Aa).f4.f1).length c303_5)).trans Ai; replace Aj := (cell_far (p := ⟨Ab, 5, none⟩) (pA hn305_5) (.slice An ((rd_T42 l0 Aa).f4.f1).length c303_5)).trans Aj; replace Ak := (cell_far (p := ⟨Ab, 5, none⟩) (pA hn305_5) (.slice An ((rd_T42 l0 Aa).f4.f1).length c303_5)).trans Ak; replace Al := (cell_far (p := ⟨Ab, 5, none⟩) (pA hn305_5) (.slice An ((rd_T42 l0 Aa).f4.f1).length c303_5)).trans Al; replace Ac := (cell_far (p := ⟨Ab, 6, none⟩) (pA hn305_6) (.int .i64 ((rd_T42 l0 Aa).f4.f2.f0))).trans Ac; replace Ad := (cell_far (p := ⟨Ab, 6, none⟩) (pA hn305_6) (.int .i64 ((rd_T42 l0 Aa).f4.f2.f0))).trans Ad; replace Ae := (cell_far (p := ⟨Ab, 6, none⟩) (pA hn305_6) (.int .i64 ((rd_T42 l0 Aa).f4.f2.f0))).trans Ae; replace Af := (cell_far (p := ⟨Ab, 6, none⟩) (pA hn305_6) (.int .i64 ((rd_T42 l0 Aa).f4.f2.f0))).trans Af; replace Ag := (cell_far (p := ⟨Ab, 6, none⟩) (pA hn305_6) (.int .i64 ((rd_T42 l0 Aa).f4.f2.f0))).trans Ag; replace Ah := (cell_far (p := ⟨Ab, 6, none⟩) (pA hn305_6) (.int .i64 ((rd_T42 l0 Aa).f4.f2.f0))).trans Ah; replace Ai := (cell_far (p := ⟨Ab, 6, none⟩) (pA hn305_6) (.int .i64 ((rd_T42 l0 Aa).f4.f2.f0))).trans Ai; replace Aj := (cell_far (p := ⟨Ab, 6, none⟩) (pA hn305_6) (.int .i64 ((rd_T42 l0 Aa).f4.f2.f0))).trans Aj; replace Ak := (cell_far (p := ⟨Ab, 6, none⟩) (pA hn305_6) (.int .i64 ((rd_T42 l0 Aa).f4.f2.f0))).trans Ak; replace Al := (cell_far (p := ⟨Ab, 6, none⟩) (pA hn305_6) (.int .i64 ((rd_T42 l0 Aa).f4.f2.f0))).trans Al; replace Ac := (cell_far (p := ⟨Ab, 7, none⟩) (pA hn305_7) (.int .i64 ((rd_T42 l0 Aa).f4.f2.f1))).trans Ac; replace Ad := (cell_far (p := ⟨Ab, 7, none⟩) (pA hn305_7) (.int .i64 ((rd_T42 l0 Aa).f4.f2.f1))).trans Ad; replace Ae := (cell_far (p := ⟨Ab, 7, none⟩) (pA hn305_7) (.int .i64 ((rd_T42 l0 Aa).f4.f2.f1))).trans Ae; replace Af := (cell_far (p := ⟨Ab, 7, none⟩) (pA hn305_7) (.int .i64 ((rd_T42 l0 Aa).f4.f2.f1))).trans Af; replace Ag := (cell_far (p := ⟨Ab, 7, none⟩) (pA hn305_7) (.int .i64 ((rd_T42 l0 Aa).f4.f2.f1))).trans Ag; replace Ah := (cell_far (p := ⟨Ab, 7, none⟩) (pA hn305_7) (.int .i64 ((rd_T42 l0 Aa).f4.f2.f1))).trans Ah; replace Ai := (cell_far (p := ⟨Ab, 7, none⟩) (pA hn305_7) (.int .i64 ((rd_T42 l0 Aa).f4.f2.f1))).trans Ai; replace Aj := (cell_far (p := ⟨Ab, 7, none⟩) (pA hn305_7) (.int .i64 ((rd_T42 l0 Aa).f4.f2.f1))).trans Aj; replace Ak := (cell_far (p := ⟨Ab, 7, none⟩) (pA hn305_7) (.int .i64 ((rd_T42 l0 Aa).f4.f2.f1))).trans Ak; replace Al := (cell_far (p := ⟨Ab, 7, none⟩) (pA hn305_7) (.int .i64 ((rd_T42 l0 Aa).f4.f2.f1))).trans Al; replace Ac := (cell_far (p := ⟨Ab, 8, none⟩) (pA hn305_8) (.int .i64 ((rd_T42 l0 Aa).f4.f2.f2))).trans Ac; replace Ad := (cell_far (p := ⟨Ab, 8, none⟩) (pA hn305_8) (.int .i64 ((rd_T42 l0 Aa).f4.f2.f2))).trans Ad; replace Ae := (cell_far (p := ⟨Ab, 8, none⟩) (pA hn305_8) (.int .i64 ((rd_T42 l0 Aa).f4.f2.f2))).trans Ae; replace Af := (cell_far (p := ⟨Ab, 8, none⟩) (pA hn305_8) (.int .i64 ((rd_T42 l0 Aa).f4.f2.f2))).trans Af; replace Ag := (cell_far (p := ⟨Ab, 8, none⟩) (pA hn305_8) (.int .i64 ((rd_T42 l0 Aa).f4.f2.f2))).trans Ag; replace Ah := (cell_far (p := ⟨Ab, 8, none⟩) (pA hn305_8) (.int .i64 ((rd_T42 l0 Aa).f4.f2.f2))).trans Ah; replace Ai := (cell_far (p := ⟨Ab, 8, none⟩) (pA hn305_8) (.int .i64 ((rd_T42 l0 Aa).f4.f2.f2))).trans Ai; replace Aj := (cell_far (p := ⟨Ab, 8, none⟩) (pA hn305_8) (.int .i64 ((rd_T42 l0 Aa).f4.f2.f2))).trans Aj; replace Ak := (cell_far (p := ⟨Ab, 8, none⟩) (pA hn305_8) (.int .i64 ((rd_T42 l0 Aa).f4.f2.f2))).trans Ak; replace Al := (cell_far (p := ⟨Ab, 8, none⟩) (pA hn305_8) (.int .i64 ((rd_T42 l0 Aa).f4.f2.f2))).trans Al; replace Ac := (cell_far (p := ⟨Ab, 9, none⟩) (pA hn305_9) (.int .u32 ((rd_T42 l0 Aa).f4.f2.f3))).trans Ac; replace Ad := (cell_far (p := ⟨Ab, 9, none⟩) (pA hn305_9) (.int .u32 ((rd_T42 l0 Aa).f4.f2.f3))).trans Ad; replace Ae := (cell_far (p := ⟨Ab, 9, none⟩) (pA hn305_9) (.int .u32 ((rd_T42 l0 Aa).f4.f2.f3))).trans Ae; replace Af := (cell_far (p := ⟨Ab, 9, none⟩) (pA hn305_9) (.int .u32 ((rd_T42 l0 Aa).f4.f2.f3))).trans Af; replace Ag := (cell_far (p := ⟨Ab, 9, none⟩) (pA hn305_9) (.int .u32 ((rd_T42 l0 Aa).f4.f2.f3))).trans Ag; replace Ah := (cell_far (p := ⟨Ab, 9, none⟩) (pA hn305_9) (.int .u32 ((rd_T42 l0 Aa).f4.f2.f3))).trans Ah; replace Ai := (cell_far (p := ⟨Ab, 9, none⟩) (pA hn305_9) (.int .u32 ((rd_T42 l0 Aa).f4.f2.f3))).trans Ai; replace Aj := (cell_far (p := ⟨Ab, 9, none⟩) (pA hn305_9) (.int .u32 ((rd_T42 l0 Aa).f4.f2.f3))).trans Aj; replace Ak := (cell_far (p := ⟨Ab, 9, none⟩) (pA hn305_9) (.int .u32 ((rd_T42 l0 Aa).f4.f2.f3))).trans Ak; replace Al := (cell_far (p := ⟨Ab, 9, none⟩) (pA hn305_9) (.int .u32 ((rd_T42 l0 Aa).f4.f2.f3))).trans Al; clear hn305_0 hn305_1 hn305_2 hn305_3 hn305_4 hn305_5 hn305_6 hn305_7 hn305_8 hn305_9; replace p305 := eq_true p305; replace q305 := eq_true q305) | ((with_reducible refine gate_dst (N := 9) rfl ?_); refine box_event ?hg (N := 9) ?hd (cs := #[.int .i64 0, .int .i64 0, .int .i64 0, .string (⟨#[]⟩ : ByteArray), .bool false, .slice none 0 0, .int .i64 0, .int .i64 0, .int .i64 0, .int .u32 0]) (t := 42) ?hr ?_; (case hd => rfl); (case hg => rfl); (case hr => first | (go_simp; done) | (go_simp; rfl)); intro At hg w13 hbox hb; have Au := Am (hbox); have A7 := Am ((by rw [hg]; exact (below_size (pE HB.out Ar.out)) : w.heap.size ≤ At)); replace HB := Am (below_step (pE HB.out Ar.out) hb); have Av := A7; have As := Am ((by rw [hg]; exact Nat.ne_of_lt (blk_lt (g := Ab) (o := .cells #[.int .i64 ((rd_T42 l0 Aa).f0), .int .i64 ((rd_T42 l0 Aa).f1), .int .i64 ((rd_T42 l0 Aa).f2), .string ((rd_T42 l0 Aa).f3), .bool ((rd_T42 l0 Aa).f4.f0), .slice An ((rd_T42 l0 Aa).f4.f1).length c303_5, .int .i64 ((rd_T42 l0 Aa).f4.f2.f0), .int .i64 ((rd_T42 l0 Aa).f4.f2.f1), .int .i64 ((rd_T42 l0 Aa).f4.f2.f2), .int .u32 ((rd_T42 l0 Aa).f4.f2.f3)] 42 (0, 0)) (kX0 Ap.out)) : Ab ≠ At)); have A2 := Am ((by rw [hg]; exact Nat.ne_of_gt (blk_lt (g := Ab) (o := .cells #[.int .i64 ((rd_T42 l0 Aa).f0), .int .i64 ((rd_T42 l0 Aa).f1), .int .i64 ((rd_T42 l0 Aa).f2), .string ((rd_T42 l0 Aa).f3), .bool ((rd_T42 l0 Aa).f4.f0), .slice An ((rd_T42 l0 Aa).f4.f1).length c303_5, .int .i64 ((rd_T42 l0 Aa).f4.f2.f0), .int .i64 ((rd_T42 l0 Aa).f4.f2.f1), .int .i64 ((rd_T42 l0 Aa).f4.f2.f2), .int .u32 ((rd_T42 l0 Aa).f4.f2.f3)] 42 (0, 0)) (kX0 Ap.out)) : At ≠ Ab)); replace Ap := Am (blk_below (g := Ab) (kX0 Ap.out) hb); clear hb hbox hg; have hnb14 := A2.out; have hnc14 := As.out; obtain ⟨_, _, _, _, _, _, _, _, _, _⟩ := bc10 Au.out; obtain ⟨_, _, _, _, _, _, _, _, _, _⟩ := bf10 Au.out; obtain ⟨_, _, _, _, _, _, _, _, _, _⟩ := bc10 Ap.out; obtain ⟨_, _, _, _, _, _, _, _, _, _⟩ := bf10 Ap.out) | (go_at_call 24; (with_reducible refine (entry_Same_1.calls ((rd_T42 l0 Aa).f0) ((rd_T42 l0 Aa).f1) ((rd_T42 l0 Aa).f2) ((rd_T42 l0 Aa).f3) ((rd_T42 l0 Aa).f4.f0) _ _ ((rd_T42 l0 Aa).f4.f1) ((rd_T42 l0 Aa).f4.f2.f0) ((rd_T42 l0 Aa).f4.f2.f1) ((rd_T42 l0 Aa).f4.f2.f2) ((rd_T42 l0 Aa).f4.f2.f3) ((rd_T42 l1 Aa).f0) ((rd_T42 l1 Aa).f1) ((rd_T42 l1 Aa).f2) ((rd_T42 l1 Aa).f3) ((rd_T42 l1 Aa).f4.f0) _ _ ((rd_T42 l1 Aa).f4.f1) ((rd_T42 l1 Aa).f4.f2.f0) ((rd_T42 l1 Aa).f4.f2.f1) ((rd_T42 l1 Aa).f4.f2.f2) ((rd_T42 l1 Aa).f4.f2.f3) true _ ?A8 ?Ba ?Bb ?Bc A9.out).mono ?_); (case A8 => exact Kd.C_below A3.out (pE2 HB.out Ar.out Av.out)); (case Ba => exact A4.out); (case Bb => exact Kd.C_below A5.out (pE2 HB.out Ar.out Av.out)); (case Bc => exact A6.out); rintro e w17 ⟨rfl, hb⟩; replace Ap := Am (blk_below (g := Ab) (kX1 Ap.out As.out) hb); replace Au := Am (blk_below (g := At) (kX0 Au.out) hb); replace HB := Am (below_step (pE2 HB.out Ar.out Av.out) hb); (try clear hb); (try clear hb2); (try clear hk); (try clear hi)))
   go_roundg k1
   case measure => have := HK1.out; omega
   case rel => exact ⟨(wrap64 (Aa + 1)), (by first | rfl | (simp; done) | (simp [*]; done)), H', ⟨by have := HK1.out; omega⟩, ⟨pE2 HB.out Ar.out Av.out⟩⟩
def entry_Same.f (k : Nat) (l0 : List (S42)) (l1 : List (S42)) : Option (Bool) := (slices_EqualFunc_api_Entry.f k l0 l1).bind fun t308 => (some t308)
theorem entry_Same.mono : ∀ a0 a1 k, LeO (entry_Same.f k a0 a1) (entry_Same.f (k + 1) a0 a1) := by
 intro a0 a1 k
 unfold entry_Same.f
 repeat' first
   | (with_reducible exact slices_EqualFunc_api_Entry.mono _ _ _)
   | (with_reducible exact LeO.refl _)
   | (with_reducible exact LeO.none _)
   | (with_reducible refine LeO.ite ?_ ?_)
   | (with_reducible refine LeO.bind ?_ (fun _ => ?_))
   | exact slices_EqualFunc_api_Entry.mono _ _ _
   | exact LeO.none _
   | refine LeO.ite ?_ ?_
   | refine LeO.bind ?_ (fun _ => ?_)
set_option maxHeartbeats 8000000 in
set_option maxRecDepth 100000 in
theorem entry_Same.calls (k : Nat) (A0 : Option Addr) (c0 : Nat) (l0 : List (S42)) (A1 : Option Addr) (c1 : Nat) (l1 : List (S42)) (r : Bool) (w : World) (hr0 : Kd.C k42 w A0 l0.length l0) (hc0 : l0.length ≤ c0) (hr1 : Kd.C k42 w A1 l1.length l1) (hc1 : l1.length ≤ c1) (h : entry_Same.f k l0 l1 = some r) :
  Calls Try.prog 12 #[.slice A0 l0.length c0, .slice A1 l1.length c1] w fun e w' => e = .returned (.bool r) ∧ Below w.heap.size w w' := by
 have HR0 := Am hr0
 have HC0 := Am hc0
 clear hr0 hc0
 have HR1 := Am hr1
 have HC1 := Am hc1
 clear hr1 hc1
 have HB := Am (Below.refl w.heap.size w)
 have H : ((slices_EqualFunc_api_Entry.f k l0 l1).bind fun t308 => (some t308)) = some r := h
 clear h
 replace H := Option.bind_eq_some_iff.mp H
 obtain ⟨t308, A30, H⟩ := H
 replace H : (some t308) = some r := H
 have A3 := Am A30
 clear A30
 obtain rfl := Option.some.inj H
 go_enter Try.func12, Try.ntmps12
 go_wp2_with (first | ((with_reducible refine gate_callee (f := 23) rfl ?_); refine goesL_ (some 7) rfl rfl Try.func23 (by kernel_rfl) rfl #[.slice A0 l0.length c0, .slice A1 l1.length c1, .func (.func 24) #[] #[]] rfl pL ?_; (with_reducible refine (slices_EqualFunc_api_Entry.calls k _ _ l0 _ _ l1 t308 _ ?side1 ?side2 ?side3 ?side4 A3.out).mono ?_); (case side1 => repeat (first | exact HR0.out | (with_reducible refine Kd.C_alloc ?_ _) | (with_reducible refine Kd.C_drewN ?_ _) | (with_reducible refine Kd.C_drew ?_))); (case side2 => exact HC0.out); (case side3 => repeat (first | exact HR1.out | (with_reducible refine Kd.C_alloc ?_ _) | (with_reducible refine Kd.C_drewN ?_ _) | (with_reducible refine Kd.C_drew ?_))); (case side4 => exact HC1.out); rintro e w4 ⟨rfl, hb⟩; refine ⟨_, rfl, ?_⟩; replace HB := Am (below_step (pB HB.out) hb); (try clear hb); (try clear hb2); (try clear hk); (try clear hi)))
 go_ret
 exact ⟨pX, pB HB.out⟩
end Go.Proofs.Ytpplclcgkcjmpaa.PEntryReads
