/- What the law reaches, as plain Lean functions, and that the machine's calls answer just that. -/
import Derived.Test.YtdanmjfkocjgjaaPWalGetsx0
import Derived.Test.YtdanmjfkocjgjaaPWalGetsx15
namespace Go.Proofs.Ytdanmjfkocjgjaa.PWalGets
open Go.RowKit Go.Proofs.YtdanmjfkocjgjaaW.PrintWords Go.Proofs.YtdanmjfkocjgjaaW.PrintLast Go.Proofs.YtdanmjfkocjgjaaW.PrintMore
attribute [local go_sem] max2_int min2_int max_two min_two max_three min_three max_four min_four
set_option linter.unusedVariables false
set_option linter.unusedSimpArgs false
attribute [local go_sem] wrap64_l1 wrap64_l2 wrap64_l3 wrap64_l4 wrap64_l5
def garnerref06_Batch.l0 : Nat → List (S52) → Int → Option (Bool)
 | 0, _, _ => none
 | k + 1, x0, x3 => if x3 < (x0.length : Int) then (if 0 ≤ x3 then ((garnerref06_May.f k ((rd_T52 x0 x3).f0) ((rd_T52 x0 x3).f1) ((rd_T52 x0 x3).f2) ((rd_T52 x0 x3).f3) ((rd_T52 x0 x3).f4.f0) ((rd_T52 x0 x3).f4.f1) ((rd_T52 x0 x3).f4.f2.f0) ((rd_T52 x0 x3).f4.f2.f1) ((rd_T52 x0 x3).f4.f2.f2) ((rd_T52 x0 x3).f4.f2.f3)).bind fun t392 => (if t392 = true then (if x3 > 0 then (if 0 ≤ (wrap64 (x3 - 1)) then (if (wrap64 (x3 - 1)) < (x0.length : Int) then (if (wrap64 (((rd_T52 x0 x3).f0) - 1)) = ((rd_T52 x0 (wrap64 (x3 - 1))).f0) then (if ((rd_T52 x0 x3).f1) < ((rd_T52 x0 (wrap64 (x3 - 1))).f1) then (some false) else (garnerref06_Batch.l0 k x0 (wrap64 (x3 + 1)))) else (some false)) else (none)) else (none)) else (garnerref06_Batch.l0 k x0 (wrap64 (x3 + 1)))) else (some false))) else (none)) else (if (x0.length : Int) ≥ 1 then (some (decide ((x0.length : Int) ≤ 16))) else (some false))
def garnerref06_Batch.f (k : Nat) (l0 : List (S52)) : Option (Bool) := garnerref06_Batch.l0 k l0 0
theorem garnerref06_Batch.mono_l : ∀ k, (∀ y0 y1, LeO (garnerref06_Batch.l0 k y0 y1) (garnerref06_Batch.l0 (k + 1) y0 y1))
 | 0 => fun _ _ r h => by simp [garnerref06_Batch.l0] at h
 | k + 1 => by
  have ih0 := garnerref06_Batch.mono_l k
  ·intro y0 y1
   unfold garnerref06_Batch.l0
   repeat' (with_reducible first | exact ih0 .. | exact garnerref06_May.mono .. | exact LeO.refl .. | exact LeO.none .. | refine LeO.ite ?_ ?_ | refine LeO.bind ?_ (fun _ => ?_))
theorem garnerref06_Batch.mono : ∀ a0 k, LeO (garnerref06_Batch.f k a0) (garnerref06_Batch.f (k + 1) a0) := by
 intro a0 k
 have ih0 := garnerref06_Batch.mono_l k
 unfold garnerref06_Batch.f
 repeat' (with_reducible first | exact ih0 .. | exact garnerref06_May.mono .. | exact LeO.refl .. | exact LeO.none .. | refine LeO.ite ?_ ?_ | refine LeO.bind ?_ (fun _ => ?_))
def garnerref06_Batch.T4 : Bool × List (List Nat × List Nat) := (true, [([], []), ([], []), ([0, 1], [0, 1]), ([2], [2]), ([3], [3]), ([4], [4]), ([5, 4], [5]), ([6], [6]), ([7, 6], [6, 7]), ([8, 6, 6], [6, 8]), ([9], [9]), ([9], [9]), ([10, 11, 9], [9, 10, 11]), ([12, 9], [9, 12]), ([13, 9], [9, 13]), ([14, 9], [9, 14]), ([9], [9]), ([9], [9]), ([17, 9], [9, 17]), ([16, 18, 9], [9, 16, 18]), ([19, 9], [9, 19]), ([20, 9], [9, 20]), ([15, 21, 9], [9, 15, 21]), ([22, 9, 9], [9, 22]), ([23], [23]), ([23], [23]), ([24, 25, 23], [23, 24, 25]), ([26, 23], [23, 26]), ([27, 23], [23, 27]), ([23], [23]), ([23], [23]), ([30, 23], [23, 30]), ([29, 31, 23], [23, 29, 31]), ([32, 23], [23, 32]), ([33, 23], [23, 33]), ([28, 34, 23], [23, 28, 34]), ([23, 35, 9], [9, 23, 35]), ([9, 36, 6], [6, 9, 36]), ([6, 37], [6, 37])])
def garnerref06_Batch.B4 : List Nat := [0, 0, 3, 7, 15, 31, 63, 127, 255, 511, 1023, 1023, 4095, 8191, 16383, 32767, 1023, 1023, 132095, 459775, 984063, 2032639, 4194303, 8388607, 16777215, 16777215, 67108863, 134217727, 268435455, 16777215, 16777215, 1090519039, 3774873599, 8069840895, 16659775487, 34359738367, 68719476735, 137438953471, 274877906943]
theorem garnerref06_Batch.tab4 : rtab .any (opsOf Try.f29 4) = garnerref06_Batch.T4 := by kernel_rfl
theorem garnerref06_Batch.bits4 : waitsOk garnerref06_Batch.T4.2 garnerref06_Batch.B4 = true := by kernel_rfl
set_option maxHeartbeats 8000000 in
set_option maxRecDepth 100000 in
theorem garnerref06_Batch.calls (k : Nat) (A0 : Option Addr) (c0 : Nat) (l0 : List (S52)) (r : Bool) (w : World) (hr0 : Kd.C k52 w A0 l0.length l0) (hc0 : l0.length ≤ c0) (h : garnerref06_Batch.f k l0 = some r) :
 Calls Try.prog 29 #[.slice A0 l0.length c0] w fun e w' => e = .returned (.bool r) ∧ Below w.heap.size w w' := by
 have hu52 := Try.underlying52
 have HR0 := Am hr0
 have HC0 := Am hc0
 clear hr0 hc0
 have HB := Am (Below.refl w.heap.size w)
 unfold garnerref06_Batch.f at h
 have H := h
 clear h
 have H' := Am H
 clear H
 go_enter Try.func29, Try.ntmps29
 go_wp2
 go_loopg [3] k (fun kq v3 w' => ∃ (Aa : Int), v3 = .int .i64 Aa ∧ Aside0 (garnerref06_Batch.l0 kq l0 Aa = some r) ∧ Aside0 (kq ≤ k) ∧ Aside0 (Below w.heap.size w w'))
 case atStart => exact ⟨(0), zr, H', ⟨Nat.le_refl _⟩, ⟨pB HB.out⟩⟩
 case round =>
  clear H'
  obtain ⟨Aa, rfl, HA, HK1, HB⟩ := hrel
  cases gk with
  | zero => exact absurd HA.out (by simp [garnerref06_Batch.l0])
  | succ k1 =>
   have H := HA.out
   clear HA
   simp only [garnerref06_Batch.l0] at H
   by_cases c2 : Aa < (l0.length : Int)
   rotate_left
   ·rw [if_neg c2] at H
    have c2b0 := decide_eq_false c2
    clear c2
    by_cases c22 : (l0.length : Int) ≥ 1
    ·rw [if_pos c22] at H
     have c22b0 : decide (1 ≤ (l0.length : Int)) = true := decide_eq_true c22
     have c22b1 : decide (1 ≤ l0.length) = true := decide_eq_true (by omega)
     clear c22
     obtain rfl := Option.some.inj H
     go_wp2
     go_ret
     exact ⟨pX, pB HB.out⟩
    rw [if_neg c22] at H
    have c22b0 : decide (1 ≤ (l0.length : Int)) = false := decide_eq_false c22
    have c22b1 : decide (1 ≤ l0.length) = false := decide_eq_false (by omega)
    clear c22
    obtain rfl := Option.some.inj H
    go_wp2
    go_ret
    exact ⟨pX, pB HB.out⟩
   rw [if_pos c2] at H
   have c2b0 := decide_eq_true c2
   clear c2
   obtain ⟨c3, H⟩ := zI H
   have c3b0 := decide_eq_true c3
   clear c3
   replace H := Option.bind_eq_some_iff.mp H
   obtain ⟨t392, A40, H⟩ := H
   have A4 := Am A40
   clear A40
   by_cases c5 : t392 = true
   rotate_left
   ·replace c5 := Bool.eq_false_iff.mpr c5
    subst c5
    rw [if_neg zF] at H
    obtain rfl := Option.some.inj H
    try go_wp2
    replace HB := bDa HB
    have p391 : 0 ≤ (Aa : Int) := of_decide_eq_true pS
    have q391 : Aa < (l0.length : Int) := of_decide_eq_true pS
    obtain ⟨Ab, Aq, c391_5, e391, Ar, As, At, Au, Av, Aw, Ax, Ay, Az, A1, Ac, Ad, Ae, Af, Ag, Ah, Ai, Aj, Ak, Al, An, Ao⟩ := at_T52w HR0.out Aa p391 q391 HB.out
    cases e391
    have Ap := Am Ad
    have A2 := Am Ac
    clear Ad Ac
    replace p391 := eq_true p391
    replace q391 := eq_true q391
    refine start_ (n := 39) (S := fun w' => w'.cell? (Ab.add ((Aa).toNat * 10)) = some (.int .i64 ((rd_T52 l0 Aa).f0)) ∧ cA w' (Ab.add ((Aa).toNat * 10)) 1 (.int .i64 ((rd_T52 l0 Aa).f1)) ∧ cA w' (Ab.add ((Aa).toNat * 10)) 2 (.int .i64 ((rd_T52 l0 Aa).f2)) ∧ cA w' (Ab.add ((Aa).toNat * 10)) 3 (.string ((rd_T52 l0 Aa).f3)) ∧ cA w' (Ab.add ((Aa).toNat * 10)) 4 (.bool ((rd_T52 l0 Aa).f4.f0)) ∧ cA w' (Ab.add ((Aa).toNat * 10)) 5 (.slice Aq ((rd_T52 l0 Aa).f4.f1).length c391_5) ∧ cA w' (Ab.add ((Aa).toNat * 10)) 6 (.int .i64 ((rd_T52 l0 Aa).f4.f2.f0)) ∧ cA w' (Ab.add ((Aa).toNat * 10)) 7 (.int .i64 ((rd_T52 l0 Aa).f4.f2.f1)) ∧ cA w' (Ab.add ((Aa).toNat * 10)) 8 (.int .i64 ((rd_T52 l0 Aa).f4.f2.f2)) ∧ cA w' (Ab.add ((Aa).toNat * 10)) 9 (.int .u32 ((rd_T52 l0 Aa).f4.f2.f3))) (ds := []) #[false, false, false, false, false, false, false, false, false, false, false, false, false, false, false, false, false, false, false, false, false, false, false, false, false, false, false, false, false, false, false, false, false, false, false, false, false, false, false] (by kernel_rfl) rfl rfl ⟨(cT HB.out Ae), (cT HB.out Af), (cT HB.out Ag), (cT HB.out Ah), (cT HB.out Ai), (cT HB.out Aj), (cT HB.out Ak), (cT HB.out Al), (cT HB.out An), (cT HB.out Ao)⟩ (fun hHeld => ?_); refine with_tabW garnerref06_Batch.tab4 garnerref06_Batch.bits4 (fun HT_ HW_ => ?_)
    generalize wr.drew = w20 at HB Ap Ar As At Au Av Aw Ax Ay Az A1 hHeld ⊢
    refine pui 0 10 39 1 HT_ ?_
    refine pui 1 11 39 3 HT_ ?_
    refine pui 2 12 39 7 HT_ ?_
    refine tki 3 13 39 15 HT_ HW_ hHeld ?_
    refine onei 4 14 39 31 HT_ (fun K hK => ?_)
    refine goes_ Try.func54 (by kernel_rfl) rfl #[.agg #[.int .i64 ((rd_T52 l0 Aa).f0), .int .i64 ((rd_T52 l0 Aa).f1), .int .i64 ((rd_T52 l0 Aa).f2), .string ((rd_T52 l0 Aa).f3), .bool ((rd_T52 l0 Aa).f4.f0), .slice Aq ((rd_T52 l0 Aa).f4.f1).length c391_5, .int .i64 ((rd_T52 l0 Aa).f4.f2.f0), .int .i64 ((rd_T52 l0 Aa).f4.f2.f1), .int .i64 ((rd_T52 l0 Aa).f4.f2.f2), .int .u32 ((rd_T52 l0 Aa).f4.f2.f3)]] (by rfl) rfl rfl pL ?_
    with_reducible refine (garnerref06_May.calls k1 ((rd_T52 l0 Aa).f0) ((rd_T52 l0 Aa).f1) ((rd_T52 l0 Aa).f2) ((rd_T52 l0 Aa).f3) ((rd_T52 l0 Aa).f4.f0) _ _ ((rd_T52 l0 Aa).f4.f1) ((rd_T52 l0 Aa).f4.f2.f0) ((rd_T52 l0 Aa).f4.f2.f1) ((rd_T52 l0 Aa).f4.f2.f2) ((rd_T52 l0 Aa).f4.f2.f3) false _ ?Bh ?Bi A4.out).mono ?_
    (case Bh => exact pC (Kd.C_below Ap.out HB.out))
    (case Bi => exact A2.out)
    rintro e w21 ⟨rfl, hb⟩
    refine ⟨_, rfl, ?_⟩
    replace HB := Am (below_step (pB HB.out) hb)
    (try clear hb)
    (try clear hb2)
    (try clear hk)
    (try clear hi)
    refine hK.out _ _ ⟨(cT HB.out Ae), (cT HB.out Af), (cT HB.out Ag), (cT HB.out Ah), (cT HB.out Ai), (cT HB.out Aj), (cT HB.out Ak), (cT HB.out Al), (cT HB.out An), (cT HB.out Ao)⟩ (fun hHeld => ?_)
    clear hK K
    refine norm_ (a' := ?_) ?_ ?_
    rotate_left
    ·show Act.put _ (some 14) _ = _
     simp only [Act.put, List.setIfInBounds_toArray, List.set_cons_zero, List.set_cons_succ, i64_w, i32_w]
     rfl
    refine pui 5 15 39 63 HT_ ?_
    refine pui 6 16 39 127 HT_ ?_
    refine pdi 7 17 39 255 HT_ ?_
    refine pdi 8 18 39 511 HT_ ?_
    refine pdi 9 19 39 1023 HT_ ?_
    refine pdi 10 20 39 2047 HT_ ?_
    refine pdi 11 21 39 4095 HT_ ?_
    refine pdi 12 22 39 8191 HT_ ?_
    refine pdi 13 23 39 16383 HT_ ?_
    refine pdi 14 24 39 32767 HT_ ?_
    refine pdi 15 25 39 65535 HT_ ?_
    refine pdi 16 26 39 131071 HT_ ?_
    refine pdi 17 27 39 262143 HT_ ?_
    refine pdi 18 28 39 524287 HT_ ?_
    refine pdi 19 29 39 1048575 HT_ ?_
    refine pdi 20 30 39 2097151 HT_ ?_
    refine pdi 21 31 39 4194303 HT_ ?_
    refine pdi 22 32 39 8388607 HT_ ?_
    refine pdi 23 33 39 16777215 HT_ ?_
    refine pdi 24 34 39 33554431 HT_ ?_
    refine pdi 25 35 39 67108863 HT_ ?_
    refine pdi 26 36 39 134217727 HT_ ?_
    refine pdi 27 37 39 268435455 HT_ ?_
    refine pdi 28 38 39 536870911 HT_ ?_
    refine pdi 29 39 39 1073741823 HT_ ?_
    refine pdi 30 40 39 2147483647 HT_ ?_
    refine pdi 31 41 39 4294967295 HT_ ?_
    refine pdi 32 42 39 8589934591 HT_ ?_
    refine pdi 33 43 39 17179869183 HT_ ?_
    refine pdi 34 44 39 34359738367 HT_ ?_
    refine pdi 35 45 39 68719476735 HT_ ?_
    refine pdi 36 46 39 137438953471 HT_ ?_
    refine pdi 37 47 39 274877906943 HT_ ?_
    refine pui 38 48 39 549755813887 HT_ ?_
    refine done_ (done_of HT_.out (by kernel_rfl)) ?_
    try go_wp2
    go_ret
    exact ⟨pX, pB HB.out⟩
   subst c5
   rw [if_pos rfl] at H
   by_cases c6 : Aa > 0
   rotate_left
   ·rw [if_neg c6] at H
    have c6b0 : decide (0 < Aa) = false := decide_eq_false c6
    clear c6
    have H' := Am H
    clear H
    try go_wp2
    replace HB := bDa HB
    have p391 : 0 ≤ (Aa : Int) := of_decide_eq_true pS
    have q391 : Aa < (l0.length : Int) := of_decide_eq_true pS
    obtain ⟨Ab, Aq, c391_5, e391, Ar, As, At, Au, Av, Aw, Ax, Ay, Az, A1, Ac, Ad, Ae, Af, Ag, Ah, Ai, Aj, Ak, Al, An, Ao⟩ := at_T52w HR0.out Aa p391 q391 HB.out
    cases e391
    have Ap := Am Ad
    have A2 := Am Ac
    clear Ad Ac
    replace p391 := eq_true p391
    replace q391 := eq_true q391
    refine start_ (n := 39) (S := fun w' => w'.cell? (Ab.add ((Aa).toNat * 10)) = some (.int .i64 ((rd_T52 l0 Aa).f0)) ∧ cA w' (Ab.add ((Aa).toNat * 10)) 1 (.int .i64 ((rd_T52 l0 Aa).f1)) ∧ cA w' (Ab.add ((Aa).toNat * 10)) 2 (.int .i64 ((rd_T52 l0 Aa).f2)) ∧ cA w' (Ab.add ((Aa).toNat * 10)) 3 (.string ((rd_T52 l0 Aa).f3)) ∧ cA w' (Ab.add ((Aa).toNat * 10)) 4 (.bool ((rd_T52 l0 Aa).f4.f0)) ∧ cA w' (Ab.add ((Aa).toNat * 10)) 5 (.slice Aq ((rd_T52 l0 Aa).f4.f1).length c391_5) ∧ cA w' (Ab.add ((Aa).toNat * 10)) 6 (.int .i64 ((rd_T52 l0 Aa).f4.f2.f0)) ∧ cA w' (Ab.add ((Aa).toNat * 10)) 7 (.int .i64 ((rd_T52 l0 Aa).f4.f2.f1)) ∧ cA w' (Ab.add ((Aa).toNat * 10)) 8 (.int .i64 ((rd_T52 l0 Aa).f4.f2.f2)) ∧ cA w' (Ab.add ((Aa).toNat * 10)) 9 (.int .u32 ((rd_T52 l0 Aa).f4.f2.f3))) (ds := []) #[false, false, false, false, false, false, false, false, false, false, false, false, false, false, false, false, false, false, false, false, false, false, false, false, false, false, false, false, false, false, false, false, false, false, false, false, false, false, false] (by kernel_rfl) rfl rfl ⟨(cT HB.out Ae), (cT HB.out Af), (cT HB.out Ag), (cT HB.out Ah), (cT HB.out Ai), (cT HB.out Aj), (cT HB.out Ak), (cT HB.out Al), (cT HB.out An), (cT HB.out Ao)⟩ (fun hHeld => ?_); refine with_tabW garnerref06_Batch.tab4 garnerref06_Batch.bits4 (fun HT_ HW_ => ?_)
    generalize wr.drew = w18 at HB Ap Ar As At Au Av Aw Ax Ay Az A1 hHeld ⊢
    refine pui 0 10 39 1 HT_ ?_
    refine pui 1 11 39 3 HT_ ?_
    refine pui 2 12 39 7 HT_ ?_
    refine tki 3 13 39 15 HT_ HW_ hHeld ?_
    refine onei 4 14 39 31 HT_ (fun K hK => ?_)
    refine goes_ Try.func54 (by kernel_rfl) rfl #[.agg #[.int .i64 ((rd_T52 l0 Aa).f0), .int .i64 ((rd_T52 l0 Aa).f1), .int .i64 ((rd_T52 l0 Aa).f2), .string ((rd_T52 l0 Aa).f3), .bool ((rd_T52 l0 Aa).f4.f0), .slice Aq ((rd_T52 l0 Aa).f4.f1).length c391_5, .int .i64 ((rd_T52 l0 Aa).f4.f2.f0), .int .i64 ((rd_T52 l0 Aa).f4.f2.f1), .int .i64 ((rd_T52 l0 Aa).f4.f2.f2), .int .u32 ((rd_T52 l0 Aa).f4.f2.f3)]] (by rfl) rfl rfl pL ?_
    with_reducible refine (garnerref06_May.calls k1 ((rd_T52 l0 Aa).f0) ((rd_T52 l0 Aa).f1) ((rd_T52 l0 Aa).f2) ((rd_T52 l0 Aa).f3) ((rd_T52 l0 Aa).f4.f0) _ _ ((rd_T52 l0 Aa).f4.f1) ((rd_T52 l0 Aa).f4.f2.f0) ((rd_T52 l0 Aa).f4.f2.f1) ((rd_T52 l0 Aa).f4.f2.f2) ((rd_T52 l0 Aa).f4.f2.f3) true _ ?Bh ?Bi A4.out).mono ?_
    (case Bh => exact pC (Kd.C_below Ap.out HB.out))
    (case Bi => exact A2.out)
    rintro e w19 ⟨rfl, hb⟩
    refine ⟨_, rfl, ?_⟩
    replace HB := Am (below_step (pB HB.out) hb)
    (try clear hb)
    (try clear hb2)
    (try clear hk)
    (try clear hi)
    refine hK.out _ _ ⟨(cT HB.out Ae), (cT HB.out Af), (cT HB.out Ag), (cT HB.out Ah), (cT HB.out Ai), (cT HB.out Aj), (cT HB.out Ak), (cT HB.out Al), (cT HB.out An), (cT HB.out Ao)⟩ (fun hHeld => ?_)
    clear hK K
    refine norm_ (a' := ?_) ?_ ?_
    rotate_left
    ·show Act.put _ (some 14) _ = _
     simp only [Act.put, List.setIfInBounds_toArray, List.set_cons_zero, List.set_cons_succ, i64_w, i32_w]
     rfl
    refine pui 5 15 39 63 HT_ ?_
    refine pui 6 16 39 127 HT_ ?_
    refine pui 7 17 39 255 HT_ ?_
    refine pui 8 18 39 511 HT_ ?_
    refine pui 9 19 39 1023 HT_ ?_
    refine pdi 10 20 39 2047 HT_ ?_
    refine pdi 11 21 39 4095 HT_ ?_
    refine pdi 12 22 39 8191 HT_ ?_
    refine pdi 13 23 39 16383 HT_ ?_
    refine pdi 14 24 39 32767 HT_ ?_
    refine pdi 15 25 39 65535 HT_ ?_
    refine pdi 16 26 39 131071 HT_ ?_
    refine pdi 17 27 39 262143 HT_ ?_
    refine pdi 18 28 39 524287 HT_ ?_
    refine pdi 19 29 39 1048575 HT_ ?_
    refine pdi 20 30 39 2097151 HT_ ?_
    refine pdi 21 31 39 4194303 HT_ ?_
    refine pdi 22 32 39 8388607 HT_ ?_
    refine pdi 23 33 39 16777215 HT_ ?_
    refine pdi 24 34 39 33554431 HT_ ?_
    refine pdi 25 35 39 67108863 HT_ ?_
    refine pdi 26 36 39 134217727 HT_ ?_
    refine pdi 27 37 39 268435455 HT_ ?_
    refine pdi 28 38 39 536870911 HT_ ?_
    refine pdi 29 39 39 1073741823 HT_ ?_
    refine pdi 30 40 39 2147483647 HT_ ?_
    refine pdi 31 41 39 4294967295 HT_ ?_
    refine pdi 32 42 39 8589934591 HT_ ?_
    refine pdi 33 43 39 17179869183 HT_ ?_
    refine pdi 34 44 39 34359738367 HT_ ?_
    refine pdi 35 45 39 68719476735 HT_ ?_
    refine pdi 36 46 39 137438953471 HT_ ?_
    refine pui 37 47 39 274877906943 HT_ ?_
    refine pui 38 48 39 549755813887 HT_ ?_
    refine done_ (done_of HT_.out (by kernel_rfl)) ?_
    try go_wp2
    go_roundg k1
    case measure => have := HK1.out; omega
    case rel => exact ⟨(wrap64 (Aa + 1)), zr, H', ⟨by have := HK1.out; omega⟩, ⟨pB HB.out⟩⟩
   rw [if_pos c6] at H
   have c6b0 : decide (0 < Aa) = true := decide_eq_true c6
   clear c6
   obtain ⟨ji7, hji7⟩ : ∃ j_ : Int, (wrap64 (Aa - 1)) = j_ := ⟨_, rfl⟩
   replace H : (if 0 ≤ (ji7) then (if (ji7) < (l0.length : Int) then (if (wrap64 (((rd_T52 l0 Aa).f0) - 1)) = ((rd_T52 l0 (ji7)).f0) then (if ((rd_T52 l0 Aa).f1) < ((rd_T52 l0 (ji7)).f1) then (some false) else (garnerref06_Batch.l0 k1 l0 (wrap64 (Aa + 1)))) else (some false)) else (none)) else (none)) = some r := by first | (rw [hji7] at H; exact H) | (simp only [hji7] at H ⊢; exact H)
   (try rw [hji7] at A4)
   have hji7w : (IntKind.i64.wrap (Aa - 1)) = ji7 := (i64_w _).trans hji7
   obtain ⟨c8, H⟩ := zI H
   have c8b0 := decide_eq_true c8
   clear c8
   obtain ⟨c9, H⟩ := zI H
   have c9b0 := decide_eq_true c9
   clear c9
   by_cases c10 : (wrap64 (((rd_T52 l0 Aa).f0) - 1)) = ((rd_T52 l0 (ji7)).f0)
   rotate_left
   ·rw [if_neg c10] at H
    have c10b0 := beq_eq_false_iff_ne.mpr c10
    have c10b1 := bne_iff_ne.mpr c10
    obtain rfl := Option.some.inj H
    try go_wp2
    replace HB := bDa HB
    have p391 : 0 ≤ (Aa : Int) := of_decide_eq_true pS
    have q391 : Aa < (l0.length : Int) := of_decide_eq_true pS
    obtain ⟨Ab, Aq, c391_5, e391, Ar, As, At, Au, Av, Aw, Ax, Ay, Az, A1, Ac, Ad, Ae, Af, Ag, Ah, Ai, Aj, Ak, Al, An, Ao⟩ := at_T52w HR0.out Aa p391 q391 HB.out
    cases e391
    have Ap := Am Ad
    have A2 := Am Ac
    clear Ad Ac
    replace p391 := eq_true p391
    replace q391 := eq_true q391
    have p394 : 0 ≤ ((ji7) : Int) := of_decide_eq_true pS
    have q394 : (ji7) < (l0.length : Int) := of_decide_eq_true pS
    obtain ⟨B7, Bw, c394_5, e394, Bj, Bk, Bl, Bm, Bn, Bg, Bo, Bp, Bq, Br, A3, A5, A6, A7, A8, A9, Ba, Bb, Bc, Bd, Be, Bf⟩ := at_T52w HR0.out (ji7) p394 q394 HB.out
    obtain rfl : Ab = B7 := (by injection e394)
    have Bs := Am A5
    have B8 := Am A3
    clear A5 A3
    replace p394 := eq_true p394
    replace q394 := eq_true q394
    refine start_ (n := 39) (S := fun w' => w'.cell? (Ab.add ((Aa).toNat * 10)) = some (.int .i64 ((rd_T52 l0 Aa).f0)) ∧ cA w' (Ab.add ((Aa).toNat * 10)) 1 (.int .i64 ((rd_T52 l0 Aa).f1)) ∧ cA w' (Ab.add ((Aa).toNat * 10)) 2 (.int .i64 ((rd_T52 l0 Aa).f2)) ∧ cA w' (Ab.add ((Aa).toNat * 10)) 3 (.string ((rd_T52 l0 Aa).f3)) ∧ cA w' (Ab.add ((Aa).toNat * 10)) 4 (.bool ((rd_T52 l0 Aa).f4.f0)) ∧ cA w' (Ab.add ((Aa).toNat * 10)) 5 (.slice Aq ((rd_T52 l0 Aa).f4.f1).length c391_5) ∧ cA w' (Ab.add ((Aa).toNat * 10)) 6 (.int .i64 ((rd_T52 l0 Aa).f4.f2.f0)) ∧ cA w' (Ab.add ((Aa).toNat * 10)) 7 (.int .i64 ((rd_T52 l0 Aa).f4.f2.f1)) ∧ cA w' (Ab.add ((Aa).toNat * 10)) 8 (.int .i64 ((rd_T52 l0 Aa).f4.f2.f2)) ∧ cA w' (Ab.add ((Aa).toNat * 10)) 9 (.int .u32 ((rd_T52 l0 Aa).f4.f2.f3)) ∧ w'.cell? (Ab.add (((ji7)).toNat * 10)) = some (.int .i64 ((rd_T52 l0 (ji7)).f0)) ∧ w'.cell? ⟨(Ab.add (((ji7)).toNat * 10)).block, (Ab.add (((ji7)).toNat * 10)).off + 1, none⟩ = some (.int .i64 ((rd_T52 l0 (ji7)).f1)) ∧ w'.cell? ⟨(Ab.add (((ji7)).toNat * 10)).block, (Ab.add (((ji7)).toNat * 10)).off + 2, none⟩ = some (.int .i64 ((rd_T52 l0 (ji7)).f2)) ∧ w'.cell? ⟨(Ab.add (((ji7)).toNat * 10)).block, (Ab.add (((ji7)).toNat * 10)).off + 3, none⟩ = some (.string ((rd_T52 l0 (ji7)).f3)) ∧ w'.cell? ⟨(Ab.add (((ji7)).toNat * 10)).block, (Ab.add (((ji7)).toNat * 10)).off + 4, none⟩ = some (.bool ((rd_T52 l0 (ji7)).f4.f0)) ∧ w'.cell? ⟨(Ab.add (((ji7)).toNat * 10)).block, (Ab.add (((ji7)).toNat * 10)).off + 5, none⟩ = some (.slice Bw ((rd_T52 l0 (ji7)).f4.f1).length c394_5) ∧ w'.cell? ⟨(Ab.add (((ji7)).toNat * 10)).block, (Ab.add (((ji7)).toNat * 10)).off + 6, none⟩ = some (.int .i64 ((rd_T52 l0 (ji7)).f4.f2.f0)) ∧ w'.cell? ⟨(Ab.add (((ji7)).toNat * 10)).block, (Ab.add (((ji7)).toNat * 10)).off + 7, none⟩ = some (.int .i64 ((rd_T52 l0 (ji7)).f4.f2.f1)) ∧ w'.cell? ⟨(Ab.add (((ji7)).toNat * 10)).block, (Ab.add (((ji7)).toNat * 10)).off + 8, none⟩ = some (.int .i64 ((rd_T52 l0 (ji7)).f4.f2.f2)) ∧ w'.cell? ⟨(Ab.add (((ji7)).toNat * 10)).block, (Ab.add (((ji7)).toNat * 10)).off + 9, none⟩ = some (.int .u32 ((rd_T52 l0 (ji7)).f4.f2.f3))) (ds := []) #[false, false, false, false, false, false, false, false, false, false, false, false, false, false, false, false, false, false, false, false, false, false, false, false, false, false, false, false, false, false, false, false, false, false, false, false, false, false, false] (by kernel_rfl) rfl rfl ⟨(cT HB.out Ae), (cT HB.out Af), (cT HB.out Ag), (cT HB.out Ah), (cT HB.out Ai), (cT HB.out Aj), (cT HB.out Ak), (cT HB.out Al), (cT HB.out An), (cT HB.out Ao), (cT HB.out A6), (cT HB.out A7), (cT HB.out A8), (cT HB.out A9), (cT HB.out Ba), (cT HB.out Bb), (cT HB.out Bc), (cT HB.out Bd), (cT HB.out Be), (cT HB.out Bf)⟩ (fun hHeld => ?_); refine with_tabW garnerref06_Batch.tab4 garnerref06_Batch.bits4 (fun HT_ HW_ => ?_)
    generalize wr.drew = w16 at HB Ap Bs Ar As At Au Av Aw Ax Ay Az A1 Bj Bk Bl Bm Bn Bg Bo Bp Bq Br hHeld ⊢
    refine pui 0 10 39 1 HT_ ?_
    refine pui 1 11 39 3 HT_ ?_
    refine pui 2 12 39 7 HT_ ?_
    refine tki 3 13 39 15 HT_ HW_ hHeld ?_
    refine onei 4 14 39 31 HT_ (fun K hK => ?_)
    refine goes_ Try.func54 (by kernel_rfl) rfl #[.agg #[.int .i64 ((rd_T52 l0 Aa).f0), .int .i64 ((rd_T52 l0 Aa).f1), .int .i64 ((rd_T52 l0 Aa).f2), .string ((rd_T52 l0 Aa).f3), .bool ((rd_T52 l0 Aa).f4.f0), .slice Aq ((rd_T52 l0 Aa).f4.f1).length c391_5, .int .i64 ((rd_T52 l0 Aa).f4.f2.f0), .int .i64 ((rd_T52 l0 Aa).f4.f2.f1), .int .i64 ((rd_T52 l0 Aa).f4.f2.f2), .int .u32 ((rd_T52 l0 Aa).f4.f2.f3)]] (by rfl) rfl rfl pL ?_
    with_reducible refine (garnerref06_May.calls k1 ((rd_T52 l0 Aa).f0) ((rd_T52 l0 Aa).f1) ((rd_T52 l0 Aa).f2) ((rd_T52 l0 Aa).f3) ((rd_T52 l0 Aa).f4.f0) _ _ ((rd_T52 l0 Aa).f4.f1) ((rd_T52 l0 Aa).f4.f2.f0) ((rd_T52 l0 Aa).f4.f2.f1) ((rd_T52 l0 Aa).f4.f2.f2) ((rd_T52 l0 Aa).f4.f2.f3) true _ ?Bh ?Bi A4.out).mono ?_
    (case Bh => exact pC (Kd.C_below Ap.out HB.out))
    (case Bi => exact A2.out)
    rintro e w17 ⟨rfl, hb⟩
    refine ⟨_, rfl, ?_⟩
    replace HB := Am (below_step (pB HB.out) hb)
    (try clear hb)
    (try clear hb2)
    (try clear hk)
    (try clear hi)
    refine hK.out _ _ ⟨(cT HB.out Ae), (cT HB.out Af), (cT HB.out Ag), (cT HB.out Ah), (cT HB.out Ai), (cT HB.out Aj), (cT HB.out Ak), (cT HB.out Al), (cT HB.out An), (cT HB.out Ao), (cT HB.out A6), (cT HB.out A7), (cT HB.out A8), (cT HB.out A9), (cT HB.out Ba), (cT HB.out Bb), (cT HB.out Bc), (cT HB.out Bd), (cT HB.out Be), (cT HB.out Bf)⟩ (fun hHeld => ?_)
    clear hK K
    refine norm_ (a' := ?_) ?_ ?_
    rotate_left
    ·show Act.put _ (some 14) _ = _
     simp only [Act.put, List.setIfInBounds_toArray, List.set_cons_zero, List.set_cons_succ, i64_w, i32_w]
     rfl
    refine pui 5 15 39 63 HT_ ?_
    refine pui 6 16 39 127 HT_ ?_
    refine pui 7 17 39 255 HT_ ?_
    refine pui 8 18 39 511 HT_ ?_
    refine pui 9 19 39 1023 HT_ ?_
    refine pui 10 20 39 2047 HT_ ?_
    refine pui 11 21 39 4095 HT_ ?_
    refine pui 12 22 39 8191 HT_ ?_
    refine pui 13 23 39 16383 HT_ ?_
    refine pui 16 26 39 81919 HT_ ?_
    refine pui 17 27 39 212991 HT_ ?_
    refine pui 18 28 39 475135 HT_ ?_
    refine pui 19 29 39 999423 HT_ ?_
    refine pui 20 30 39 2047999 HT_ ?_
    refine tki 14 24 39 2064383 HT_ HW_ hHeld ?_
    refine pui 15 25 39 2097151 HT_ ?_
    refine tki 21 31 39 4194303 HT_ HW_ hHeld ?_
    refine pui 22 32 39 8388607 HT_ ?_
    refine pui 23 33 39 16777215 HT_ ?_
    refine pdi 24 34 39 33554431 HT_ ?_
    refine pdi 25 35 39 67108863 HT_ ?_
    refine pdi 26 36 39 134217727 HT_ ?_
    refine pdi 27 37 39 268435455 HT_ ?_
    refine pdi 28 38 39 536870911 HT_ ?_
    refine pdi 29 39 39 1073741823 HT_ ?_
    refine pdi 30 40 39 2147483647 HT_ ?_
    refine pdi 31 41 39 4294967295 HT_ ?_
    refine pdi 32 42 39 8589934591 HT_ ?_
    refine pdi 33 43 39 17179869183 HT_ ?_
    refine pdi 34 44 39 34359738367 HT_ ?_
    refine pdi 35 45 39 68719476735 HT_ ?_
    refine pui 36 46 39 137438953471 HT_ ?_
    refine pui 37 47 39 274877906943 HT_ ?_
    refine pui 38 48 39 549755813887 HT_ ?_
    refine done_ (done_of HT_.out (by kernel_rfl)) ?_
    try go_wp2
    go_ret
    exact ⟨by first | rfl | (simp [errW_none, errW_some] <;> rfl) | (simp only [← hji7]; first | rfl | (simp [errW_none, errW_some] <;> rfl)) | (simp [*, errW_none, errW_some] <;> rfl), pB HB.out⟩
   rw [if_pos c10] at H
   have c10b0 := beq_iff_eq.mpr c10
   have c10b1 := bne_eq_false_iff_eq.mpr c10
   clear c10
   by_cases c11 : ((rd_T52 l0 Aa).f1) < ((rd_T52 l0 (ji7)).f1)
   ·rw [if_pos c11] at H
    have c11b0 := decide_eq_true c11
    clear c11
    obtain rfl := Option.some.inj H
    try go_wp2
    replace HB := bDa HB
    have p391 : 0 ≤ (Aa : Int) := of_decide_eq_true pS
    have q391 : Aa < (l0.length : Int) := of_decide_eq_true pS
    obtain ⟨Ab, Aq, c391_5, e391, Ar, As, At, Au, Av, Aw, Ax, Ay, Az, A1, Ac, Ad, Ae, Af, Ag, Ah, Ai, Aj, Ak, Al, An, Ao⟩ := at_T52w HR0.out Aa p391 q391 HB.out
    cases e391
    have Ap := Am Ad
    have A2 := Am Ac
    clear Ad Ac
    replace p391 := eq_true p391
    replace q391 := eq_true q391
    have p394 : 0 ≤ ((ji7) : Int) := of_decide_eq_true pS
    have q394 : (ji7) < (l0.length : Int) := of_decide_eq_true pS
    obtain ⟨B7, Bw, c394_5, e394, Bj, Bk, Bl, Bm, Bn, Bg, Bo, Bp, Bq, Br, A3, A5, A6, A7, A8, A9, Ba, Bb, Bc, Bd, Be, Bf⟩ := at_T52w HR0.out (ji7) p394 q394 HB.out
    obtain rfl : Ab = B7 := (by injection e394)
    have Bs := Am A5
    have B8 := Am A3
    clear A5 A3
    replace p394 := eq_true p394
    replace q394 := eq_true q394
    have p396 : 0 ≤ ((ji7) : Int) := of_decide_eq_true pS
    have q396 : (ji7) < (l0.length : Int) := of_decide_eq_true pS
    obtain ⟨B9, Cl, c396_5, e396, Bx, By, Bz, B0, B1, Bt, B2, B3, B4, B5, Bu, Bv, Ca, Cb, Cc, Cd, Ce, Cf, Cg, Ch, Ci, Cj⟩ := at_T52w HR0.out (ji7) p396 q396 HB.out
    obtain rfl : Ab = B9 := (by injection e396)
    have B6 := Am Bv
    have Ck := Am Bu
    clear Bv Bu
    replace p396 := eq_true p396
    replace q396 := eq_true q396
    have ea_ := Option.some.inj (Bg.symm.trans Bt)
    injection ea_ with ea_ en_ ec_
    subst ea_
    subst ec_
    clear en_
    refine start_ (n := 39) (S := fun w' => w'.cell? (Ab.add ((Aa).toNat * 10)) = some (.int .i64 ((rd_T52 l0 Aa).f0)) ∧ cA w' (Ab.add ((Aa).toNat * 10)) 1 (.int .i64 ((rd_T52 l0 Aa).f1)) ∧ cA w' (Ab.add ((Aa).toNat * 10)) 2 (.int .i64 ((rd_T52 l0 Aa).f2)) ∧ cA w' (Ab.add ((Aa).toNat * 10)) 3 (.string ((rd_T52 l0 Aa).f3)) ∧ cA w' (Ab.add ((Aa).toNat * 10)) 4 (.bool ((rd_T52 l0 Aa).f4.f0)) ∧ cA w' (Ab.add ((Aa).toNat * 10)) 5 (.slice Aq ((rd_T52 l0 Aa).f4.f1).length c391_5) ∧ cA w' (Ab.add ((Aa).toNat * 10)) 6 (.int .i64 ((rd_T52 l0 Aa).f4.f2.f0)) ∧ cA w' (Ab.add ((Aa).toNat * 10)) 7 (.int .i64 ((rd_T52 l0 Aa).f4.f2.f1)) ∧ cA w' (Ab.add ((Aa).toNat * 10)) 8 (.int .i64 ((rd_T52 l0 Aa).f4.f2.f2)) ∧ cA w' (Ab.add ((Aa).toNat * 10)) 9 (.int .u32 ((rd_T52 l0 Aa).f4.f2.f3)) ∧ w'.cell? (Ab.add (((ji7)).toNat * 10)) = some (.int .i64 ((rd_T52 l0 (ji7)).f0)) ∧ w'.cell? ⟨(Ab.add (((ji7)).toNat * 10)).block, (Ab.add (((ji7)).toNat * 10)).off + 1, none⟩ = some (.int .i64 ((rd_T52 l0 (ji7)).f1)) ∧ w'.cell? ⟨(Ab.add (((ji7)).toNat * 10)).block, (Ab.add (((ji7)).toNat * 10)).off + 2, none⟩ = some (.int .i64 ((rd_T52 l0 (ji7)).f2)) ∧ w'.cell? ⟨(Ab.add (((ji7)).toNat * 10)).block, (Ab.add (((ji7)).toNat * 10)).off + 3, none⟩ = some (.string ((rd_T52 l0 (ji7)).f3)) ∧ w'.cell? ⟨(Ab.add (((ji7)).toNat * 10)).block, (Ab.add (((ji7)).toNat * 10)).off + 4, none⟩ = some (.bool ((rd_T52 l0 (ji7)).f4.f0)) ∧ w'.cell? ⟨(Ab.add (((ji7)).toNat * 10)).block, (Ab.add (((ji7)).toNat * 10)).off + 5, none⟩ = some (.slice Bw ((rd_T52 l0 (ji7)).f4.f1).length c394_5) ∧ w'.cell? ⟨(Ab.add (((ji7)).toNat * 10)).block, (Ab.add (((ji7)).toNat * 10)).off + 6, none⟩ = some (.int .i64 ((rd_T52 l0 (ji7)).f4.f2.f0)) ∧ w'.cell? ⟨(Ab.add (((ji7)).toNat * 10)).block, (Ab.add (((ji7)).toNat * 10)).off + 7, none⟩ = some (.int .i64 ((rd_T52 l0 (ji7)).f4.f2.f1)) ∧ w'.cell? ⟨(Ab.add (((ji7)).toNat * 10)).block, (Ab.add (((ji7)).toNat * 10)).off + 8, none⟩ = some (.int .i64 ((rd_T52 l0 (ji7)).f4.f2.f2)) ∧ w'.cell? ⟨(Ab.add (((ji7)).toNat * 10)).block, (Ab.add (((ji7)).toNat * 10)).off + 9, none⟩ = some (.int .u32 ((rd_T52 l0 (ji7)).f4.f2.f3))) (ds := []) #[false, false, false, false, false, false, false, false, false, false, false, false, false, false, false, false, false, false, false, false, false, false, false, false, false, false, false, false, false, false, false, false, false, false, false, false, false, false, false] (by kernel_rfl) rfl rfl ⟨(cT HB.out Ae), (cT HB.out Af), (cT HB.out Ag), (cT HB.out Ah), (cT HB.out Ai), (cT HB.out Aj), (cT HB.out Ak), (cT HB.out Al), (cT HB.out An), (cT HB.out Ao), (cT HB.out A6), (cT HB.out A7), (cT HB.out A8), (cT HB.out A9), (cT HB.out Ba), (cT HB.out Bb), (cT HB.out Bc), (cT HB.out Bd), (cT HB.out Be), (cT HB.out Bf)⟩ (fun hHeld => ?_); refine with_tabW garnerref06_Batch.tab4 garnerref06_Batch.bits4 (fun HT_ HW_ => ?_)
    generalize wr.drew = w12 at HB Ap Bs B6 Ar As At Au Av Aw Ax Ay Az A1 Bj Bk Bl Bm Bn Bg Bo Bp Bq Br Bx By Bz B0 B1 Bt B2 B3 B4 B5 hHeld ⊢
    refine pui 0 10 39 1 HT_ ?_
    refine pui 1 11 39 3 HT_ ?_
    refine pui 2 12 39 7 HT_ ?_
    refine tki 3 13 39 15 HT_ HW_ hHeld ?_
    refine onei 4 14 39 31 HT_ (fun K hK => ?_)
    refine goes_ Try.func54 (by kernel_rfl) rfl #[.agg #[.int .i64 ((rd_T52 l0 Aa).f0), .int .i64 ((rd_T52 l0 Aa).f1), .int .i64 ((rd_T52 l0 Aa).f2), .string ((rd_T52 l0 Aa).f3), .bool ((rd_T52 l0 Aa).f4.f0), .slice Aq ((rd_T52 l0 Aa).f4.f1).length c391_5, .int .i64 ((rd_T52 l0 Aa).f4.f2.f0), .int .i64 ((rd_T52 l0 Aa).f4.f2.f1), .int .i64 ((rd_T52 l0 Aa).f4.f2.f2), .int .u32 ((rd_T52 l0 Aa).f4.f2.f3)]] (by rfl) rfl rfl pL ?_
    with_reducible refine (garnerref06_May.calls k1 ((rd_T52 l0 Aa).f0) ((rd_T52 l0 Aa).f1) ((rd_T52 l0 Aa).f2) ((rd_T52 l0 Aa).f3) ((rd_T52 l0 Aa).f4.f0) _ _ ((rd_T52 l0 Aa).f4.f1) ((rd_T52 l0 Aa).f4.f2.f0) ((rd_T52 l0 Aa).f4.f2.f1) ((rd_T52 l0 Aa).f4.f2.f2) ((rd_T52 l0 Aa).f4.f2.f3) true _ ?Bh ?Bi A4.out).mono ?_
    (case Bh => exact pC (Kd.C_below Ap.out HB.out))
    (case Bi => exact A2.out)
    rintro e w13 ⟨rfl, hb⟩
    refine ⟨_, rfl, ?_⟩
    replace HB := Am (below_step (pB HB.out) hb)
    (try clear hb)
    (try clear hb2)
    (try clear hk)
    (try clear hi)
    refine hK.out _ _ ⟨(cT HB.out Ae), (cT HB.out Af), (cT HB.out Ag), (cT HB.out Ah), (cT HB.out Ai), (cT HB.out Aj), (cT HB.out Ak), (cT HB.out Al), (cT HB.out An), (cT HB.out Ao), (cT HB.out A6), (cT HB.out A7), (cT HB.out A8), (cT HB.out A9), (cT HB.out Ba), (cT HB.out Bb), (cT HB.out Bc), (cT HB.out Bd), (cT HB.out Be), (cT HB.out Bf)⟩ (fun hHeld => ?_)
    clear hK K
    refine norm_ (a' := ?_) ?_ ?_
    rotate_left
    ·show Act.put _ (some 14) _ = _
     simp only [Act.put, List.setIfInBounds_toArray, List.set_cons_zero, List.set_cons_succ, i64_w, i32_w]
     rfl
    refine pui 5 15 39 63 HT_ ?_
    refine pui 6 16 39 127 HT_ ?_
    refine pui 7 17 39 255 HT_ ?_
    refine pui 8 18 39 511 HT_ ?_
    refine pui 9 19 39 1023 HT_ ?_
    refine pui 10 20 39 2047 HT_ ?_
    refine pui 11 21 39 4095 HT_ ?_
    refine pui 12 22 39 8191 HT_ ?_
    refine pui 13 23 39 16383 HT_ ?_
    refine pui 16 26 39 81919 HT_ ?_
    refine pui 17 27 39 212991 HT_ ?_
    refine pui 18 28 39 475135 HT_ ?_
    refine pui 19 29 39 999423 HT_ ?_
    refine pui 20 30 39 2047999 HT_ ?_
    refine tki 14 24 39 2064383 HT_ HW_ hHeld ?_
    refine pui 15 25 39 2097151 HT_ ?_
    refine tki 21 31 39 4194303 HT_ HW_ hHeld ?_
    refine pui 22 32 39 8388607 HT_ ?_
    refine pui 23 33 39 16777215 HT_ ?_
    refine pui 24 34 39 33554431 HT_ ?_
    refine pui 25 35 39 67108863 HT_ ?_
    refine pui 26 36 39 134217727 HT_ ?_
    refine pui 27 37 39 268435455 HT_ ?_
    refine pui 29 39 39 805306367 HT_ ?_
    refine pui 30 40 39 1879048191 HT_ ?_
    refine pui 31 41 39 4026531839 HT_ ?_
    refine pui 32 42 39 8321499135 HT_ ?_
    refine pui 33 43 39 16911433727 HT_ ?_
    refine tki 28 38 39 17179869183 HT_ HW_ hHeld ?_
    refine tki 34 44 39 34359738367 HT_ HW_ hHeld ?_
    refine pui 35 45 39 68719476735 HT_ ?_
    refine pui 36 46 39 137438953471 HT_ ?_
    refine pui 37 47 39 274877906943 HT_ ?_
    refine pui 38 48 39 549755813887 HT_ ?_
    refine done_ (done_of HT_.out (by kernel_rfl)) ?_
    try go_wp2
    go_ret
    exact ⟨by first | rfl | (simp [errW_none, errW_some] <;> rfl) | (simp only [← hji7]; first | rfl | (simp [errW_none, errW_some] <;> rfl)) | (simp [*, errW_none, errW_some] <;> rfl), pB HB.out⟩
   rw [if_neg c11] at H
   have c11b0 := decide_eq_false c11
   clear c11
   have H' := Am H
   clear H
   try go_wp2
   replace HB := bDa HB
   have p391 : 0 ≤ (Aa : Int) := of_decide_eq_true pS
   have q391 : Aa < (l0.length : Int) := of_decide_eq_true pS
   obtain ⟨Ab, Aq, c391_5, e391, Ar, As, At, Au, Av, Aw, Ax, Ay, Az, A1, Ac, Ad, Ae, Af, Ag, Ah, Ai, Aj, Ak, Al, An, Ao⟩ := at_T52w HR0.out Aa p391 q391 HB.out
   cases e391
   have Ap := Am Ad
   have A2 := Am Ac
   clear Ad Ac
   replace p391 := eq_true p391
   replace q391 := eq_true q391
   have p394 : 0 ≤ ((ji7) : Int) := of_decide_eq_true pS
   have q394 : (ji7) < (l0.length : Int) := of_decide_eq_true pS
   obtain ⟨B7, Bw, c394_5, e394, Bj, Bk, Bl, Bm, Bn, Bg, Bo, Bp, Bq, Br, A3, A5, A6, A7, A8, A9, Ba, Bb, Bc, Bd, Be, Bf⟩ := at_T52w HR0.out (ji7) p394 q394 HB.out
   obtain rfl : Ab = B7 := (by injection e394)
   have Bs := Am A5
   have B8 := Am A3
   clear A5 A3
   replace p394 := eq_true p394
   replace q394 := eq_true q394
   have p396 : 0 ≤ ((ji7) : Int) := of_decide_eq_true pS
   have q396 : (ji7) < (l0.length : Int) := of_decide_eq_true pS
   obtain ⟨B9, Cl, c396_5, e396, Bx, By, Bz, B0, B1, Bt, B2, B3, B4, B5, Bu, Bv, Ca, Cb, Cc, Cd, Ce, Cf, Cg, Ch, Ci, Cj⟩ := at_T52w HR0.out (ji7) p396 q396 HB.out
   obtain rfl : Ab = B9 := (by injection e396)
   have B6 := Am Bv
   have Ck := Am Bu
   clear Bv Bu
   replace p396 := eq_true p396
   replace q396 := eq_true q396
   have ea_ := Option.some.inj (Bg.symm.trans Bt)
   injection ea_ with ea_ en_ ec_
   subst ea_
   subst ec_
   clear en_
   refine start_ (n := 39) (S := fun w' => w'.cell? (Ab.add ((Aa).toNat * 10)) = some (.int .i64 ((rd_T52 l0 Aa).f0)) ∧ cA w' (Ab.add ((Aa).toNat * 10)) 1 (.int .i64 ((rd_T52 l0 Aa).f1)) ∧ cA w' (Ab.add ((Aa).toNat * 10)) 2 (.int .i64 ((rd_T52 l0 Aa).f2)) ∧ cA w' (Ab.add ((Aa).toNat * 10)) 3 (.string ((rd_T52 l0 Aa).f3)) ∧ cA w' (Ab.add ((Aa).toNat * 10)) 4 (.bool ((rd_T52 l0 Aa).f4.f0)) ∧ cA w' (Ab.add ((Aa).toNat * 10)) 5 (.slice Aq ((rd_T52 l0 Aa).f4.f1).length c391_5) ∧ cA w' (Ab.add ((Aa).toNat * 10)) 6 (.int .i64 ((rd_T52 l0 Aa).f4.f2.f0)) ∧ cA w' (Ab.add ((Aa).toNat * 10)) 7 (.int .i64 ((rd_T52 l0 Aa).f4.f2.f1)) ∧ cA w' (Ab.add ((Aa).toNat * 10)) 8 (.int .i64 ((rd_T52 l0 Aa).f4.f2.f2)) ∧ cA w' (Ab.add ((Aa).toNat * 10)) 9 (.int .u32 ((rd_T52 l0 Aa).f4.f2.f3)) ∧ w'.cell? (Ab.add (((ji7)).toNat * 10)) = some (.int .i64 ((rd_T52 l0 (ji7)).f0)) ∧ w'.cell? ⟨(Ab.add (((ji7)).toNat * 10)).block, (Ab.add (((ji7)).toNat * 10)).off + 1, none⟩ = some (.int .i64 ((rd_T52 l0 (ji7)).f1)) ∧ w'.cell? ⟨(Ab.add (((ji7)).toNat * 10)).block, (Ab.add (((ji7)).toNat * 10)).off + 2, none⟩ = some (.int .i64 ((rd_T52 l0 (ji7)).f2)) ∧ w'.cell? ⟨(Ab.add (((ji7)).toNat * 10)).block, (Ab.add (((ji7)).toNat * 10)).off + 3, none⟩ = some (.string ((rd_T52 l0 (ji7)).f3)) ∧ w'.cell? ⟨(Ab.add (((ji7)).toNat * 10)).block, (Ab.add (((ji7)).toNat * 10)).off + 4, none⟩ = some (.bool ((rd_T52 l0 (ji7)).f4.f0)) ∧ w'.cell? ⟨(Ab.add (((ji7)).toNat * 10)).block, (Ab.add (((ji7)).toNat * 10)).off + 5, none⟩ = some (.slice Bw ((rd_T52 l0 (ji7)).f4.f1).length c394_5) ∧ w'.cell? ⟨(Ab.add (((ji7)).toNat * 10)).block, (Ab.add (((ji7)).toNat * 10)).off + 6, none⟩ = some (.int .i64 ((rd_T52 l0 (ji7)).f4.f2.f0)) ∧ w'.cell? ⟨(Ab.add (((ji7)).toNat * 10)).block, (Ab.add (((ji7)).toNat * 10)).off + 7, none⟩ = some (.int .i64 ((rd_T52 l0 (ji7)).f4.f2.f1)) ∧ w'.cell? ⟨(Ab.add (((ji7)).toNat * 10)).block, (Ab.add (((ji7)).toNat * 10)).off + 8, none⟩ = some (.int .i64 ((rd_T52 l0 (ji7)).f4.f2.f2)) ∧ w'.cell? ⟨(Ab.add (((ji7)).toNat * 10)).block, (Ab.add (((ji7)).toNat * 10)).off + 9, none⟩ = some (.int .u32 ((rd_T52 l0 (ji7)).f4.f2.f3))) (ds := []) #[false, false, false, false, false, false, false, false, false, false, false, false, false, false, false, false, false, false, false, false, false, false, false, false, false, false, false, false, false, false, false, false, false, false, false, false, false, false, false] (by kernel_rfl) rfl rfl ⟨(cT HB.out Ae), (cT HB.out Af), (cT HB.out Ag), (cT HB.out Ah), (cT HB.out Ai), (cT HB.out Aj), (cT HB.out Ak), (cT HB.out Al), (cT HB.out An), (cT HB.out Ao), (cT HB.out A6), (cT HB.out A7), (cT HB.out A8), (cT HB.out A9), (cT HB.out Ba), (cT HB.out Bb), (cT HB.out Bc), (cT HB.out Bd), (cT HB.out Be), (cT HB.out Bf)⟩ (fun hHeld => ?_); refine with_tabW garnerref06_Batch.tab4 garnerref06_Batch.bits4 (fun HT_ HW_ => ?_)
   generalize wr.drew = w14 at HB Ap Bs B6 Ar As At Au Av Aw Ax Ay Az A1 Bj Bk Bl Bm Bn Bg Bo Bp Bq Br Bx By Bz B0 B1 Bt B2 B3 B4 B5 hHeld ⊢
   refine pui 0 10 39 1 HT_ ?_
   refine pui 1 11 39 3 HT_ ?_
   refine pui 2 12 39 7 HT_ ?_
   refine tki 3 13 39 15 HT_ HW_ hHeld ?_
   refine onei 4 14 39 31 HT_ (fun K hK => ?_)
   refine goes_ Try.func54 (by kernel_rfl) rfl #[.agg #[.int .i64 ((rd_T52 l0 Aa).f0), .int .i64 ((rd_T52 l0 Aa).f1), .int .i64 ((rd_T52 l0 Aa).f2), .string ((rd_T52 l0 Aa).f3), .bool ((rd_T52 l0 Aa).f4.f0), .slice Aq ((rd_T52 l0 Aa).f4.f1).length c391_5, .int .i64 ((rd_T52 l0 Aa).f4.f2.f0), .int .i64 ((rd_T52 l0 Aa).f4.f2.f1), .int .i64 ((rd_T52 l0 Aa).f4.f2.f2), .int .u32 ((rd_T52 l0 Aa).f4.f2.f3)]] (by rfl) rfl rfl pL ?_
   with_reducible refine (garnerref06_May.calls k1 ((rd_T52 l0 Aa).f0) ((rd_T52 l0 Aa).f1) ((rd_T52 l0 Aa).f2) ((rd_T52 l0 Aa).f3) ((rd_T52 l0 Aa).f4.f0) _ _ ((rd_T52 l0 Aa).f4.f1) ((rd_T52 l0 Aa).f4.f2.f0) ((rd_T52 l0 Aa).f4.f2.f1) ((rd_T52 l0 Aa).f4.f2.f2) ((rd_T52 l0 Aa).f4.f2.f3) true _ ?Bh ?Bi A4.out).mono ?_
   (case Bh => exact pC (Kd.C_below Ap.out HB.out))
   (case Bi => exact A2.out)
   rintro e w15 ⟨rfl, hb⟩
   refine ⟨_, rfl, ?_⟩
   replace HB := Am (below_step (pB HB.out) hb)
   (try clear hb)
   (try clear hb2)
   (try clear hk)
   (try clear hi)
   refine hK.out _ _ ⟨(cT HB.out Ae), (cT HB.out Af), (cT HB.out Ag), (cT HB.out Ah), (cT HB.out Ai), (cT HB.out Aj), (cT HB.out Ak), (cT HB.out Al), (cT HB.out An), (cT HB.out Ao), (cT HB.out A6), (cT HB.out A7), (cT HB.out A8), (cT HB.out A9), (cT HB.out Ba), (cT HB.out Bb), (cT HB.out Bc), (cT HB.out Bd), (cT HB.out Be), (cT HB.out Bf)⟩ (fun hHeld => ?_)
   clear hK K
   refine norm_ (a' := ?_) ?_ ?_
   rotate_left
   ·show Act.put _ (some 14) _ = _
    simp only [Act.put, List.setIfInBounds_toArray, List.set_cons_zero, List.set_cons_succ, i64_w, i32_w]
    rfl
   refine pui 5 15 39 63 HT_ ?_
   refine pui 6 16 39 127 HT_ ?_
   refine pui 7 17 39 255 HT_ ?_
   refine pui 8 18 39 511 HT_ ?_
   refine pui 9 19 39 1023 HT_ ?_
   refine pui 10 20 39 2047 HT_ ?_
   refine pui 11 21 39 4095 HT_ ?_
   refine pui 12 22 39 8191 HT_ ?_
   refine pui 13 23 39 16383 HT_ ?_
   refine pui 16 26 39 81919 HT_ ?_
   refine pui 17 27 39 212991 HT_ ?_
   refine pui 18 28 39 475135 HT_ ?_
   refine pui 19 29 39 999423 HT_ ?_
   refine pui 20 30 39 2047999 HT_ ?_
   refine tki 14 24 39 2064383 HT_ HW_ hHeld ?_
   refine pui 15 25 39 2097151 HT_ ?_
   refine tki 21 31 39 4194303 HT_ HW_ hHeld ?_
   refine pui 22 32 39 8388607 HT_ ?_
   refine pui 23 33 39 16777215 HT_ ?_
   refine pui 24 34 39 33554431 HT_ ?_
   refine pui 25 35 39 67108863 HT_ ?_
   refine pui 26 36 39 134217727 HT_ ?_
   refine pui 27 37 39 268435455 HT_ ?_
   refine pui 29 39 39 805306367 HT_ ?_
   refine pui 30 40 39 1879048191 HT_ ?_
   refine pui 31 41 39 4026531839 HT_ ?_
   refine pui 32 42 39 8321499135 HT_ ?_
   refine pui 33 43 39 16911433727 HT_ ?_
   refine tki 28 38 39 17179869183 HT_ HW_ hHeld ?_
   refine tki 34 44 39 34359738367 HT_ HW_ hHeld ?_
   refine pui 35 45 39 68719476735 HT_ ?_
   refine pui 36 46 39 137438953471 HT_ ?_
   refine pui 37 47 39 274877906943 HT_ ?_
   refine pui 38 48 39 549755813887 HT_ ?_
   refine done_ (done_of HT_.out (by kernel_rfl)) ?_
   try go_wp2
   go_roundg k1
   case measure => have := HK1.out; omega
   case rel => exact ⟨(wrap64 (Aa + 1)), zr, H', ⟨by have := HK1.out; omega⟩, ⟨pB HB.out⟩⟩
def garnerref02_One.f : Nat → Int → Option (List Int)
 | 0, _ => none
 | k + 1, a0 => if a0 < 128 then (some (([(a0) % 256] : List Int))) else ((some (([(((Int.tmod a0 128) % 256) + 128) % 256] : List Int) : List Int)).bind fun y400 => ((garnerref02_One.f k (IntKind.u64.wrap (Int.tdiv a0 128))).bind fun t403 => (if y400.length + t403.length < 140737488355328 then (some (y400 ++ t403)) else (none))))
theorem garnerref02_One.mono_l : ∀ k, (∀ y0, LeO (garnerref02_One.f k y0) (garnerref02_One.f (k + 1) y0))
 | 0 => fun _ r h => by simp [garnerref02_One.f] at h
 | k + 1 => by
  have ih0 := garnerref02_One.mono_l k
  ·intro y0
   unfold garnerref02_One.f
   repeat' (with_reducible first | exact ih0 .. | exact LeO.refl .. | exact LeO.none .. | refine LeO.ite ?_ ?_ | refine LeO.bind ?_ (fun _ => ?_))
theorem garnerref02_One.mono : ∀ a0 k, LeO (garnerref02_One.f k a0) (garnerref02_One.f (k + 1) a0) := by
 intro a0 k
 have ih0 := garnerref02_One.mono_l k
 exact ih0 a0
set_option maxHeartbeats 8000000 in
set_option maxRecDepth 100000 in
theorem garnerref02_One.calls (k : Nat) : ∀ (a0 : Int) (r : List Int) (w : World) (h : garnerref02_One.f k a0 = some r),
 Calls Try.prog 36 #[.int .u64 a0] w fun e w' => ∃ v0_ : Value, e = .returned (v0_) ∧ Kd.R (Kd.int .u8) 5 w' w.heap.size (fun _ => True) v0_ r ∧ Below w.heap.size w w' := by
 induction k using Nat.strongRecOn with
 | _ k ih =>
 intro a0 r w h
 cases k with
 | zero => exact absurd h (by simp [garnerref02_One.f])
 | succ k =>
 simp only [garnerref02_One.f] at h
 have HB := Am (Below.refl w.heap.size w)
 have H : (if a0 < 128 then (some (([(a0) % 256] : List Int))) else ((some (([(((Int.tmod a0 128) % 256) + 128) % 256] : List Int) : List Int)).bind fun y400 => ((garnerref02_One.f k (IntKind.u64.wrap (Int.tdiv a0 128))).bind fun t403 => (if y400.length + t403.length < 140737488355328 then (some (y400 ++ t403)) else (none))))) = some r := h
 clear h
 by_cases c2 : a0 < 128
 ·rw [if_pos c2] at H
  have c2b0 := decide_eq_true c2
  clear c2
  obtain ⟨y397, hy397⟩ : ∃ y_ : List Int, y_ = (([(a0) % 256] : List Int)) := ⟨_, rfl⟩
  replace H : (some y397) = some r := by first | (rw [hy397]; with_reducible exact H) | (have H2_ := (Option.bind_some _ _).symm.trans H; rw [hy397]; with_reducible exact H2_) | (have H2_ := (Option.bind_some _ _).symm.trans H; with_reducible exact H2_) | with_reducible exact H | (rw [hy397]; exact H) | exact H
  have Ny397 := Am hy397
  clear hy397
  obtain rfl := Option.some.inj H
  go_enter Try.func36, Try.ntmps36
  go_wp2_with (first | ((with_reducible refine gate_dst (N := 7) rfl ?_); refine Kd.R_lit (Kd.int .u8) _ 5 ?hg (N := 7) ?hd (xs := ([(a0) % 256] : List Int)) (inner := [.int .u8 ((a0) % 256)]) (ok := fun _ => True) (okp := fun _ => True) ?hr ?hp (fun _ hk => hk) trivial (Below.refl _ _) (Nat.le_refl _) (by simp) ?_; (case hd => rfl); (case hg => rfl); (case hr => first | (go_simp; done) | (go_simp; rfl)); (case hp => exact (Reps.one (show Kd.M (Kd.int .u8) _ _ _ ((a0) % 256) [.int .u8 ((a0) % 256)] from rfl) (Reps.none _ _))); intro v398 w3 ho4 hb hg_ hnew_; clear hg_ hnew_; (first | rw [← Ny397.out] at ho4 | (simp only [Int.reduceToNat] at ho4; rw [← Ny397.out] at ho4)); have Ac := Am (Kd.R_lower ho4 (below_size (pB HB.out))); replace HB := Am (below_step (pB HB.out) hb); clear hb ho4))
  go_ret
  exact ⟨_, pX, by (with_reducible repeat (first | apply Kd.R_alloc | apply Kd.R_drewN | apply Kd.R_drew)); exact Ac.out, pB HB.out⟩
 rw [if_neg c2] at H
 have c2b0 := decide_eq_false c2
 clear c2
 obtain ⟨y400, hy400⟩ : ∃ y_ : List Int, y_ = (([(((Int.tmod a0 128) % 256) + 128) % 256] : List Int)) := ⟨_, rfl⟩
 replace H : ((garnerref02_One.f k (IntKind.u64.wrap (Int.tdiv a0 128))).bind fun t403 => (if y400.length + t403.length < 140737488355328 then (some (y400 ++ t403)) else (none))) = some r := by first | (rw [hy400]; with_reducible exact H) | (have H2_ := (Option.bind_some _ _).symm.trans H; rw [hy400]; with_reducible exact H2_) | (have H2_ := (Option.bind_some _ _).symm.trans H; with_reducible exact H2_) | with_reducible exact H | (rw [hy400]; exact H) | exact H
 have Ny400 := Am hy400
 clear hy400
 replace H := Option.bind_eq_some_iff.mp H
 obtain ⟨t403, A50, H⟩ := H
 have A5 := Am A50
 clear A50
 obtain ⟨c6, H⟩ := zI H
 have LMc6 := Am c6
 clear c6
 obtain ⟨y406, hy406⟩ : ∃ y_ : List Int, y_ = (y400 ++ t403) := ⟨_, rfl⟩
 replace H : (some y406) = some r := by first | (rw [hy406]; with_reducible exact H) | (have H2_ := (Option.bind_some _ _).symm.trans H; rw [hy406]; with_reducible exact H2_) | (have H2_ := (Option.bind_some _ _).symm.trans H; with_reducible exact H2_) | with_reducible exact H | (rw [hy406]; exact H) | exact H
 have Ny406 := Am hy406
 clear hy406
 obtain rfl := Option.some.inj H
 go_enter Try.func36, Try.ntmps36
 go_wp2_with (first | ((with_reducible refine gate_dst (N := 12) rfl ?_); refine Kd.R_lit (Kd.int .u8) _ 5 ?hg (N := 12) ?hd (xs := ([(((Int.tmod a0 128) % 256) + 128) % 256] : List Int)) (inner := [.int .u8 ((((Int.tmod a0 128) % 256) + 128) % 256)]) (ok := fun _ => True) (okp := fun _ => True) ?hr ?hp (fun _ hk => hk) trivial (Below.refl _ _) (Nat.le_refl _) (by simp) ?_; (case hd => rfl); (case hg => rfl); (case hr => first | (go_simp; done) | (go_simp; rfl)); (case hp => exact (Reps.one (show Kd.M (Kd.int .u8) _ _ _ ((((Int.tmod a0 128) % 256) + 128) % 256) [.int .u8 ((((Int.tmod a0 128) % 256) + 128) % 256)] from rfl) (Reps.none _ _))); intro v401 w7 ho8 hb hg_ hnew_; clear hg_ hnew_; (first | rw [← Ny400.out] at ho8 | (simp only [Int.reduceToNat] at ho8; rw [← Ny400.out] at ho8)); have Aa := Am (Kd.R_lower ho8 (below_size (pB HB.out))); replace HB := Am (below_step (pB HB.out) hb); clear hb ho8) | ((with_reducible refine gate_callee (f := 36) rfl ?_); refine goesL_ (some 15) rfl rfl Try.func36 (by kernel_rfl) rfl #[.int .u64 (IntKind.u64.wrap (Int.tdiv a0 128))] rfl pL ?_; (with_reducible refine (ih k (by omega) (IntKind.u64.wrap (Int.tdiv a0 128)) t403 _ A5.out).mono ?_); rintro e w9 ⟨v404, rfl, ho0, hb⟩; refine ⟨_, rfl, ?_⟩; have Ab := Am (Kd.R_lower (Kd.R_new' ho0 (Kd.R_lt (pR Aa.out))) (below_size (pB HB.out))); replace Aa := Am (Kd.R_elder' (pR Aa.out) (Kd.R_base ho0) hb); replace HB := Am (below_step (pB HB.out) hb); (try clear hb); (try clear hb2); (try clear hk); (try clear hi); (try clear ho0); obtain ⟨Ae, Af, Ag⟩ := Kd.R_slice Ab.out; subst Ag) | ((with_reducible refine gate_builtin (b := .append) (xs := #[.tmp 12, .tmp 15]) rfl ?_); at_builtin; refine Kd.R_append_rows (Kd.int .u8) (w0 := w) w.heap.size rfl (.tmp 12) (.tmp 15) 22 5 (.int .u8 0) 1 rfl Try.underlying22 info5 rfl (by decide) (by omega) v401 y400 t403 _ _ _ (fun k_ => some k_ ≠ (.slice Ae t403.length Af : Value).ownBlock) (fun _ => False) rfl rfl ?aO ?aR (fun _ _ h => h) (fun _ h => h.elim) ?aF ?aB ?aS ?aL ?_; (case aR => exact pC (Kd.R_reads' Ab.out).2.2); (case aB => exact (pB HB.out)); (case aF => exact (fun k_ hk => Kd.fresh' (Kd.R_lt (pR Ab.out)) k_ hk)); (case aO => exact (by (with_reducible repeat (first | apply Kd.R_alloc | apply Kd.R_drewN | apply Kd.R_drew)); exact Kd.R_mono Aa.out (fun _ hk => hk.2))); (case aS => exact (below_size (pB HB.out))); (case aL => have := LMc6.out; omega); intro v407 w10 ho hb hg hat; rw [← Ny406.out] at ho; replace Ab := Am (Kd.R_after (ok := (fun _ => True)) (pR Ab.out) hg hat); replace HB := Am (hb); have Ad := Am (ho); clear Aa ho hb hg hat))
 go_ret
 exact ⟨_, pX, by (with_reducible repeat (first | apply Kd.R_alloc | apply Kd.R_drewN | apply Kd.R_drew)); exact Kd.R_mono Ad.out (fun _ hk => trivial), pB HB.out⟩
def garnerref02_value.l0 : Nat → List Int → Int → Int → Option (Int)
 | 0, _, _, _ => none
 | k + 1, x0, x3, x4 => if x4 ≥ 0 then (if 0 ≤ x4 then (if x4 < (x0.length : Int) then (garnerref02_value.l0 k x0 (IntKind.u64.wrap ((IntKind.u64.wrap (x3 * 128)) + (IntKind.u64.wrap (Int.tmod (rd x0 x4) 128)))) (wrap64 (x4 - 1))) else (none)) else (none)) else (some x3)
def garnerref02_value.f (k : Nat) (l0 : List Int) : Option (Int) := garnerref02_value.l0 k l0 0 (wrap64 ((l0.length : Int) - 1))
theorem garnerref02_value.mono_l : ∀ k, (∀ y0 y1 y2, LeO (garnerref02_value.l0 k y0 y1 y2) (garnerref02_value.l0 (k + 1) y0 y1 y2))
 | 0 => fun _ _ _ r h => by simp [garnerref02_value.l0] at h
 | k + 1 => by
  have ih0 := garnerref02_value.mono_l k
  ·intro y0 y1 y2
   unfold garnerref02_value.l0
   repeat' (with_reducible first | exact ih0 .. | exact LeO.refl .. | exact LeO.none .. | refine LeO.ite ?_ ?_ | refine LeO.bind ?_ (fun _ => ?_))
theorem garnerref02_value.mono : ∀ a0 k, LeO (garnerref02_value.f k a0) (garnerref02_value.f (k + 1) a0) := by
 intro a0 k
 have ih0 := garnerref02_value.mono_l k
 unfold garnerref02_value.f
 repeat' (with_reducible first | exact ih0 .. | exact LeO.refl .. | exact LeO.none .. | refine LeO.ite ?_ ?_ | refine LeO.bind ?_ (fun _ => ?_))
set_option maxHeartbeats 8000000 in
set_option maxRecDepth 100000 in
theorem garnerref02_value.calls (k : Nat) (A0 : Option Addr) (c0 : Nat) (l0 : List Int) (r : Int) (w : World) (hr0 : Kd.C (Kd.int .u8) w A0 l0.length l0) (hc0 : l0.length ≤ c0) (h : garnerref02_value.f k l0 = some r) :
 Calls Try.prog 47 #[.slice A0 l0.length c0] w fun e w' => e = .returned (.int .u64 r) ∧ Drawn0 w w' := by
 have HR0 := Am hr0
 have HC0 := Am hc0
 clear hr0 hc0
 unfold garnerref02_value.f at h
 have H := h
 clear h
 have H' := Am H
 clear H
 go_enter Try.func47, Try.ntmps47
 go_wp2
 go_loopg [3, 4] k (fun kq v3 v4 w' => ∃ (Ab : Int) (Aa : Int), v3 = .int .u64 Ab ∧ v4 = .int .i64 Aa ∧ Aside0 (garnerref02_value.l0 kq l0 Ab Aa = some r) ∧ Aside0 (kq ≤ k) ∧ Drawn0 w w')
 case atStart => exact ⟨(0), (wrap64 ((l0.length : Int) - 1)), zr, zr, H', ⟨Nat.le_refl _⟩, zd⟩
 case round =>
  clear H'
  obtain ⟨Ab, Aa, rfl, rfl, HA, HK1, ⟨m1, rfl⟩⟩ := hrel
  cases gk with
  | zero => exact absurd HA.out (by simp [garnerref02_value.l0])
  | succ k1 =>
   have H := HA.out
   clear HA
   simp only [garnerref02_value.l0] at H
   by_cases c2 : Aa ≥ 0
   rotate_left
   ·rw [if_neg c2] at H
    have c2b0 : decide (0 ≤ Aa) = false := decide_eq_false c2
    clear c2
    obtain rfl := Option.some.inj H
    go_wp2
    go_ret
    exact ⟨zr, zd⟩
   rw [if_pos c2] at H
   have c2b0 : decide (0 ≤ Aa) = true := decide_eq_true c2
   clear c2
   obtain ⟨c3, H⟩ := zI H
   have c3b0 := decide_eq_true c3
   clear c3
   obtain ⟨c4, H⟩ := zI H
   have c4b0 := decide_eq_true c4
   clear c4
   have H' := Am H
   clear H
   have p409 : 0 ≤ (Aa : Int) := of_decide_eq_true pS
   have q409 : Aa < (l0.length : Int) := of_decide_eq_true pS
   obtain ⟨ad409, e409, hx409_0⟩ := Kd.at_int HR0.out Aa p409 q409
   cases e409
   replace p409 := eq_true p409
   replace q409 := eq_true q409
   go_wp2
   go_roundg k1
   case measure => have := HK1.out; omega
   case rel => exact ⟨(IntKind.u64.wrap ((IntKind.u64.wrap (Ab * 128)) + (IntKind.u64.wrap (Int.tmod (rd l0 Aa) 128)))), (wrap64 (Aa - 1)), zr, zr, H', ⟨by have := HK1.out; omega⟩, zd⟩
end Go.Proofs.Ytdanmjfkocjgjaa.PWalGets
