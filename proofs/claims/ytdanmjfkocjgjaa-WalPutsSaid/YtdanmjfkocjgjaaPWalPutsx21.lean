/- What the law reaches, as plain Lean functions, and that the machine's calls answer just that. -/
import Derived.Test.YtdanmjfkocjgjaaPWalPutsx0
import Derived.Test.YtdanmjfkocjgjaaPWalPutsx18
import Derived.Test.YtdanmjfkocjgjaaPWalPutsx5
import Derived.Test.YtdanmjfkocjgjaaPWalPutsx15
namespace Go.Proofs.Ytdanmjfkocjgjaa.PWalPuts
open Go.RowKit Go.Proofs.YtdanmjfkocjgjaaW.PrintWords Go.Proofs.YtdanmjfkocjgjaaW.PrintLast Go.Proofs.YtdanmjfkocjgjaaW.PrintMore
set_option linter.unusedVariables false
set_option maxHeartbeats 8000000
set_option linter.unusedSimpArgs false
section
attribute [local go_sem] max2_int min2_int max_two min_two max_three min_three max_four min_four
attribute [local go_sem] wrap64_l1 wrap64_l2 wrap64_l3 wrap64_l4 wrap64_l5
def garnerref06_Batch.l0 : Nat → List (S52) → Int → Option (Bool)
 | 0, _, _ => none
 | k + 1, x0, x3 => if x3 < (x0.length : Int) then (if 0 ≤ x3 then ((garnerref06_May.f k ((rd_T52 x0 x3).f0) ((rd_T52 x0 x3).f1) ((rd_T52 x0 x3).f2) ((rd_T52 x0 x3).f3) ((rd_T52 x0 x3).f4.f0) ((rd_T52 x0 x3).f4.f1) ((rd_T52 x0 x3).f4.f2.f0) ((rd_T52 x0 x3).f4.f2.f1) ((rd_T52 x0 x3).f4.f2.f2) ((rd_T52 x0 x3).f4.f2.f3)).bind fun t537 => (if t537 = true then (if x3 > 0 then (if 0 ≤ (wrap64 (x3 - 1)) then (if (wrap64 (x3 - 1)) < (x0.length : Int) then (if (wrap64 (((rd_T52 x0 x3).f0) - 1)) = ((rd_T52 x0 (wrap64 (x3 - 1))).f0) then (if ((rd_T52 x0 x3).f1) < ((rd_T52 x0 (wrap64 (x3 - 1))).f1) then (some false) else (garnerref06_Batch.l0 k x0 (wrap64 (x3 + 1)))) else (some false)) else (none)) else (none)) else (garnerref06_Batch.l0 k x0 (wrap64 (x3 + 1)))) else (some false))) else (none)) else (if (x0.length : Int) ≥ 1 then (some (decide ((x0.length : Int) ≤ 16))) else (some false))
def garnerref06_Batch.f (k : Nat) (l0 : List (S52)) : Option (Bool) := garnerref06_Batch.l0 k l0 0
theorem garnerref06_Batch.mono_l : ∀ k, (∀ y0 y1, LeO (garnerref06_Batch.l0 k y0 y1) (garnerref06_Batch.l0 (k + 1) y0 y1))
 | 0 => fun _ _ r h => by simp [garnerref06_Batch.l0] at h
 | k + 1 => by
  have ih0 := garnerref06_Batch.mono_l k
  ·intro y0 y1
   unfold garnerref06_Batch.l0
   repeat' (with_reducible first | exact ih0 .. | exact garnerref06_May.mono .. | exact LeO.refl .. | exact LeO.none .. | refine LeO.ite ?_ ?_ | refine LeO.bind ?_ (fun _ => ?_))
theorem garnerref06_Batch.mono : ∀ a0 k, LeO (garnerref06_Batch.f k a0) (garnerref06_Batch.f (k + 1) a0) := by
 intro a0 k
 have ih0 := garnerref06_Batch.mono_l k
 unfold garnerref06_Batch.f
 repeat' (with_reducible first | exact ih0 .. | exact garnerref06_May.mono .. | exact LeO.refl .. | exact LeO.none .. | refine LeO.ite ?_ ?_ | refine LeO.bind ?_ (fun _ => ?_))
def garnerref06_Batch.T4 : Bool × List (List Nat × List Nat) := (true, [([], []), ([], []), ([0, 1], [0, 1]), ([2], [2]), ([3], [3]), ([4], [4]), ([5, 4], [5]), ([6], [6]), ([7, 6], [6, 7]), ([8, 6, 6], [6, 8]), ([9], [9]), ([9], [9]), ([10, 11, 9], [9, 10, 11]), ([12, 9], [9, 12]), ([13, 9], [9, 13]), ([14, 9], [9, 14]), ([9], [9]), ([9], [9]), ([17, 9], [9, 17]), ([16, 18, 9], [9, 16, 18]), ([19, 9], [9, 19]), ([20, 9], [9, 20]), ([15, 21, 9], [9, 15, 21]), ([22, 9, 9], [9, 22]), ([23], [23]), ([23], [23]), ([24, 25, 23], [23, 24, 25]), ([26, 23], [23, 26]), ([27, 23], [23, 27]), ([23], [23]), ([23], [23]), ([30, 23], [23, 30]), ([29, 31, 23], [23, 29, 31]), ([32, 23], [23, 32]), ([33, 23], [23, 33]), ([28, 34, 23], [23, 28, 34]), ([23, 35, 9], [9, 23, 35]), ([9, 36, 6], [6, 9, 36]), ([6, 37], [6, 37])])
def garnerref06_Batch.B4 : List Nat := [0, 0, 3, 7, 15, 31, 63, 127, 255, 511, 1023, 1023, 4095, 8191, 16383, 32767, 1023, 1023, 132095, 459775, 984063, 2032639, 4194303, 8388607, 16777215, 16777215, 67108863, 134217727, 268435455, 16777215, 16777215, 1090519039, 3774873599, 8069840895, 16659775487, 34359738367, 68719476735, 137438953471, 274877906943]
theorem garnerref06_Batch.tab4 : rtab .any (opsOf Try.f29 4) = garnerref06_Batch.T4 := by kernel_rfl
theorem garnerref06_Batch.bits4 : waitsOk garnerref06_Batch.T4.2 garnerref06_Batch.B4 = true := by kernel_rfl
set_option maxRecDepth 100000 in
theorem garnerref06_Batch.calls (k : Nat) (A0 : Option Addr) (c0 : Nat) (l0 : List (S52)) (r : Bool) (w : World) (hr0 : Kd.C k52 w A0 l0.length l0) (hc0 : l0.length ≤ c0) (h : garnerref06_Batch.f k l0 = some r) :
 Calls Try.prog 29 #[.slice A0 l0.length c0] w fun e w' => e = .returned (.bool r) ∧ Below w.heap.size w w' := by
 have hu52 := Try.underlying52
 have HR0 := Am hr0
 have HC0 := Am hc0
 clear hr0 hc0
 have HB := Am (Below.refl w.heap.size w)
 unfold garnerref06_Batch.f at h
 have H := h
 clear h
 have H' := Am H
 clear H
 go_enter Try.func29, Try.ntmps29
 go_wp2
 go_loopg [3] k (fun kq v3 w' => ∃ (Aa : Int), v3 = .int .i64 Aa ∧ Aside0 (garnerref06_Batch.l0 kq l0 Aa = some r) ∧ Aside0 (kq ≤ k) ∧ Aside0 (Below w.heap.size w w'))
 case atStart => exact ⟨(0), zr, H', ⟨Nat.le_refl _⟩, ⟨pB HB.out⟩⟩
 case round =>
  clear H'
  obtain ⟨Aa, rfl, HA, HK1, HB⟩ := hrel
  cases gk with
  | zero => exact absurd HA.out (by simp [garnerref06_Batch.l0])
  | succ k1 =>
   have H := HA.out
   clear HA
   simp only [garnerref06_Batch.l0] at H
   by_cases c2 : Aa < (l0.length : Int)
   rotate_left
   ·rw [if_neg c2] at H
    have c2b0 := decide_eq_false c2
    clear c2
    by_cases c22 : (l0.length : Int) ≥ 1
    ·rw [if_pos c22] at H
     have c22b0 : decide (1 ≤ (l0.length : Int)) = true := decide_eq_true c22
     have c22b1 : decide (1 ≤ l0.length) = true := decide_eq_true (by omega)
     clear c22
     obtain rfl := Option.some.inj H
     go_wp2
     go_ret
     exact ⟨pX, pB HB.out⟩
    rw [if_neg c22] at H
    have c22b0 : decide (1 ≤ (l0.length : Int)) = false := decide_eq_false c22
    have c22b1 : decide (1 ≤ l0.length) = false := decide_eq_false (by omega)
    clear c22
    obtain rfl := Option.some.inj H
    go_wp2
    go_ret
    exact ⟨pX, pB HB.out⟩
   rw [if_pos c2] at H
   have c2b0 := decide_eq_true c2
   clear c2
   obtain ⟨c3, H⟩ := zI H
   have c3b0 := decide_eq_true c3
   clear c3
   obtain ⟨t537, A4, H⟩ := zb H
   by_cases c5 : t537 = true
   rotate_left
   ·replace c5 := Bool.eq_false_iff.mpr c5
    subst c5
    rw [if_neg zF] at H
    obtain rfl := Option.some.inj H
    try go_wp2
    replace HB := bDa HB
    have p536 : 0 ≤ (Aa : Int) := of_decide_eq_true pS
    have q536 : Aa < (l0.length : Int) := of_decide_eq_true pS
    obtain ⟨Ab, Aq, c536_5, e536, Ar, As, At, Au, Av, Aw, Ax, Ay, Az, A1, Ac, Ad, Ae, Af, Ag, Ah, Ai, Aj, Ak, Al, An, Ao⟩ := at_T52w HR0.out Aa p536 q536 HB.out
    cases e536
    have Ap := Am Ad
    have A2 := Am Ac
    clear Ad Ac
    replace p536 := eq_true p536
    replace q536 := eq_true q536
    refine start_ (n := 39) (S := fun w' => w'.cell? (Ab.add ((Aa).toNat * 10)) = some (.int .i64 ((rd_T52 l0 Aa).f0)) ∧ cA w' (Ab.add ((Aa).toNat * 10)) 1 (.int .i64 ((rd_T52 l0 Aa).f1)) ∧ cA w' (Ab.add ((Aa).toNat * 10)) 2 (.int .i64 ((rd_T52 l0 Aa).f2)) ∧ cA w' (Ab.add ((Aa).toNat * 10)) 3 (.string ((rd_T52 l0 Aa).f3)) ∧ cA w' (Ab.add ((Aa).toNat * 10)) 4 (.bool ((rd_T52 l0 Aa).f4.f0)) ∧ cA w' (Ab.add ((Aa).toNat * 10)) 5 (.slice Aq ((rd_T52 l0 Aa).f4.f1).length c536_5) ∧ cA w' (Ab.add ((Aa).toNat * 10)) 6 (.int .i64 ((rd_T52 l0 Aa).f4.f2.f0)) ∧ cA w' (Ab.add ((Aa).toNat * 10)) 7 (.int .i64 ((rd_T52 l0 Aa).f4.f2.f1)) ∧ cA w' (Ab.add ((Aa).toNat * 10)) 8 (.int .i64 ((rd_T52 l0 Aa).f4.f2.f2)) ∧ cA w' (Ab.add ((Aa).toNat * 10)) 9 (.int .u32 ((rd_T52 l0 Aa).f4.f2.f3))) (ds := []) #[false, false, false, false, false, false, false, false, false, false, false, false, false, false, false, false, false, false, false, false, false, false, false, false, false, false, false, false, false, false, false, false, false, false, false, false, false, false, false] (by kernel_rfl) rfl rfl ⟨(cT HB.out Ae), (cT HB.out Af), (cT HB.out Ag), (cT HB.out Ah), (cT HB.out Ai), (cT HB.out Aj), (cT HB.out Ak), (cT HB.out Al), (cT HB.out An), (cT HB.out Ao)⟩ (fun hHeld => ?_); refine with_tabW garnerref06_Batch.tab4 garnerref06_Batch.bits4 (fun HT_ HW_ => ?_)
    generalize wr.drew = w20 at HB Ap Ar As At Au Av Aw Ax Ay Az A1 hHeld ⊢
    refine pui 0 10 39 1 HT_ ?_
    refine zp 1 (h := zp 2 (h := zw 3 (h := ?_)))
    refine onei 4 14 39 31 HT_ (fun K hK => ?_)
    refine goes_ Try.func54 (by kernel_rfl) rfl #[.agg #[.int .i64 ((rd_T52 l0 Aa).f0), .int .i64 ((rd_T52 l0 Aa).f1), .int .i64 ((rd_T52 l0 Aa).f2), .string ((rd_T52 l0 Aa).f3), .bool ((rd_T52 l0 Aa).f4.f0), .slice Aq ((rd_T52 l0 Aa).f4.f1).length c536_5, .int .i64 ((rd_T52 l0 Aa).f4.f2.f0), .int .i64 ((rd_T52 l0 Aa).f4.f2.f1), .int .i64 ((rd_T52 l0 Aa).f4.f2.f2), .int .u32 ((rd_T52 l0 Aa).f4.f2.f3)]] (by rfl) rfl rfl pL ?_
    with_reducible refine (garnerref06_May.calls k1 ((rd_T52 l0 Aa).f0) ((rd_T52 l0 Aa).f1) ((rd_T52 l0 Aa).f2) ((rd_T52 l0 Aa).f3) ((rd_T52 l0 Aa).f4.f0) _ _ ((rd_T52 l0 Aa).f4.f1) ((rd_T52 l0 Aa).f4.f2.f0) ((rd_T52 l0 Aa).f4.f2.f1) ((rd_T52 l0 Aa).f4.f2.f2) ((rd_T52 l0 Aa).f4.f2.f3) false _ ?A8 ?A9 A4.out).mono ?_
    (case A8 => exact pC (Kd.C_below Ap.out HB.out))
    (case A9 => exact A2.out)
    rintro e w21 ⟨rfl, hb⟩
    refine ⟨_, rfl, ?_⟩
    replace HB := zB HB hb
    (try clear hb)
    (try clear hb2)
    (try clear hk)
    (try clear hi)
    refine hK.out _ _ ⟨(cT HB.out Ae), (cT HB.out Af), (cT HB.out Ag), (cT HB.out Ah), (cT HB.out Ai), (cT HB.out Aj), (cT HB.out Ak), (cT HB.out Al), (cT HB.out An), (cT HB.out Ao)⟩ (fun hHeld => ?_)
    clear hK K
    refine norm_ (a' := ?_) ?_ ?_
    rotate_left
    ·show Act.put _ (some 14) _ = _
     simp only [Act.put, List.setIfInBounds_toArray, List.set_cons_zero, List.set_cons_succ, i64_w, i32_w]
     rfl
    refine pui 5 15 39 63 HT_ ?_
    refine zp 6 (h := zq 7 (h := zq 8 (h := zq 9 (h := zq 10 (h := zq 11 (h := zq 12 (h := zq 13 (h := zq 14 (h := zq 15 (h := zq 16 (h := zq 17 (h := zq 18 (h := zq 19 (h := zq 20 (h := zq 21 (h := zq 22 (h := zq 23 (h := zq 24 (h := zq 25 (h := zq 26 (h := zq 27 (h := zq 28 (h := zq 29 (h := zq 30 (h := zq 31 (h := zq 32 (h := zq 33 (h := zq 34 (h := zq 35 (h := zq 36 (h := zq 37 (h := zp 38 (h := ?_)))))))))))))))))))))))))))))))))
    refine done_ (done_of HT_.out (by kernel_rfl)) ?_
    try go_wp2
    go_ret
    exact ⟨pX, pB HB.out⟩
   subst c5
   rw [if_pos rfl] at H
   by_cases c6 : Aa > 0
   rotate_left
   ·rw [if_neg c6] at H
    have c6b0 : decide (0 < Aa) = false := decide_eq_false c6
    clear c6
    have H' := Am H
    clear H
    try go_wp2
    replace HB := bDa HB
    have p536 : 0 ≤ (Aa : Int) := of_decide_eq_true pS
    have q536 : Aa < (l0.length : Int) := of_decide_eq_true pS
    obtain ⟨Ab, Aq, c536_5, e536, Ar, As, At, Au, Av, Aw, Ax, Ay, Az, A1, Ac, Ad, Ae, Af, Ag, Ah, Ai, Aj, Ak, Al, An, Ao⟩ := at_T52w HR0.out Aa p536 q536 HB.out
    cases e536
    have Ap := Am Ad
    have A2 := Am Ac
    clear Ad Ac
    replace p536 := eq_true p536
    replace q536 := eq_true q536
    refine start_ (n := 39) (S := fun w' => w'.cell? (Ab.add ((Aa).toNat * 10)) = some (.int .i64 ((rd_T52 l0 Aa).f0)) ∧ cA w' (Ab.add ((Aa).toNat * 10)) 1 (.int .i64 ((rd_T52 l0 Aa).f1)) ∧ cA w' (Ab.add ((Aa).toNat * 10)) 2 (.int .i64 ((rd_T52 l0 Aa).f2)) ∧ cA w' (Ab.add ((Aa).toNat * 10)) 3 (.string ((rd_T52 l0 Aa).f3)) ∧ cA w' (Ab.add ((Aa).toNat * 10)) 4 (.bool ((rd_T52 l0 Aa).f4.f0)) ∧ cA w' (Ab.add ((Aa).toNat * 10)) 5 (.slice Aq ((rd_T52 l0 Aa).f4.f1).length c536_5) ∧ cA w' (Ab.add ((Aa).toNat * 10)) 6 (.int .i64 ((rd_T52 l0 Aa).f4.f2.f0)) ∧ cA w' (Ab.add ((Aa).toNat * 10)) 7 (.int .i64 ((rd_T52 l0 Aa).f4.f2.f1)) ∧ cA w' (Ab.add ((Aa).toNat * 10)) 8 (.int .i64 ((rd_T52 l0 Aa).f4.f2.f2)) ∧ cA w' (Ab.add ((Aa).toNat * 10)) 9 (.int .u32 ((rd_T52 l0 Aa).f4.f2.f3))) (ds := []) #[false, false, false, false, false, false, false, false, false, false, false, false, false, false, false, false, false, false, false, false, false, false, false, false, false, false, false, false, false, false, false, false, false, false, false, false, false, false, false] (by kernel_rfl) rfl rfl ⟨(cT HB.out Ae), (cT HB.out Af), (cT HB.out Ag), (cT HB.out Ah), (cT HB.out Ai), (cT HB.out Aj), (cT HB.out Ak), (cT HB.out Al), (cT HB.out An), (cT HB.out Ao)⟩ (fun hHeld => ?_); refine with_tabW garnerref06_Batch.tab4 garnerref06_Batch.bits4 (fun HT_ HW_ => ?_)
    generalize wr.drew = w18 at HB Ap Ar As At Au Av Aw Ax Ay Az A1 hHeld ⊢
    refine pui 0 10 39 1 HT_ ?_
    refine zp 1 (h := zp 2 (h := zw 3 (h := ?_)))
    refine onei 4 14 39 31 HT_ (fun K hK => ?_)
    refine goes_ Try.func54 (by kernel_rfl) rfl #[.agg #[.int .i64 ((rd_T52 l0 Aa).f0), .int .i64 ((rd_T52 l0 Aa).f1), .int .i64 ((rd_T52 l0 Aa).f2), .string ((rd_T52 l0 Aa).f3), .bool ((rd_T52 l0 Aa).f4.f0), .slice Aq ((rd_T52 l0 Aa).f4.f1).length c536_5, .int .i64 ((rd_T52 l0 Aa).f4.f2.f0), .int .i64 ((rd_T52 l0 Aa).f4.f2.f1), .int .i64 ((rd_T52 l0 Aa).f4.f2.f2), .int .u32 ((rd_T52 l0 Aa).f4.f2.f3)]] (by rfl) rfl rfl pL ?_
    with_reducible refine (garnerref06_May.calls k1 ((rd_T52 l0 Aa).f0) ((rd_T52 l0 Aa).f1) ((rd_T52 l0 Aa).f2) ((rd_T52 l0 Aa).f3) ((rd_T52 l0 Aa).f4.f0) _ _ ((rd_T52 l0 Aa).f4.f1) ((rd_T52 l0 Aa).f4.f2.f0) ((rd_T52 l0 Aa).f4.f2.f1) ((rd_T52 l0 Aa).f4.f2.f2) ((rd_T52 l0 Aa).f4.f2.f3) true _ ?A8 ?A9 A4.out).mono ?_
    (case A8 => exact pC (Kd.C_below Ap.out HB.out))
    (case A9 => exact A2.out)
    rintro e w19 ⟨rfl, hb⟩
    refine ⟨_, rfl, ?_⟩
    replace HB := zB HB hb
    (try clear hb)
    (try clear hb2)
    (try clear hk)
    (try clear hi)
    refine hK.out _ _ ⟨(cT HB.out Ae), (cT HB.out Af), (cT HB.out Ag), (cT HB.out Ah), (cT HB.out Ai), (cT HB.out Aj), (cT HB.out Ak), (cT HB.out Al), (cT HB.out An), (cT HB.out Ao)⟩ (fun hHeld => ?_)
    clear hK K
    refine norm_ (a' := ?_) ?_ ?_
    rotate_left
    ·show Act.put _ (some 14) _ = _
     simp only [Act.put, List.setIfInBounds_toArray, List.set_cons_zero, List.set_cons_succ, i64_w, i32_w]
     rfl
    refine pui 5 15 39 63 HT_ ?_
    refine zp 6 (h := zp 7 (h := zp 8 (h := zp 9 (h := zq 10 (h := zq 11 (h := zq 12 (h := zq 13 (h := zq 14 (h := zq 15 (h := zq 16 (h := zq 17 (h := zq 18 (h := zq 19 (h := zq 20 (h := zq 21 (h := zq 22 (h := zq 23 (h := zq 24 (h := zq 25 (h := zq 26 (h := zq 27 (h := zq 28 (h := zq 29 (h := zq 30 (h := zq 31 (h := zq 32 (h := zq 33 (h := zq 34 (h := zq 35 (h := zq 36 (h := zp 37 (h := zp 38 (h := ?_)))))))))))))))))))))))))))))))))
    refine done_ (done_of HT_.out (by kernel_rfl)) ?_
    try go_wp2
    go_roundg k1
    case measure => have := HK1.out; omega
    case rel => exact ⟨(wrap64 (Aa + 1)), zr, H', ⟨by have := HK1.out; omega⟩, ⟨pB HB.out⟩⟩
   rw [if_pos c6] at H
   have c6b0 : decide (0 < Aa) = true := decide_eq_true c6
   clear c6
   obtain ⟨ji7, hji7⟩ : ∃ j_ : Int, (wrap64 (Aa - 1)) = j_ := ⟨_, rfl⟩
   replace H : (if 0 ≤ (ji7) then (if (ji7) < (l0.length : Int) then (if (wrap64 (((rd_T52 l0 Aa).f0) - 1)) = ((rd_T52 l0 (ji7)).f0) then (if ((rd_T52 l0 Aa).f1) < ((rd_T52 l0 (ji7)).f1) then (some false) else (garnerref06_Batch.l0 k1 l0 (wrap64 (Aa + 1)))) else (some false)) else (none)) else (none)) = some r := by first | (rw [hji7] at H; exact H) | (simp only [hji7] at H ⊢; exact H)
   (try rw [hji7] at A4)
   have hji7w : (IntKind.i64.wrap (Aa - 1)) = ji7 := (i64_w _).trans hji7
   obtain ⟨c8, H⟩ := zI H
   have c8b0 := decide_eq_true c8
   clear c8
   obtain ⟨c9, H⟩ := zI H
   have c9b0 := decide_eq_true c9
   clear c9
   by_cases c10 : (wrap64 (((rd_T52 l0 Aa).f0) - 1)) = ((rd_T52 l0 (ji7)).f0)
   rotate_left
   ·rw [if_neg c10] at H
    obtain ⟨c10b0, c10b1⟩ := zk c10
    obtain rfl := Option.some.inj H
    try go_wp2
    replace HB := bDa HB
    have p536 : 0 ≤ (Aa : Int) := of_decide_eq_true pS
    have q536 : Aa < (l0.length : Int) := of_decide_eq_true pS
    obtain ⟨Ab, Aq, c536_5, e536, Ar, As, At, Au, Av, Aw, Ax, Ay, Az, A1, Ac, Ad, Ae, Af, Ag, Ah, Ai, Aj, Ak, Al, An, Ao⟩ := at_T52w HR0.out Aa p536 q536 HB.out
    cases e536
    have Ap := Am Ad
    have A2 := Am Ac
    clear Ad Ac
    replace p536 := eq_true p536
    replace q536 := eq_true q536
    have p539 : 0 ≤ ((ji7) : Int) := of_decide_eq_true pS
    have q539 : (ji7) < (l0.length : Int) := of_decide_eq_true pS
    obtain ⟨By, Ca, c539_5, e539, Ba, Bb, Bc, Bd, Be, A7, Bf, Bg, Bh, Bi, A3, A5, A6, Bz, B0, B1, B2, B3, B4, B5, B6, B7⟩ := at_T52w HR0.out (ji7) p539 q539 HB.out
    obtain rfl : Ab = By := (by injection e539)
    have Bj := Am A5
    have B8 := Am A3
    clear A5 A3
    replace p539 := eq_true p539
    replace q539 := eq_true q539
    refine start_ (n := 39) (S := fun w' => w'.cell? (Ab.add ((Aa).toNat * 10)) = some (.int .i64 ((rd_T52 l0 Aa).f0)) ∧ cA w' (Ab.add ((Aa).toNat * 10)) 1 (.int .i64 ((rd_T52 l0 Aa).f1)) ∧ cA w' (Ab.add ((Aa).toNat * 10)) 2 (.int .i64 ((rd_T52 l0 Aa).f2)) ∧ cA w' (Ab.add ((Aa).toNat * 10)) 3 (.string ((rd_T52 l0 Aa).f3)) ∧ cA w' (Ab.add ((Aa).toNat * 10)) 4 (.bool ((rd_T52 l0 Aa).f4.f0)) ∧ cA w' (Ab.add ((Aa).toNat * 10)) 5 (.slice Aq ((rd_T52 l0 Aa).f4.f1).length c536_5) ∧ cA w' (Ab.add ((Aa).toNat * 10)) 6 (.int .i64 ((rd_T52 l0 Aa).f4.f2.f0)) ∧ cA w' (Ab.add ((Aa).toNat * 10)) 7 (.int .i64 ((rd_T52 l0 Aa).f4.f2.f1)) ∧ cA w' (Ab.add ((Aa).toNat * 10)) 8 (.int .i64 ((rd_T52 l0 Aa).f4.f2.f2)) ∧ cA w' (Ab.add ((Aa).toNat * 10)) 9 (.int .u32 ((rd_T52 l0 Aa).f4.f2.f3)) ∧ w'.cell? (Ab.add (((ji7)).toNat * 10)) = some (.int .i64 ((rd_T52 l0 (ji7)).f0))) (ds := []) #[false, false, false, false, false, false, false, false, false, false, false, false, false, false, false, false, false, false, false, false, false, false, false, false, false, false, false, false, false, false, false, false, false, false, false, false, false, false, false] (by kernel_rfl) rfl rfl ⟨(cT HB.out Ae), (cT HB.out Af), (cT HB.out Ag), (cT HB.out Ah), (cT HB.out Ai), (cT HB.out Aj), (cT HB.out Ak), (cT HB.out Al), (cT HB.out An), (cT HB.out Ao), (cT HB.out A6)⟩ (fun hHeld => ?_); refine with_tabW garnerref06_Batch.tab4 garnerref06_Batch.bits4 (fun HT_ HW_ => ?_)
    generalize wr.drew = w16 at HB Ap Bj Ar As At Au Av Aw Ax Ay Az A1 Ba Bb Bc Bd Be A7 Bf Bg Bh Bi hHeld ⊢
    refine pui 0 10 39 1 HT_ ?_
    refine zp 1 (h := zp 2 (h := zw 3 (h := ?_)))
    refine onei 4 14 39 31 HT_ (fun K hK => ?_)
    refine goes_ Try.func54 (by kernel_rfl) rfl #[.agg #[.int .i64 ((rd_T52 l0 Aa).f0), .int .i64 ((rd_T52 l0 Aa).f1), .int .i64 ((rd_T52 l0 Aa).f2), .string ((rd_T52 l0 Aa).f3), .bool ((rd_T52 l0 Aa).f4.f0), .slice Aq ((rd_T52 l0 Aa).f4.f1).length c536_5, .int .i64 ((rd_T52 l0 Aa).f4.f2.f0), .int .i64 ((rd_T52 l0 Aa).f4.f2.f1), .int .i64 ((rd_T52 l0 Aa).f4.f2.f2), .int .u32 ((rd_T52 l0 Aa).f4.f2.f3)]] (by rfl) rfl rfl pL ?_
    with_reducible refine (garnerref06_May.calls k1 ((rd_T52 l0 Aa).f0) ((rd_T52 l0 Aa).f1) ((rd_T52 l0 Aa).f2) ((rd_T52 l0 Aa).f3) ((rd_T52 l0 Aa).f4.f0) _ _ ((rd_T52 l0 Aa).f4.f1) ((rd_T52 l0 Aa).f4.f2.f0) ((rd_T52 l0 Aa).f4.f2.f1) ((rd_T52 l0 Aa).f4.f2.f2) ((rd_T52 l0 Aa).f4.f2.f3) true _ ?A8 ?A9 A4.out).mono ?_
    (case A8 => exact pC (Kd.C_below Ap.out HB.out))
    (case A9 => exact A2.out)
    rintro e w17 ⟨rfl, hb⟩
    refine ⟨_, rfl, ?_⟩
    replace HB := zB HB hb
    (try clear hb)
    (try clear hb2)
    (try clear hk)
    (try clear hi)
    refine hK.out _ _ ⟨(cT HB.out Ae), (cT HB.out Af), (cT HB.out Ag), (cT HB.out Ah), (cT HB.out Ai), (cT HB.out Aj), (cT HB.out Ak), (cT HB.out Al), (cT HB.out An), (cT HB.out Ao), (cT HB.out A6)⟩ (fun hHeld => ?_)
    clear hK K
    refine norm_ (a' := ?_) ?_ ?_
    rotate_left
    ·show Act.put _ (some 14) _ = _
     simp only [Act.put, List.setIfInBounds_toArray, List.set_cons_zero, List.set_cons_succ, i64_w, i32_w]
     rfl
    refine pui 5 15 39 63 HT_ ?_
    refine zp 6 (h := zp 7 (h := zp 8 (h := zp 9 (h := zp 10 (h := zp 11 (h := zp 12 (h := zp 13 (h := zp 16 (h := zp 17 (h := zp 18 (h := zp 19 (h := zp 20 (h := zw 14 (h := zp 15 (h := zw 21 (h := zp 22 (h := zp 23 (h := zq 24 (h := zq 25 (h := zq 26 (h := zq 27 (h := zq 28 (h := zq 29 (h := zq 30 (h := zq 31 (h := zq 32 (h := zq 33 (h := zq 34 (h := zq 35 (h := zp 36 (h := zp 37 (h := zp 38 (h := ?_)))))))))))))))))))))))))))))))))
    refine done_ (done_of HT_.out (by kernel_rfl)) ?_
    try go_wp2
    go_ret
    exact ⟨by first | rfl | (simp [errW_none, errW_some] <;> rfl) | (simp only [← hji7]; first | rfl | (simp [errW_none, errW_some] <;> rfl)) | (simp [*, errW_none, errW_some] <;> rfl), pB HB.out⟩
   rw [if_pos c10] at H
   obtain ⟨c10b0, c10b1⟩ := zc c10
   clear c10
   by_cases c11 : ((rd_T52 l0 Aa).f1) < ((rd_T52 l0 (ji7)).f1)
   ·rw [if_pos c11] at H
    have c11b0 := decide_eq_true c11
    clear c11
    obtain rfl := Option.some.inj H
    try go_wp2
    replace HB := bDa HB
    have p536 : 0 ≤ (Aa : Int) := of_decide_eq_true pS
    have q536 : Aa < (l0.length : Int) := of_decide_eq_true pS
    obtain ⟨Ab, Aq, c536_5, e536, Ar, As, At, Au, Av, Aw, Ax, Ay, Az, A1, Ac, Ad, Ae, Af, Ag, Ah, Ai, Aj, Ak, Al, An, Ao⟩ := at_T52w HR0.out Aa p536 q536 HB.out
    cases e536
    have Ap := Am Ad
    have A2 := Am Ac
    clear Ad Ac
    replace p536 := eq_true p536
    replace q536 := eq_true q536
    have p539 : 0 ≤ ((ji7) : Int) := of_decide_eq_true pS
    have q539 : (ji7) < (l0.length : Int) := of_decide_eq_true pS
    obtain ⟨By, Ca, c539_5, e539, Ba, Bb, Bc, Bd, Be, A7, Bf, Bg, Bh, Bi, A3, A5, A6, Bz, B0, B1, B2, B3, B4, B5, B6, B7⟩ := at_T52w HR0.out (ji7) p539 q539 HB.out
    obtain rfl : Ab = By := (by injection e539)
    have Bj := Am A5
    have B8 := Am A3
    clear A5 A3
    replace p539 := eq_true p539
    replace q539 := eq_true q539
    have p541 : 0 ≤ ((ji7) : Int) := of_decide_eq_true pS
    have q541 : (ji7) < (l0.length : Int) := of_decide_eq_true pS
    obtain ⟨B9, Cl, c541_5, e541, Bo, Bp, Bq, Br, Bs, Bk, Bt, Bu, Bv, Bw, Bl, Bm, Cb, Bn, Cc, Cd, Ce, Cf, Cg, Ch, Ci, Cj⟩ := at_T52w HR0.out (ji7) p541 q541 HB.out
    obtain rfl : Ab = B9 := (by injection e541)
    have Bx := Am Bm
    have Ck := Am Bl
    clear Bm Bl
    replace p541 := eq_true p541
    replace q541 := eq_true q541
    have ea_ := Option.some.inj (A7.symm.trans Bk)
    injection ea_ with ea_ en_ ec_
    subst ea_
    subst ec_
    clear en_
    refine start_ (n := 39) (S := fun w' => w'.cell? (Ab.add ((Aa).toNat * 10)) = some (.int .i64 ((rd_T52 l0 Aa).f0)) ∧ cA w' (Ab.add ((Aa).toNat * 10)) 1 (.int .i64 ((rd_T52 l0 Aa).f1)) ∧ cA w' (Ab.add ((Aa).toNat * 10)) 2 (.int .i64 ((rd_T52 l0 Aa).f2)) ∧ cA w' (Ab.add ((Aa).toNat * 10)) 3 (.string ((rd_T52 l0 Aa).f3)) ∧ cA w' (Ab.add ((Aa).toNat * 10)) 4 (.bool ((rd_T52 l0 Aa).f4.f0)) ∧ cA w' (Ab.add ((Aa).toNat * 10)) 5 (.slice Aq ((rd_T52 l0 Aa).f4.f1).length c536_5) ∧ cA w' (Ab.add ((Aa).toNat * 10)) 6 (.int .i64 ((rd_T52 l0 Aa).f4.f2.f0)) ∧ cA w' (Ab.add ((Aa).toNat * 10)) 7 (.int .i64 ((rd_T52 l0 Aa).f4.f2.f1)) ∧ cA w' (Ab.add ((Aa).toNat * 10)) 8 (.int .i64 ((rd_T52 l0 Aa).f4.f2.f2)) ∧ cA w' (Ab.add ((Aa).toNat * 10)) 9 (.int .u32 ((rd_T52 l0 Aa).f4.f2.f3)) ∧ w'.cell? (Ab.add (((ji7)).toNat * 10)) = some (.int .i64 ((rd_T52 l0 (ji7)).f0)) ∧ w'.cell? ⟨(Ab.add (((ji7)).toNat * 10)).block, (Ab.add (((ji7)).toNat * 10)).off + 1, none⟩ = some (.int .i64 ((rd_T52 l0 (ji7)).f1))) (ds := []) #[false, false, false, false, false, false, false, false, false, false, false, false, false, false, false, false, false, false, false, false, false, false, false, false, false, false, false, false, false, false, false, false, false, false, false, false, false, false, false] (by kernel_rfl) rfl rfl ⟨(cT HB.out Ae), (cT HB.out Af), (cT HB.out Ag), (cT HB.out Ah), (cT HB.out Ai), (cT HB.out Aj), (cT HB.out Ak), (cT HB.out Al), (cT HB.out An), (cT HB.out Ao), (cT HB.out A6), (cT HB.out Bn)⟩ (fun hHeld => ?_); refine with_tabW garnerref06_Batch.tab4 garnerref06_Batch.bits4 (fun HT_ HW_ => ?_)
    generalize wr.drew = w12 at HB Ap Bj Bx Ar As At Au Av Aw Ax Ay Az A1 Ba Bb Bc Bd Be A7 Bf Bg Bh Bi Bo Bp Bq Br Bs Bk Bt Bu Bv Bw hHeld ⊢
    refine pui 0 10 39 1 HT_ ?_
    refine zp 1 (h := zp 2 (h := zw 3 (h := ?_)))
    refine onei 4 14 39 31 HT_ (fun K hK => ?_)
    refine goes_ Try.func54 (by kernel_rfl) rfl #[.agg #[.int .i64 ((rd_T52 l0 Aa).f0), .int .i64 ((rd_T52 l0 Aa).f1), .int .i64 ((rd_T52 l0 Aa).f2), .string ((rd_T52 l0 Aa).f3), .bool ((rd_T52 l0 Aa).f4.f0), .slice Aq ((rd_T52 l0 Aa).f4.f1).length c536_5, .int .i64 ((rd_T52 l0 Aa).f4.f2.f0), .int .i64 ((rd_T52 l0 Aa).f4.f2.f1), .int .i64 ((rd_T52 l0 Aa).f4.f2.f2), .int .u32 ((rd_T52 l0 Aa).f4.f2.f3)]] (by rfl) rfl rfl pL ?_
    with_reducible refine (garnerref06_May.calls k1 ((rd_T52 l0 Aa).f0) ((rd_T52 l0 Aa).f1) ((rd_T52 l0 Aa).f2) ((rd_T52 l0 Aa).f3) ((rd_T52 l0 Aa).f4.f0) _ _ ((rd_T52 l0 Aa).f4.f1) ((rd_T52 l0 Aa).f4.f2.f0) ((rd_T52 l0 Aa).f4.f2.f1) ((rd_T52 l0 Aa).f4.f2.f2) ((rd_T52 l0 Aa).f4.f2.f3) true _ ?A8 ?A9 A4.out).mono ?_
    (case A8 => exact pC (Kd.C_below Ap.out HB.out))
    (case A9 => exact A2.out)
    rintro e w13 ⟨rfl, hb⟩
    refine ⟨_, rfl, ?_⟩
    replace HB := zB HB hb
    (try clear hb)
    (try clear hb2)
    (try clear hk)
    (try clear hi)
    refine hK.out _ _ ⟨(cT HB.out Ae), (cT HB.out Af), (cT HB.out Ag), (cT HB.out Ah), (cT HB.out Ai), (cT HB.out Aj), (cT HB.out Ak), (cT HB.out Al), (cT HB.out An), (cT HB.out Ao), (cT HB.out A6), (cT HB.out Bn)⟩ (fun hHeld => ?_)
    clear hK K
    refine norm_ (a' := ?_) ?_ ?_
    rotate_left
    ·show Act.put _ (some 14) _ = _
     simp only [Act.put, List.setIfInBounds_toArray, List.set_cons_zero, List.set_cons_succ, i64_w, i32_w]
     rfl
    refine pui 5 15 39 63 HT_ ?_
    refine zp 6 (h := zp 7 (h := zp 8 (h := zp 9 (h := zp 10 (h := zp 11 (h := zp 12 (h := zp 13 (h := zp 16 (h := zp 17 (h := zp 18 (h := zp 19 (h := zp 20 (h := zw 14 (h := zp 15 (h := zw 21 (h := zp 22 (h := zp 23 (h := zp 24 (h := zp 25 (h := zp 26 (h := zp 27 (h := zp 29 (h := zp 30 (h := zp 31 (h := zp 32 (h := zp 33 (h := zw 28 (h := zw 34 (h := zp 35 (h := zp 36 (h := zp 37 (h := zp 38 (h := ?_)))))))))))))))))))))))))))))))))
    refine done_ (done_of HT_.out (by kernel_rfl)) ?_
    try go_wp2
    go_ret
    exact ⟨by first | rfl | (simp [errW_none, errW_some] <;> rfl) | (simp only [← hji7]; first | rfl | (simp [errW_none, errW_some] <;> rfl)) | (simp [*, errW_none, errW_some] <;> rfl), pB HB.out⟩
   rw [if_neg c11] at H
   have c11b0 := decide_eq_false c11
   clear c11
   have H' := Am H
   clear H
   try go_wp2
   replace HB := bDa HB
   have p536 : 0 ≤ (Aa : Int) := of_decide_eq_true pS
   have q536 : Aa < (l0.length : Int) := of_decide_eq_true pS
   obtain ⟨Ab, Aq, c536_5, e536, Ar, As, At, Au, Av, Aw, Ax, Ay, Az, A1, Ac, Ad, Ae, Af, Ag, Ah, Ai, Aj, Ak, Al, An, Ao⟩ := at_T52w HR0.out Aa p536 q536 HB.out
   cases e536
   have Ap := Am Ad
   have A2 := Am Ac
   clear Ad Ac
   replace p536 := eq_true p536
   replace q536 := eq_true q536
   have p539 : 0 ≤ ((ji7) : Int) := of_decide_eq_true pS
   have q539 : (ji7) < (l0.length : Int) := of_decide_eq_true pS
   obtain ⟨By, Ca, c539_5, e539, Ba, Bb, Bc, Bd, Be, A7, Bf, Bg, Bh, Bi, A3, A5, A6, Bz, B0, B1, B2, B3, B4, B5, B6, B7⟩ := at_T52w HR0.out (ji7) p539 q539 HB.out
   obtain rfl : Ab = By := (by injection e539)
   have Bj := Am A5
   have B8 := Am A3
   clear A5 A3
   replace p539 := eq_true p539
   replace q539 := eq_true q539
   have p541 : 0 ≤ ((ji7) : Int) := of_decide_eq_true pS
   have q541 : (ji7) < (l0.length : Int) := of_decide_eq_true pS
   obtain ⟨B9, Cl, c541_5, e541, Bo, Bp, Bq, Br, Bs, Bk, Bt, Bu, Bv, Bw, Bl, Bm, Cb, Bn, Cc, Cd, Ce, Cf, Cg, Ch, Ci, Cj⟩ := at_T52w HR0.out (ji7) p541 q541 HB.out
   obtain rfl : Ab = B9 := (by injection e541)
   have Bx := Am Bm
   have Ck := Am Bl
   clear Bm Bl
   replace p541 := eq_true p541
   replace q541 := eq_true q541
   have ea_ := Option.some.inj (A7.symm.trans Bk)
   injection ea_ with ea_ en_ ec_
   subst ea_
   subst ec_
   clear en_
   refine start_ (n := 39) (S := fun w' => w'.cell? (Ab.add ((Aa).toNat * 10)) = some (.int .i64 ((rd_T52 l0 Aa).f0)) ∧ cA w' (Ab.add ((Aa).toNat * 10)) 1 (.int .i64 ((rd_T52 l0 Aa).f1)) ∧ cA w' (Ab.add ((Aa).toNat * 10)) 2 (.int .i64 ((rd_T52 l0 Aa).f2)) ∧ cA w' (Ab.add ((Aa).toNat * 10)) 3 (.string ((rd_T52 l0 Aa).f3)) ∧ cA w' (Ab.add ((Aa).toNat * 10)) 4 (.bool ((rd_T52 l0 Aa).f4.f0)) ∧ cA w' (Ab.add ((Aa).toNat * 10)) 5 (.slice Aq ((rd_T52 l0 Aa).f4.f1).length c536_5) ∧ cA w' (Ab.add ((Aa).toNat * 10)) 6 (.int .i64 ((rd_T52 l0 Aa).f4.f2.f0)) ∧ cA w' (Ab.add ((Aa).toNat * 10)) 7 (.int .i64 ((rd_T52 l0 Aa).f4.f2.f1)) ∧ cA w' (Ab.add ((Aa).toNat * 10)) 8 (.int .i64 ((rd_T52 l0 Aa).f4.f2.f2)) ∧ cA w' (Ab.add ((Aa).toNat * 10)) 9 (.int .u32 ((rd_T52 l0 Aa).f4.f2.f3)) ∧ w'.cell? (Ab.add (((ji7)).toNat * 10)) = some (.int .i64 ((rd_T52 l0 (ji7)).f0)) ∧ w'.cell? ⟨(Ab.add (((ji7)).toNat * 10)).block, (Ab.add (((ji7)).toNat * 10)).off + 1, none⟩ = some (.int .i64 ((rd_T52 l0 (ji7)).f1))) (ds := []) #[false, false, false, false, false, false, false, false, false, false, false, false, false, false, false, false, false, false, false, false, false, false, false, false, false, false, false, false, false, false, false, false, false, false, false, false, false, false, false] (by kernel_rfl) rfl rfl ⟨(cT HB.out Ae), (cT HB.out Af), (cT HB.out Ag), (cT HB.out Ah), (cT HB.out Ai), (cT HB.out Aj), (cT HB.out Ak), (cT HB.out Al), (cT HB.out An), (cT HB.out Ao), (cT HB.out A6), (cT HB.out Bn)⟩ (fun hHeld => ?_); refine with_tabW garnerref06_Batch.tab4 garnerref06_Batch.bits4 (fun HT_ HW_ => ?_)
   generalize wr.drew = w14 at HB Ap Bj Bx Ar As At Au Av Aw Ax Ay Az A1 Ba Bb Bc Bd Be A7 Bf Bg Bh Bi Bo Bp Bq Br Bs Bk Bt Bu Bv Bw hHeld ⊢
   refine pui 0 10 39 1 HT_ ?_
   refine zp 1 (h := zp 2 (h := zw 3 (h := ?_)))
   refine onei 4 14 39 31 HT_ (fun K hK => ?_)
   refine goes_ Try.func54 (by kernel_rfl) rfl #[.agg #[.int .i64 ((rd_T52 l0 Aa).f0), .int .i64 ((rd_T52 l0 Aa).f1), .int .i64 ((rd_T52 l0 Aa).f2), .string ((rd_T52 l0 Aa).f3), .bool ((rd_T52 l0 Aa).f4.f0), .slice Aq ((rd_T52 l0 Aa).f4.f1).length c536_5, .int .i64 ((rd_T52 l0 Aa).f4.f2.f0), .int .i64 ((rd_T52 l0 Aa).f4.f2.f1), .int .i64 ((rd_T52 l0 Aa).f4.f2.f2), .int .u32 ((rd_T52 l0 Aa).f4.f2.f3)]] (by rfl) rfl rfl pL ?_
   with_reducible refine (garnerref06_May.calls k1 ((rd_T52 l0 Aa).f0) ((rd_T52 l0 Aa).f1) ((rd_T52 l0 Aa).f2) ((rd_T52 l0 Aa).f3) ((rd_T52 l0 Aa).f4.f0) _ _ ((rd_T52 l0 Aa).f4.f1) ((rd_T52 l0 Aa).f4.f2.f0) ((rd_T52 l0 Aa).f4.f2.f1) ((rd_T52 l0 Aa).f4.f2.f2) ((rd_T52 l0 Aa).f4.f2.f3) true _ ?A8 ?A9 A4.out).mono ?_
   (case A8 => exact pC (Kd.C_below Ap.out HB.out))
   (case A9 => exact A2.out)
   rintro e w15 ⟨rfl, hb⟩
   refine ⟨_, rfl, ?_⟩
   replace HB := zB HB hb
   (try clear hb)
   (try clear hb2)
   (try clear hk)
   (try clear hi)
   refine hK.out _ _ ⟨(cT HB.out Ae), (cT HB.out Af), (cT HB.out Ag), (cT HB.out Ah), (cT HB.out Ai), (cT HB.out Aj), (cT HB.out Ak), (cT HB.out Al), (cT HB.out An), (cT HB.out Ao), (cT HB.out A6), (cT HB.out Bn)⟩ (fun hHeld => ?_)
   clear hK K
   refine norm_ (a' := ?_) ?_ ?_
   rotate_left
   ·show Act.put _ (some 14) _ = _
    simp only [Act.put, List.setIfInBounds_toArray, List.set_cons_zero, List.set_cons_succ, i64_w, i32_w]
    rfl
   refine pui 5 15 39 63 HT_ ?_
   refine zp 6 (h := zp 7 (h := zp 8 (h := zp 9 (h := zp 10 (h := zp 11 (h := zp 12 (h := zp 13 (h := zp 16 (h := zp 17 (h := zp 18 (h := zp 19 (h := zp 20 (h := zw 14 (h := zp 15 (h := zw 21 (h := zp 22 (h := zp 23 (h := zp 24 (h := zp 25 (h := zp 26 (h := zp 27 (h := zp 29 (h := zp 30 (h := zp 31 (h := zp 32 (h := zp 33 (h := zw 28 (h := zw 34 (h := zp 35 (h := zp 36 (h := zp 37 (h := zp 38 (h := ?_)))))))))))))))))))))))))))))))))
   refine done_ (done_of HT_.out (by kernel_rfl)) ?_
   try go_wp2
   go_roundg k1
   case measure => have := HK1.out; omega
   case rel => exact ⟨(wrap64 (Aa + 1)), zr, H', ⟨by have := HK1.out; omega⟩, ⟨pB HB.out⟩⟩
def garnerref22_May.f (a0_0 : Int) (a0_1 : Int) (a0_2 : Int) : Option (Bool) := if a0_0 < 0 then (some false) else (if a0_1 < 0 then (some false) else (if a0_2 < 0 then (some false) else (if a0_0 > 2147483647 then (some false) else (if a0_1 > 2147483647 then (some false) else (if a0_2 > 2147483647 then (some false) else (if a0_0 > 0 then (some true) else (some (a0_1 == 0))))))))
set_option maxRecDepth 100000 in
theorem garnerref22_May.calls (a0_0 : Int) (a0_1 : Int) (a0_2 : Int) (r : Bool) (w : World) (h : garnerref22_May.f a0_0 a0_1 a0_2 = some r) :
 Calls Try.prog 30 #[.agg #[.int .i64 a0_0, .int .i64 a0_1, .int .i64 a0_2]] w fun e w' => e = .returned (.bool r) ∧ Below w.heap.size w w' := by
 have hu28 := Try.underlying28
 have HB := Am (Below.refl w.heap.size w)
 unfold garnerref22_May.f at h
 have H := h
 clear h
 by_cases c2 : a0_0 < 0
 ·rw [if_pos c2] at H
  have c2b0 := decide_eq_true c2
  clear c2
  obtain rfl := Option.some.inj H
  go_enter Try.func30, Try.ntmps30
  go_wp2_with (first | ((with_reducible refine zD 1 rfl ?_); refine zE 1 #[.int .i64 a0_0, .int .i64 a0_1, .int .i64 a0_2] 28 ?_; intro Ab hg w3 hbox hb; have Aa := Am (hbox); have Ac := zA hg HB; replace HB := zB HB hb; have Ad := Ac; clear hb hbox hg; obtain ⟨_, _, _⟩ := bc3 Aa.out; obtain ⟨_, _, _⟩ := bf3 Aa.out))
  go_ret
  exact ⟨pX, pE HB.out Ad.out⟩
 rw [if_neg c2] at H
 have c2b0 := decide_eq_false c2
 clear c2
 by_cases c5 : a0_1 < 0
 ·rw [if_pos c5] at H
  have c5b0 := decide_eq_true c5
  clear c5
  obtain rfl := Option.some.inj H
  go_enter Try.func30, Try.ntmps30
  go_wp2_with (first | ((with_reducible refine zD 1 rfl ?_); refine zE 1 #[.int .i64 a0_0, .int .i64 a0_1, .int .i64 a0_2] 28 ?_; intro Ab hg w6 hbox hb; have Aa := Am (hbox); have Ac := zA hg HB; replace HB := zB HB hb; have Ad := Ac; clear hb hbox hg; obtain ⟨_, _, _⟩ := bc3 Aa.out; obtain ⟨_, _, _⟩ := bf3 Aa.out))
  go_ret
  exact ⟨pX, pE HB.out Ad.out⟩
 rw [if_neg c5] at H
 have c5b0 := decide_eq_false c5
 clear c5
 by_cases c8 : a0_2 < 0
 ·rw [if_pos c8] at H
  have c8b0 := decide_eq_true c8
  clear c8
  obtain rfl := Option.some.inj H
  go_enter Try.func30, Try.ntmps30
  go_wp2_with (first | ((with_reducible refine zD 1 rfl ?_); refine zE 1 #[.int .i64 a0_0, .int .i64 a0_1, .int .i64 a0_2] 28 ?_; intro Ab hg w9 hbox hb; have Aa := Am (hbox); have Ac := zA hg HB; replace HB := zB HB hb; have Ad := Ac; clear hb hbox hg; obtain ⟨_, _, _⟩ := bc3 Aa.out; obtain ⟨_, _, _⟩ := bf3 Aa.out))
  go_ret
  exact ⟨pX, pE HB.out Ad.out⟩
 rw [if_neg c8] at H
 have c8b0 := decide_eq_false c8
 clear c8
 by_cases c11 : a0_0 > 2147483647
 ·rw [if_pos c11] at H
  have c11b0 : decide (2147483647 < a0_0) = true := decide_eq_true c11
  clear c11
  obtain rfl := Option.some.inj H
  go_enter Try.func30, Try.ntmps30
  go_wp2_with (first | ((with_reducible refine zD 1 rfl ?_); refine zE 1 #[.int .i64 a0_0, .int .i64 a0_1, .int .i64 a0_2] 28 ?_; intro Ab hg w12 hbox hb; have Aa := Am (hbox); have Ac := zA hg HB; replace HB := zB HB hb; have Ad := Ac; clear hb hbox hg; obtain ⟨_, _, _⟩ := bc3 Aa.out; obtain ⟨_, _, _⟩ := bf3 Aa.out))
  go_ret
  exact ⟨pX, pE HB.out Ad.out⟩
 rw [if_neg c11] at H
 have c11b0 : decide (2147483647 < a0_0) = false := decide_eq_false c11
 clear c11
 by_cases c14 : a0_1 > 2147483647
 ·rw [if_pos c14] at H
  have c14b0 : decide (2147483647 < a0_1) = true := decide_eq_true c14
  clear c14
  obtain rfl := Option.some.inj H
  go_enter Try.func30, Try.ntmps30
  go_wp2_with (first | ((with_reducible refine zD 1 rfl ?_); refine zE 1 #[.int .i64 a0_0, .int .i64 a0_1, .int .i64 a0_2] 28 ?_; intro Ab hg w15 hbox hb; have Aa := Am (hbox); have Ac := zA hg HB; replace HB := zB HB hb; have Ad := Ac; clear hb hbox hg; obtain ⟨_, _, _⟩ := bc3 Aa.out; obtain ⟨_, _, _⟩ := bf3 Aa.out))
  go_ret
  exact ⟨pX, pE HB.out Ad.out⟩
 rw [if_neg c14] at H
 have c14b0 : decide (2147483647 < a0_1) = false := decide_eq_false c14
 clear c14
 by_cases c17 : a0_2 > 2147483647
 ·rw [if_pos c17] at H
  have c17b0 : decide (2147483647 < a0_2) = true := decide_eq_true c17
  clear c17
  obtain rfl := Option.some.inj H
  go_enter Try.func30, Try.ntmps30
  go_wp2_with (first | ((with_reducible refine zD 1 rfl ?_); refine zE 1 #[.int .i64 a0_0, .int .i64 a0_1, .int .i64 a0_2] 28 ?_; intro Ab hg w18 hbox hb; have Aa := Am (hbox); have Ac := zA hg HB; replace HB := zB HB hb; have Ad := Ac; clear hb hbox hg; obtain ⟨_, _, _⟩ := bc3 Aa.out; obtain ⟨_, _, _⟩ := bf3 Aa.out))
  go_ret
  exact ⟨pX, pE HB.out Ad.out⟩
 rw [if_neg c17] at H
 have c17b0 : decide (2147483647 < a0_2) = false := decide_eq_false c17
 clear c17
 by_cases c20 : a0_0 > 0
 ·rw [if_pos c20] at H
  have c20b0 : decide (0 < a0_0) = true := decide_eq_true c20
  clear c20
  obtain rfl := Option.some.inj H
  go_enter Try.func30, Try.ntmps30
  go_wp2_with (first | ((with_reducible refine zD 1 rfl ?_); refine zE 1 #[.int .i64 a0_0, .int .i64 a0_1, .int .i64 a0_2] 28 ?_; intro Ab hg w21 hbox hb; have Aa := Am (hbox); have Ac := zA hg HB; replace HB := zB HB hb; have Ad := Ac; clear hb hbox hg; obtain ⟨_, _, _⟩ := bc3 Aa.out; obtain ⟨_, _, _⟩ := bf3 Aa.out))
  go_ret
  exact ⟨pX, pE HB.out Ad.out⟩
 rw [if_neg c20] at H
 have c20b0 : decide (0 < a0_0) = false := decide_eq_false c20
 clear c20
 obtain rfl := Option.some.inj H
 go_enter Try.func30, Try.ntmps30
 go_wp2_with (first | ((with_reducible refine zD 1 rfl ?_); refine zE 1 #[.int .i64 a0_0, .int .i64 a0_1, .int .i64 a0_2] 28 ?_; intro Ab hg w23 hbox hb; have Aa := Am (hbox); have Ac := zA hg HB; replace HB := zB HB hb; have Ad := Ac; clear hb hbox hg; obtain ⟨_, _, _⟩ := bc3 Aa.out; obtain ⟨_, _, _⟩ := bf3 Aa.out))
 go_ret
 exact ⟨pX, pE HB.out Ad.out⟩
end
section
attribute [local go_sem] max2_int min2_int max_two min_two max_three min_three max_four min_four
attribute [local go_sem] wrap64_l1 wrap64_l2 wrap64_l3 wrap64_l4 wrap64_l5
attribute [local go_sem high] eqA28
def garnerref24_May.j0 : Nat → Bool → Int → List (S52) → Int → Int → Int → Int → Option (Bool)
 | 0, _, _, _, _, _, _, _ => none
 | k + 1, x32, x544000, x544001, x544002, x544003, x544004, x544005 => if x32 = true then (some false) else (if x544000 = 1 then ((garnerref06_Batch.f k x544001).bind fun t544 => (some t544)) else (if x544000 = 2 then ((garnerref22_May.f x544002 x544003 x544004).bind fun t545 => (some t545)) else (if x544000 = 3 then (if x544005 ≥ 1 then (some (decide (x544005 ≤ 2147483647))) else (some false)) else (some false))))
def garnerref24_May.f (k : Nat) (a0_0 : Int) (l0_1 : List (S52)) (a0_2 : Int) (a0_3 : Int) (a0_4 : Int) (a0_5 : Int) : Option (Bool) := if a0_0 = 1 then (if a0_0 = 2 then (if a0_0 = 3 then (garnerref24_May.j0 k false a0_0 l0_1 a0_2 a0_3 a0_4 a0_5) else (garnerref24_May.j0 k (a0_5 != 0) a0_0 l0_1 a0_2 a0_3 a0_4 a0_5)) else (if (!(a0_2 == 0) || (!(a0_3 == 0) || (!(a0_4 == 0)))) = true then (garnerref24_May.j0 k true a0_0 l0_1 a0_2 a0_3 a0_4 a0_5) else (if a0_0 = 3 then (garnerref24_May.j0 k false a0_0 l0_1 a0_2 a0_3 a0_4 a0_5) else (garnerref24_May.j0 k (a0_5 != 0) a0_0 l0_1 a0_2 a0_3 a0_4 a0_5)))) else (if (l0_1.length : Int) > 0 then (garnerref24_May.j0 k true a0_0 l0_1 a0_2 a0_3 a0_4 a0_5) else (if a0_0 = 2 then (if a0_0 = 3 then (garnerref24_May.j0 k false a0_0 l0_1 a0_2 a0_3 a0_4 a0_5) else (garnerref24_May.j0 k (a0_5 != 0) a0_0 l0_1 a0_2 a0_3 a0_4 a0_5)) else (if (!(a0_2 == 0) || (!(a0_3 == 0) || (!(a0_4 == 0)))) = true then (garnerref24_May.j0 k true a0_0 l0_1 a0_2 a0_3 a0_4 a0_5) else (if a0_0 = 3 then (garnerref24_May.j0 k false a0_0 l0_1 a0_2 a0_3 a0_4 a0_5) else (garnerref24_May.j0 k (a0_5 != 0) a0_0 l0_1 a0_2 a0_3 a0_4 a0_5)))))
theorem garnerref24_May.mono_l : ∀ k, (∀ y0 y1 y2 y3 y4 y5 y6, LeO (garnerref24_May.j0 k y0 y1 y2 y3 y4 y5 y6) (garnerref24_May.j0 (k + 1) y0 y1 y2 y3 y4 y5 y6))
 | 0 => fun _ _ _ _ _ _ _ r h => by simp [garnerref24_May.j0] at h
 | k + 1 => by
  have ih0 := garnerref24_May.mono_l k
  ·intro y0 y1 y2 y3 y4 y5 y6
   unfold garnerref24_May.j0
   repeat' (with_reducible first | exact ih0 .. | exact garnerref06_Batch.mono .. | exact LeO.refl .. | exact LeO.none .. | refine LeO.ite ?_ ?_ | refine LeO.bind ?_ (fun _ => ?_))
theorem garnerref24_May.mono : ∀ a0 a1 a2 a3 a4 a5 k, LeO (garnerref24_May.f k a0 a1 a2 a3 a4 a5) (garnerref24_May.f (k + 1) a0 a1 a2 a3 a4 a5) := by
 intro a0 a1 a2 a3 a4 a5 k
 have ih0 := garnerref24_May.mono_l k
 unfold garnerref24_May.f
 repeat' (with_reducible first | exact ih0 .. | exact garnerref06_Batch.mono .. | exact LeO.refl .. | exact LeO.none .. | refine LeO.ite ?_ ?_ | refine LeO.bind ?_ (fun _ => ?_))
set_option maxRecDepth 100000 in
theorem garnerref24_May.calls (k : Nat) (a0_0 : Int) (A0_1 : Option Addr) (c0_1 : Nat) (l0_1 : List (S52)) (a0_2 : Int) (a0_3 : Int) (a0_4 : Int) (a0_5 : Int) (r : Bool) (w : World) (hr0_1 : Kd.C k52 w A0_1 l0_1.length l0_1) (hc0_1 : l0_1.length ≤ c0_1) (h : garnerref24_May.f k a0_0 l0_1 a0_2 a0_3 a0_4 a0_5 = some r) :
 Calls Try.prog 12 #[.agg #[.int .i64 a0_0, .slice A0_1 l0_1.length c0_1, .int .i64 a0_2, .int .i64 a0_3, .int .i64 a0_4, .int .i64 a0_5]] w fun e w' => e = .returned (.bool r) ∧ Below w.heap.size w w' := by
 have hu30 := Try.underlying30
 have hu28 := Try.underlying28
 have D3 := Am hr0_1
 have D4 := Am hc0_1
 clear hr0_1 hc0_1
 have HB := Am (Below.refl w.heap.size w)
 unfold garnerref24_May.f at h
 have H := h
 clear h
 have HC2 := Am H
 clear H
 go_enter Try.func12, Try.ntmps12
 go_upto_region 1 with (first | ((with_reducible refine zD 1 rfl ?_); (try (refine gate_guard (by rfl) ?_; dsimp only)); refine zE 1 #[.int .i64 a0_0, .slice A0_1 l0_1.length c0_1, .int .i64 a0_2, .int .i64 a0_3, .int .i64 a0_4, .int .i64 a0_5] 30 ?_; intro De hg w3 hbox hb; have Aa := Am (hbox); have D5 := zA hg HB; replace HB := zB HB hb; have Ab := D5; clear hb hbox hg))
 (try simp only [Act.put, List.setIfInBounds_toArray, List.set_cons_zero, List.set_cons_succ])
 go_cut [32] (fun v32 wc => ∃ (kq : Nat) (Ac : Bool), v32 = .bool Ac ∧ Aside0 (garnerref24_May.j0 kq Ac a0_0 l0_1 a0_2 a0_3 a0_4 a0_5 = some r) ∧ Aside0 (kq ≤ k) ∧ Aside0 (wc.heap[De]? = some (.cells #[.int .i64 a0_0, (.slice A0_1 l0_1.length c0_1), .int .i64 a0_2, .int .i64 a0_3, .int .i64 a0_4, .int .i64 a0_5] 30 (0, 0))) ∧ Aside0 (Below w.heap.size w wc))
 case first =>
  have H := HC2.out
  clear HC2
  by_cases c4 : a0_0 = 1
  ·rw [if_pos c4] at H
   obtain ⟨c4b0, c4b1⟩ := zc c4
   clear c4
   (first | rw [c4b0] | (simp only [i64_w, i32_w]; rw [c4b0]) | skip)
   by_cases c5 : a0_0 = 2
   ·rw [if_pos c5] at H
    obtain ⟨c5b0, c5b1⟩ := zc c5
    clear c5
    by_cases c6 : a0_0 = 3
    rotate_left
    ·rw [if_neg c6] at H
     obtain ⟨c6b0, c6b1⟩ := zk c6
     have H' := Am H
     clear H
     obtain ⟨Dr, Ds, Dt, Du, Dv, Dw⟩ := bc6 Aa.out
     obtain ⟨Dx, Dy, Dz, D0, D1, D2⟩ := bf6 Aa.out
     go_wp2
     go_meet
     case rel => exact ⟨_, ((a0_5 != 0)), zr, H', ⟨zo⟩, ⟨pK Aa.out⟩, ⟨pE HB.out Ab.out⟩⟩
    rw [if_pos c6] at H
    obtain ⟨c6b0, c6b1⟩ := zc c6
    clear c6
    have H' := Am H
    clear H
    obtain ⟨Df, Dg, Dh, Di, Dj, Dk⟩ := bc6 Aa.out
    obtain ⟨Dl, Dm, Dn, Do, Dp, Dq⟩ := bf6 Aa.out
    go_wp2
    go_meet
    case rel => exact ⟨_, (false), zr, H', ⟨zo⟩, ⟨pK Aa.out⟩, ⟨pE HB.out Ab.out⟩⟩
   rw [if_neg c5] at H
   obtain ⟨c5b0, c5b1⟩ := zk c5
   by_cases c9 : (!(a0_2 == 0) || (!(a0_3 == 0) || (!(a0_4 == 0)))) = true
   ·rw [if_pos c9] at H
    have c9b0 : (!(a0_2 == 0) || (!(a0_3 == 0) || (!(a0_4 == 0)))) = true := c9
    clear c9
    have H' := Am H
    clear H
    obtain ⟨Ad, Ae, Af, Ag, Ah, Ai⟩ := bc6 Aa.out
    obtain ⟨Aj, Ak, Al, An, Ao, Ap⟩ := bf6 Aa.out
    go_wp2
    go_meet
    case rel => exact ⟨_, (true), zr, H', ⟨zo⟩, ⟨pK Aa.out⟩, ⟨pE HB.out Ab.out⟩⟩
   rw [if_neg c9] at H
   have c9b0 : (!(a0_2 == 0) || (!(a0_3 == 0) || (!(a0_4 == 0)))) = false := by simpa using c9
   clear c9
   by_cases c11 : a0_0 = 3
   rotate_left
   ·rw [if_neg c11] at H
    obtain ⟨c11b0, c11b1⟩ := zk c11
    have H' := Am H
    clear H
    obtain ⟨A2, A3, A4, A5, A6, A7⟩ := bc6 Aa.out
    obtain ⟨A8, A9, Ba, Bb, Bc, Bd⟩ := bf6 Aa.out
    go_wp2
    go_meet
    case rel => exact ⟨_, ((a0_5 != 0)), zr, H', ⟨zo⟩, ⟨pK Aa.out⟩, ⟨pE HB.out Ab.out⟩⟩
   rw [if_pos c11] at H
   obtain ⟨c11b0, c11b1⟩ := zc c11
   clear c11
   have H' := Am H
   clear H
   obtain ⟨Aq, Ar, As, At, Au, Av⟩ := bc6 Aa.out
   obtain ⟨Aw, Ax, Ay, Az, A0, A1⟩ := bf6 Aa.out
   go_wp2
   go_meet
   case rel => exact ⟨_, (false), zr, H', ⟨zo⟩, ⟨pK Aa.out⟩, ⟨pE HB.out Ab.out⟩⟩
  rw [if_neg c4] at H
  obtain ⟨c4b0, c4b1⟩ := zk c4
  (first | rw [c4b0] | (simp only [i64_w, i32_w]; rw [c4b0]) | skip)
  by_cases c14 : (l0_1.length : Int) > 0
  ·rw [if_pos c14] at H
   have c14b0 : decide (0 < (l0_1.length : Int)) = true := decide_eq_true c14
   have c14b1 : decide (0 < l0_1.length) = true := decide_eq_true (by omega)
   clear c14
   have H' := Am H
   clear H
   obtain ⟨Be, Bf, Bg, Bh, Bi, Bj⟩ := bc6 Aa.out
   obtain ⟨Bk, Bl, Bm, Bn, Bo, Bp⟩ := bf6 Aa.out
   go_wp2
   go_meet
   case rel => exact ⟨_, (true), zr, H', ⟨zo⟩, ⟨pK Aa.out⟩, ⟨pE HB.out Ab.out⟩⟩
  rw [if_neg c14] at H
  have c14b0 : decide (0 < (l0_1.length : Int)) = false := decide_eq_false c14
  have c14b1 : decide (0 < l0_1.length) = false := decide_eq_false (by omega)
  clear c14
  by_cases c16 : a0_0 = 2
  ·rw [if_pos c16] at H
   obtain ⟨c16b0, c16b1⟩ := zc c16
   clear c16
   by_cases c17 : a0_0 = 3
   rotate_left
   ·rw [if_neg c17] at H
    obtain ⟨c17b0, c17b1⟩ := zk c17
    have H' := Am H
    clear H
    obtain ⟨B2, B3, B4, B5, B6, B7⟩ := bc6 Aa.out
    obtain ⟨B8, B9, Ca, Cb, Cc, Cd⟩ := bf6 Aa.out
    go_wp2
    go_meet
    case rel => exact ⟨_, ((a0_5 != 0)), zr, H', ⟨zo⟩, ⟨pK Aa.out⟩, ⟨pE HB.out Ab.out⟩⟩
   rw [if_pos c17] at H
   obtain ⟨c17b0, c17b1⟩ := zc c17
   clear c17
   have H' := Am H
   clear H
   obtain ⟨Bq, Br, Bs, Bt, Bu, Bv⟩ := bc6 Aa.out
   obtain ⟨Bw, Bx, By, Bz, B0, B1⟩ := bf6 Aa.out
   go_wp2
   go_meet
   case rel => exact ⟨_, (false), zr, H', ⟨zo⟩, ⟨pK Aa.out⟩, ⟨pE HB.out Ab.out⟩⟩
  rw [if_neg c16] at H
  obtain ⟨c16b0, c16b1⟩ := zk c16
  by_cases c20 : (!(a0_2 == 0) || (!(a0_3 == 0) || (!(a0_4 == 0)))) = true
  ·rw [if_pos c20] at H
   have c20b0 : (!(a0_2 == 0) || (!(a0_3 == 0) || (!(a0_4 == 0)))) = true := c20
   clear c20
   have H' := Am H
   clear H
   obtain ⟨Ce, Cf, Cg, Ch, Ci, Cj⟩ := bc6 Aa.out
   obtain ⟨Ck, Cl, Cm, Cn, Co, Cp⟩ := bf6 Aa.out
   go_wp2
   go_meet
   case rel => exact ⟨_, (true), zr, H', ⟨zo⟩, ⟨pK Aa.out⟩, ⟨pE HB.out Ab.out⟩⟩
  rw [if_neg c20] at H
  have c20b0 : (!(a0_2 == 0) || (!(a0_3 == 0) || (!(a0_4 == 0)))) = false := by simpa using c20
  clear c20
  by_cases c22 : a0_0 = 3
  rotate_left
  ·rw [if_neg c22] at H
   obtain ⟨c22b0, c22b1⟩ := zk c22
   have H' := Am H
   clear H
   obtain ⟨C2, C3, C4, C5, C6, C7⟩ := bc6 Aa.out
   obtain ⟨C8, C9, Da, Db, Dc, Dd⟩ := bf6 Aa.out
   go_wp2
   go_meet
   case rel => exact ⟨_, ((a0_5 != 0)), zr, H', ⟨zo⟩, ⟨pK Aa.out⟩, ⟨pE HB.out Ab.out⟩⟩
  rw [if_pos c22] at H
  obtain ⟨c22b0, c22b1⟩ := zc c22
  clear c22
  have H' := Am H
  clear H
  obtain ⟨Cq, Cr, Cs, Ct, Cu, Cv⟩ := bc6 Aa.out
  obtain ⟨Cw, Cx, Cy, Cz, C0, C1⟩ := bf6 Aa.out
  go_wp2
  go_meet
  case rel => exact ⟨_, (false), zr, H', ⟨zo⟩, ⟨pK Aa.out⟩, ⟨pE HB.out Ab.out⟩⟩
 case rest =>
  clear HC2
  try clear c1
  try clear c2
  try clear p2
  try clear c4
  try clear c4b0
  try clear c4b1
  try clear c5
  try clear c5b0
  try clear c5b1
  try clear c6
  try clear c6b0
  try clear c6b1
  try clear c9
  try clear c9b0
  try clear c11
  try clear c11b0
  try clear c11b1
  try clear c12
  try clear c14
  try clear c14b0
  try clear c14b1
  try clear c16
  try clear c16b0
  try clear c16b1
  try clear c17
  try clear c17b0
  try clear c17b1
  try clear c20
  try clear c20b0
  try clear c22
  try clear c22b0
  try clear c22b1
  try clear Ad Ae Af Ag Ah Ai
  try clear Aq Ar As At Au Av
  try clear A2 A3 A4 A5 A6 A7
  try clear Be Bf Bg Bh Bi Bj
  try clear Bq Br Bs Bt Bu Bv
  try clear B2 B3 B4 B5 B6 B7
  try clear Ce Cf Cg Ch Ci Cj
  try clear Cq Cr Cs Ct Cu Cv
  try clear C2 C3 C4 C5 C6 C7
  try clear Df Dg Dh Di Dj Dk
  try clear Dr Ds Dt Du Dv Dw
  try clear Aj Ak Al An Ao Ap
  try clear Aw Ax Ay Az A0 A1
  try clear A8 A9 Ba Bb Bc Bd
  try clear Bk Bl Bm Bn Bo Bp
  try clear Bw Bx By Bz B0 B1
  try clear B8 B9 Ca Cb Cc Cd
  try clear Ck Cl Cm Cn Co Cp
  try clear Cw Cx Cy Cz C0 C1
  try clear C8 C9 Da Db Dc Dd
  try clear Dl Dm Dn Do Dp Dq
  try clear Dx Dy Dz D0 D1 D2
  obtain ⟨kq, Ac, rfl, HA, HJ1, Aa, HB⟩ := hcut
  cases kq with
  | zero => exact absurd HA.out (by simp [garnerref24_May.j0])
  | succ kj1 =>
   have H := HA.out
   clear HA
   simp only [garnerref24_May.j0] at H
   by_cases c25 : Ac = true
   ·subst c25
    rw [if_pos rfl] at H
    obtain rfl := Option.some.inj H
    go_wp2
    go_ret
    exact ⟨pX, pE HB.out Ab.out⟩
   replace c25 := Bool.eq_false_iff.mpr c25
   subst c25
   rw [if_neg zF] at H
   by_cases c26 : a0_0 = 1
   ·rw [if_pos c26] at H
    obtain ⟨c26b0, c26b1⟩ := zc c26
    clear c26
    obtain ⟨t544, A27, H⟩ := zb H
    obtain rfl := Option.some.inj H
    obtain ⟨_, _, _, _, _, _⟩ := bc6 Aa.out
    obtain ⟨_, _, _, _, _, _⟩ := bf6 Aa.out
    go_wp2_with (first | ((with_reducible refine zC 29 rfl ?_); refine zL (some 38) Try.func29 #[.slice A0_1 l0_1.length c0_1] ?_; (with_reducible refine (garnerref06_Batch.calls kj1 _ _ l0_1 t544 _ ?D6 ?D7 A27.out).mono ?_); (case D6 => exact pC (Kd.C_below D3.out HB.out)); (case D7 => exact D4.out); rintro e w29 ⟨rfl, hb⟩; refine ⟨_, rfl, ?_⟩; replace Aa := kBa Aa hb; replace HB := zX1 HB Ab.out hb; (try clear hb)))
    go_ret
    exact ⟨pX, pE HB.out Ab.out⟩
   rw [if_neg c26] at H
   obtain ⟨c26b0, c26b1⟩ := zk c26
   by_cases c30 : a0_0 = 2
   ·rw [if_pos c30] at H
    obtain ⟨c30b0, c30b1⟩ := zc c30
    clear c30
    obtain ⟨t545, A31, H⟩ := zb H
    obtain rfl := Option.some.inj H
    obtain ⟨_, _, _, _, _, _⟩ := bc6 Aa.out
    obtain ⟨_, _, _, _, _, _⟩ := bf6 Aa.out
    go_wp2_with (first | ((with_reducible refine zC 30 rfl ?_); refine zL (some 44) Try.func30 #[.agg #[.int .i64 a0_2, .int .i64 a0_3, .int .i64 a0_4]] ?_; (with_reducible refine (garnerref22_May.calls a0_2 a0_3 a0_4 t545 _ A31.out).mono ?_); rintro e w33 ⟨rfl, hb⟩; refine ⟨_, rfl, ?_⟩; replace Aa := kBa Aa hb; replace HB := zX1 HB Ab.out hb; (try clear hb)))
    go_ret
    exact ⟨pX, pE HB.out Ab.out⟩
   rw [if_neg c30] at H
   obtain ⟨c30b0, c30b1⟩ := zk c30
   by_cases c34 : a0_0 = 3
   rotate_left
   ·rw [if_neg c34] at H
    obtain ⟨c34b0, c34b1⟩ := zk c34
    obtain rfl := Option.some.inj H
    obtain ⟨_, _, _, _, _, _⟩ := bc6 Aa.out
    obtain ⟨_, _, _, _, _, _⟩ := bf6 Aa.out
    go_wp2
    go_ret
    exact ⟨pX, pE HB.out Ab.out⟩
   rw [if_pos c34] at H
   obtain ⟨c34b0, c34b1⟩ := zc c34
   clear c34
   by_cases c35 : a0_5 ≥ 1
   ·rw [if_pos c35] at H
    have c35b0 : decide (1 ≤ a0_5) = true := decide_eq_true c35
    clear c35
    obtain rfl := Option.some.inj H
    obtain ⟨_, _, _, _, _, _⟩ := bc6 Aa.out
    obtain ⟨_, _, _, _, _, _⟩ := bf6 Aa.out
    go_wp2
    go_ret
    exact ⟨pX, pE HB.out Ab.out⟩
   rw [if_neg c35] at H
   have c35b0 : decide (1 ≤ a0_5) = false := decide_eq_false c35
   clear c35
   obtain rfl := Option.some.inj H
   obtain ⟨_, _, _, _, _, _⟩ := bc6 Aa.out
   obtain ⟨_, _, _, _, _, _⟩ := bf6 Aa.out
   go_wp2
   go_ret
   exact ⟨pX, pE HB.out Ab.out⟩
def garnerref03_Same.l0 : Nat → List (S24) → List (S24) → Int → Option (Bool)
 | 0, _, _, _ => none
 | k + 1, x0, x1, x5 => if x5 < (x0.length : Int) then (if 0 ≤ x5 then (if x5 < (x1.length : Int) then (if ((rd_T24 x0 x5).f0) = ((rd_T24 x1 x5).f0) then ((garnerref02_Bytes.f k ((rd_T24 x0 x5).f1) ((rd_T24 x1 x5).f1)).bind fun t550 => (if t550 = true then (garnerref03_Same.l0 k x0 x1 (wrap64 (x5 + 1))) else (some false))) else (some false)) else (none)) else (none)) else (some true)
def garnerref03_Same.f (k : Nat) (l0 : List (S24)) (l1 : List (S24)) : Option (Bool) := if (l0.length : Int) = (l1.length : Int) then (garnerref03_Same.l0 k l0 l1 0) else (some false)
theorem garnerref03_Same.mono_l : ∀ k, (∀ y0 y1 y2, LeO (garnerref03_Same.l0 k y0 y1 y2) (garnerref03_Same.l0 (k + 1) y0 y1 y2))
 | 0 => fun _ _ _ r h => by simp [garnerref03_Same.l0] at h
 | k + 1 => by
  have ih0 := garnerref03_Same.mono_l k
  ·intro y0 y1 y2
   unfold garnerref03_Same.l0
   repeat' (with_reducible first | exact ih0 .. | exact garnerref02_Bytes.mono .. | exact LeO.refl .. | exact LeO.none .. | refine LeO.ite ?_ ?_ | refine LeO.bind ?_ (fun _ => ?_))
theorem garnerref03_Same.mono : ∀ a0 a1 k, LeO (garnerref03_Same.f k a0 a1) (garnerref03_Same.f (k + 1) a0 a1) := by
 intro a0 a1 k
 have ih0 := garnerref03_Same.mono_l k
 unfold garnerref03_Same.f
 repeat' (with_reducible first | exact ih0 .. | exact garnerref02_Bytes.mono .. | exact LeO.refl .. | exact LeO.none .. | refine LeO.ite ?_ ?_ | refine LeO.bind ?_ (fun _ => ?_))
set_option maxRecDepth 100000 in
theorem garnerref03_Same.calls (k : Nat) (A0 : Option Addr) (c0 : Nat) (l0 : List (S24)) (A1 : Option Addr) (c1 : Nat) (l1 : List (S24)) (r : Bool) (w : World) (hr0 : Kd.C k24 w A0 l0.length l0) (hc0 : l0.length ≤ c0) (hr1 : Kd.C k24 w A1 l1.length l1) (hc1 : l1.length ≤ c1) (h : garnerref03_Same.f k l0 l1 = some r) :
 Calls Try.prog 14 #[.slice A0 l0.length c0, .slice A1 l1.length c1] w fun e w' => e = .returned (.bool r) ∧ Drawn0 w w' := by
 have HR0 := Am hr0
 have HC0 := Am hc0
 clear hr0 hc0
 have HR1 := Am hr1
 have HC1 := Am hc1
 clear hr1 hc1
 unfold garnerref03_Same.f at h
 have H := h
 clear h
 by_cases c3 : (l0.length : Int) = (l1.length : Int)
 rotate_left
 ·rw [if_neg c3] at H
  obtain ⟨c3b0, c3b1⟩ := zk c3
  have c3b2 : (l0.length == l1.length) = false := by first | simpa using c3 | (simp at c3 ⊢; omega)
  obtain rfl := Option.some.inj H
  go_enter Try.func14, Try.ntmps14
  go_wp2
  repeat (go_quiet (fail); try go_wp2)
  go_ret
  exact ⟨zr, zd⟩
 rw [if_pos c3] at H
 obtain ⟨c3b0, c3b1⟩ := zc c3
 have c3b2 : (l0.length == l1.length) = true := by first | simpa using c3 | (simp at c3 ⊢; omega)
 clear c3
 have H' := Am H
 clear H
 go_enter Try.func14, Try.ntmps14
 go_wp2
 repeat (go_quiet (fail); try go_wp2)
 go_loopg [5] k (fun kq v5 w' => ∃ (Aa : Int), v5 = .int .i64 Aa ∧ Aside0 (garnerref03_Same.l0 kq l0 l1 Aa = some r) ∧ Aside0 (kq ≤ k) ∧ Drawn0 w w')
 case atStart => exact ⟨(0), zr, H', ⟨Nat.le_refl _⟩, zd⟩
 case round =>
  clear H'
  try clear c1
  try clear p2
  try clear c3
  try clear c3b0
  try clear c3b1
  try clear c3b2
  obtain ⟨Aa, rfl, HA, HK1, ⟨m1, rfl⟩⟩ := hrel
  cases gk with
  | zero => exact absurd HA.out (by simp [garnerref03_Same.l0])
  | succ k1 =>
   have H := HA.out
   clear HA
   simp only [garnerref03_Same.l0] at H
   by_cases c4 : Aa < (l0.length : Int)
   rotate_left
   ·rw [if_neg c4] at H
    have c4b0 := decide_eq_false c4
    clear c4
    obtain rfl := Option.some.inj H
    go_wp2
    repeat (go_quiet (fail); try go_wp2)
    go_ret
    exact ⟨zr, zd⟩
   rw [if_pos c4] at H
   have c4b0 := decide_eq_true c4
   clear c4
   obtain ⟨c5, H⟩ := zI H
   have c5b0 := decide_eq_true c5
   clear c5
   obtain ⟨c6, H⟩ := zI H
   have c6b0 := decide_eq_true c6
   clear c6
   by_cases c7 : ((rd_T24 l0 Aa).f0) = ((rd_T24 l1 Aa).f0)
   rotate_left
   ·rw [if_neg c7] at H
    obtain ⟨c7b0, c7b1⟩ := zk c7
    obtain rfl := Option.some.inj H
    have p546 : 0 ≤ (Aa : Int) := of_decide_eq_true pS
    have q546 : Aa < (l0.length : Int) := of_decide_eq_true pS
    obtain ⟨Au, As, c546_1, e546, Ao, Ap, Ab, Ac⟩ := at_T24 HR0.out Aa p546 q546
    cases e546
    have Ad := Am Ac
    have Ae := Am Ab
    clear Ac Ab
    replace p546 := eq_true p546
    replace q546 := eq_true q546
    have p547 : 0 ≤ (Aa : Int) := of_decide_eq_true pS
    have q547 : Aa < (l1.length : Int) := of_decide_eq_true pS
    obtain ⟨Av, At, c547_1, e547, Aq, Ar, Af, Ag⟩ := at_T24 HR1.out Aa p547 q547
    cases e547
    have Ah := Am Ag
    have Ai := Am Af
    clear Ag Af
    replace p547 := eq_true p547
    replace q547 := eq_true q547
    go_wp2
    repeat (go_quiet (fail); try go_wp2)
    go_ret
    exact ⟨zr, zd⟩
   rw [if_pos c7] at H
   obtain ⟨c7b0, c7b1⟩ := zc c7
   clear c7
   obtain ⟨t550, A8, H⟩ := zb H
   by_cases c9 : t550 = true
   rotate_left
   ·replace c9 := Bool.eq_false_iff.mpr c9
    subst c9
    rw [if_neg zF] at H
    obtain rfl := Option.some.inj H
    have p546 : 0 ≤ (Aa : Int) := of_decide_eq_true pS
    have q546 : Aa < (l0.length : Int) := of_decide_eq_true pS
    obtain ⟨Au, As, c546_1, e546, Ao, Ap, Ab, Ac⟩ := at_T24 HR0.out Aa p546 q546
    cases e546
    have Ad := Am Ac
    have Ae := Am Ab
    clear Ac Ab
    replace p546 := eq_true p546
    replace q546 := eq_true q546
    have p547 : 0 ≤ (Aa : Int) := of_decide_eq_true pS
    have q547 : Aa < (l1.length : Int) := of_decide_eq_true pS
    obtain ⟨Av, At, c547_1, e547, Aq, Ar, Af, Ag⟩ := at_T24 HR1.out Aa p547 q547
    cases e547
    have Ah := Am Ag
    have Ai := Am Af
    clear Ag Af
    replace p547 := eq_true p547
    replace q547 := eq_true q547
    go_wp2_with (first | (go_at_call 33; (with_reducible refine (garnerref02_Bytes.calls k1 _ _ ((rd_T24 l0 Aa).f1) _ _ ((rd_T24 l1 Aa).f1) false _ ?Aj ?Ak ?Al ?An A8.out).mono ?_); (case Aj => repeat (first | exact Ad.out | (with_reducible refine Kd.C_alloc ?_ _) | (with_reducible refine Kd.C_drewN ?_ _) | (with_reducible refine Kd.C_drew ?_))); (case Ak => exact Ae.out); (case Al => repeat (first | exact Ah.out | (with_reducible refine Kd.C_alloc ?_ _) | (with_reducible refine Kd.C_drewN ?_ _) | (with_reducible refine Kd.C_drew ?_))); (case An => exact Ai.out); rintro e w' ⟨rfl, ⟨nd, rfl⟩⟩; (try first | exact ⟨rfl, _, World.drewN_drewN _ _ _⟩ | exact ⟨rfl, _, Eq.trans (World.drewN_drewN _ _ _) (congrArg (World.drewN _) (Nat.add_assoc _ _ _))⟩)))
    repeat (go_quiet (first | (go_at_call 33; (with_reducible refine (garnerref02_Bytes.calls k1 _ _ ((rd_T24 l0 Aa).f1) _ _ ((rd_T24 l1 Aa).f1) false _ ?Aj ?Ak ?Al ?An A8.out).mono ?_); (case Aj => repeat (first | exact Ad.out | (with_reducible refine Kd.C_alloc ?_ _) | (with_reducible refine Kd.C_drewN ?_ _) | (with_reducible refine Kd.C_drew ?_))); (case Ak => exact Ae.out); (case Al => repeat (first | exact Ah.out | (with_reducible refine Kd.C_alloc ?_ _) | (with_reducible refine Kd.C_drewN ?_ _) | (with_reducible refine Kd.C_drew ?_))); (case An => exact Ai.out); rintro e w' ⟨rfl, ⟨nd, rfl⟩⟩; (try first | exact ⟨rfl, _, World.drewN_drewN _ _ _⟩ | exact ⟨rfl, _, Eq.trans (World.drewN_drewN _ _ _) (congrArg (World.drewN _) (Nat.add_assoc _ _ _))⟩))); try go_wp2_with (first | (go_at_call 33; (with_reducible refine (garnerref02_Bytes.calls k1 _ _ ((rd_T24 l0 Aa).f1) _ _ ((rd_T24 l1 Aa).f1) false _ ?Aj ?Ak ?Al ?An A8.out).mono ?_); (case Aj => repeat (first | exact Ad.out | (with_reducible refine Kd.C_alloc ?_ _) | (with_reducible refine Kd.C_drewN ?_ _) | (with_reducible refine Kd.C_drew ?_))); (case Ak => exact Ae.out); (case Al => repeat (first | exact Ah.out | (with_reducible refine Kd.C_alloc ?_ _) | (with_reducible refine Kd.C_drewN ?_ _) | (with_reducible refine Kd.C_drew ?_))); (case An => exact Ai.out); rintro e w' ⟨rfl, ⟨nd, rfl⟩⟩; (try first | exact ⟨rfl, _, World.drewN_drewN _ _ _⟩ | exact ⟨rfl, _, Eq.trans (World.drewN_drewN _ _ _) (congrArg (World.drewN _) (Nat.add_assoc _ _ _))⟩))))
    go_ret
    exact ⟨zr, zd⟩
   subst c9
   rw [if_pos rfl] at H
   have H' := Am H
   clear H
   have p546 : 0 ≤ (Aa : Int) := of_decide_eq_true pS
   have q546 : Aa < (l0.length : Int) := of_decide_eq_true pS
   obtain ⟨Au, As, c546_1, e546, Ao, Ap, Ab, Ac⟩ := at_T24 HR0.out Aa p546 q546
   cases e546
   have Ad := Am Ac
   have Ae := Am Ab
   clear Ac Ab
   replace p546 := eq_true p546
   replace q546 := eq_true q546
   have p547 : 0 ≤ (Aa : Int) := of_decide_eq_true pS
   have q547 : Aa < (l1.length : Int) := of_decide_eq_true pS
   obtain ⟨Av, At, c547_1, e547, Aq, Ar, Af, Ag⟩ := at_T24 HR1.out Aa p547 q547
   cases e547
   have Ah := Am Ag
   have Ai := Am Af
   clear Ag Af
   replace p547 := eq_true p547
   replace q547 := eq_true q547
   go_wp2_with (first | (go_at_call 33; (with_reducible refine (garnerref02_Bytes.calls k1 _ _ ((rd_T24 l0 Aa).f1) _ _ ((rd_T24 l1 Aa).f1) true _ ?Aj ?Ak ?Al ?An A8.out).mono ?_); (case Aj => repeat (first | exact Ad.out | (with_reducible refine Kd.C_alloc ?_ _) | (with_reducible refine Kd.C_drewN ?_ _) | (with_reducible refine Kd.C_drew ?_))); (case Ak => exact Ae.out); (case Al => repeat (first | exact Ah.out | (with_reducible refine Kd.C_alloc ?_ _) | (with_reducible refine Kd.C_drewN ?_ _) | (with_reducible refine Kd.C_drew ?_))); (case An => exact Ai.out); rintro e w' ⟨rfl, ⟨nd, rfl⟩⟩; (try first | exact ⟨rfl, _, World.drewN_drewN _ _ _⟩ | exact ⟨rfl, _, Eq.trans (World.drewN_drewN _ _ _) (congrArg (World.drewN _) (Nat.add_assoc _ _ _))⟩)))
   repeat (go_quiet (first | (go_at_call 33; (with_reducible refine (garnerref02_Bytes.calls k1 _ _ ((rd_T24 l0 Aa).f1) _ _ ((rd_T24 l1 Aa).f1) true _ ?Aj ?Ak ?Al ?An A8.out).mono ?_); (case Aj => repeat (first | exact Ad.out | (with_reducible refine Kd.C_alloc ?_ _) | (with_reducible refine Kd.C_drewN ?_ _) | (with_reducible refine Kd.C_drew ?_))); (case Ak => exact Ae.out); (case Al => repeat (first | exact Ah.out | (with_reducible refine Kd.C_alloc ?_ _) | (with_reducible refine Kd.C_drewN ?_ _) | (with_reducible refine Kd.C_drew ?_))); (case An => exact Ai.out); rintro e w' ⟨rfl, ⟨nd, rfl⟩⟩; (try first | exact ⟨rfl, _, World.drewN_drewN _ _ _⟩ | exact ⟨rfl, _, Eq.trans (World.drewN_drewN _ _ _) (congrArg (World.drewN _) (Nat.add_assoc _ _ _))⟩))); try go_wp2_with (first | (go_at_call 33; (with_reducible refine (garnerref02_Bytes.calls k1 _ _ ((rd_T24 l0 Aa).f1) _ _ ((rd_T24 l1 Aa).f1) true _ ?Aj ?Ak ?Al ?An A8.out).mono ?_); (case Aj => repeat (first | exact Ad.out | (with_reducible refine Kd.C_alloc ?_ _) | (with_reducible refine Kd.C_drewN ?_ _) | (with_reducible refine Kd.C_drew ?_))); (case Ak => exact Ae.out); (case Al => repeat (first | exact Ah.out | (with_reducible refine Kd.C_alloc ?_ _) | (with_reducible refine Kd.C_drewN ?_ _) | (with_reducible refine Kd.C_drew ?_))); (case An => exact Ai.out); rintro e w' ⟨rfl, ⟨nd, rfl⟩⟩; (try first | exact ⟨rfl, _, World.drewN_drewN _ _ _⟩ | exact ⟨rfl, _, Eq.trans (World.drewN_drewN _ _ _) (congrArg (World.drewN _) (Nat.add_assoc _ _ _))⟩))))
   go_roundg k1
   case measure => have := HK1.out; omega
   case rel => exact ⟨(wrap64 (Aa + 1)), zr, H', ⟨by have := HK1.out; omega⟩, zd⟩
def garnerref02_One.f : Nat → Int → Option (List Int)
 | 0, _ => none
 | k + 1, a0 => if a0 < 128 then (some (([(a0) % 256] : List Int))) else ((some (([(((Int.tmod a0 128) % 256) + 128) % 256] : List Int) : List Int)).bind fun y554 => ((garnerref02_One.f k (IntKind.u64.wrap (Int.tdiv a0 128))).bind fun t557 => (if y554.length + t557.length < 140737488355328 then (some (y554 ++ t557)) else (none))))
theorem garnerref02_One.mono_l : ∀ k, (∀ y0, LeO (garnerref02_One.f k y0) (garnerref02_One.f (k + 1) y0))
 | 0 => fun _ r h => by simp [garnerref02_One.f] at h
 | k + 1 => by
  have ih0 := garnerref02_One.mono_l k
  ·intro y0
   unfold garnerref02_One.f
   repeat' (with_reducible first | exact ih0 .. | exact LeO.refl .. | exact LeO.none .. | refine LeO.ite ?_ ?_ | refine LeO.bind ?_ (fun _ => ?_))
theorem garnerref02_One.mono : ∀ a0 k, LeO (garnerref02_One.f k a0) (garnerref02_One.f (k + 1) a0) := by
 intro a0 k
 have ih0 := garnerref02_One.mono_l k
 exact ih0 a0
set_option maxRecDepth 100000 in
theorem garnerref02_One.calls (k : Nat) : ∀ (a0 : Int) (r : List Int) (w : World) (h : garnerref02_One.f k a0 = some r),
 Calls Try.prog 36 #[.int .u64 a0] w fun e w' => ∃ v0_ : Value, e = .returned (v0_) ∧ Kd.R (Kd.int .u8) 5 w' w.heap.size (fun _ => True) v0_ r ∧ Below w.heap.size w w' := by
 induction k using Nat.strongRecOn with
 | _ k ih =>
 intro a0 r w h
 cases k with
 | zero => exact absurd h (by simp [garnerref02_One.f])
 | succ k =>
 simp only [garnerref02_One.f] at h
 have HB := Am (Below.refl w.heap.size w)
 have H : (if a0 < 128 then (some (([(a0) % 256] : List Int))) else ((some (([(((Int.tmod a0 128) % 256) + 128) % 256] : List Int) : List Int)).bind fun y554 => ((garnerref02_One.f k (IntKind.u64.wrap (Int.tdiv a0 128))).bind fun t557 => (if y554.length + t557.length < 140737488355328 then (some (y554 ++ t557)) else (none))))) = some r := h
 clear h
 by_cases c2 : a0 < 128
 ·rw [if_pos c2] at H
  have c2b0 := decide_eq_true c2
  clear c2
  obtain ⟨y551, hy551⟩ : ∃ y_ : List Int, y_ = (([(a0) % 256] : List Int)) := ⟨_, rfl⟩
  replace H : (some y551) = some r := zy hy551 H
  have Ny551 := Am hy551
  clear hy551
  obtain rfl := Option.some.inj H
  go_enter Try.func36, Try.ntmps36
  go_wp2_with (first | ((with_reducible refine zD 7 rfl ?_); refine Kd.R_lit (Kd.int .u8) _ 5 ?hg (N := 7) ?hd (xs := ([(a0) % 256] : List Int)) (inner := [.int .u8 ((a0) % 256)]) (ok := fun _ => True) (okp := fun _ => True) ?hr ?hp (fun _ hk => hk) trivial (Below.refl _ _) (Nat.le_refl _) (by simp) ?_; (case hd => rfl); (case hg => rfl); (case hr => first | (go_simp; done) | (go_simp; rfl)); (case hp => exact (Reps.one (show Kd.M (Kd.int .u8) _ _ _ ((a0) % 256) [.int .u8 ((a0) % 256)] from rfl) (Reps.none _ _))); intro v552 w3 ho4 hb hg_ hnew_; clear hg_ hnew_; (first | rw [← Ny551.out] at ho4 | (simp only [Int.reduceToNat] at ho4; rw [← Ny551.out] at ho4)); have Ac := Am (Kd.R_lower ho4 (below_size (pB HB.out))); replace HB := zB HB hb; clear hb ho4))
  go_ret
  exact ⟨_, pX, by (with_reducible repeat (first | apply Kd.R_alloc | apply Kd.R_drewN | apply Kd.R_drew)); exact Ac.out, pB HB.out⟩
 rw [if_neg c2] at H
 have c2b0 := decide_eq_false c2
 clear c2
 obtain ⟨y554, hy554⟩ : ∃ y_ : List Int, y_ = (([(((Int.tmod a0 128) % 256) + 128) % 256] : List Int)) := ⟨_, rfl⟩
 replace H : ((garnerref02_One.f k (IntKind.u64.wrap (Int.tdiv a0 128))).bind fun t557 => (if y554.length + t557.length < 140737488355328 then (some (y554 ++ t557)) else (none))) = some r := zy hy554 H
 have Ny554 := Am hy554
 clear hy554
 obtain ⟨t557, A5, H⟩ := zb H
 obtain ⟨c6, H⟩ := zI H
 have LMc6 := Am c6
 clear c6
 obtain ⟨y560, hy560⟩ : ∃ y_ : List Int, y_ = (y554 ++ t557) := ⟨_, rfl⟩
 replace H : (some y560) = some r := zy hy560 H
 have Ny560 := Am hy560
 clear hy560
 obtain rfl := Option.some.inj H
 go_enter Try.func36, Try.ntmps36
 go_wp2_with (first | ((with_reducible refine zD 12 rfl ?_); refine Kd.R_lit (Kd.int .u8) _ 5 ?hg (N := 12) ?hd (xs := ([(((Int.tmod a0 128) % 256) + 128) % 256] : List Int)) (inner := [.int .u8 ((((Int.tmod a0 128) % 256) + 128) % 256)]) (ok := fun _ => True) (okp := fun _ => True) ?hr ?hp (fun _ hk => hk) trivial (Below.refl _ _) (Nat.le_refl _) (by simp) ?_; (case hd => rfl); (case hg => rfl); (case hr => first | (go_simp; done) | (go_simp; rfl)); (case hp => exact (Reps.one (show Kd.M (Kd.int .u8) _ _ _ ((((Int.tmod a0 128) % 256) + 128) % 256) [.int .u8 ((((Int.tmod a0 128) % 256) + 128) % 256)] from rfl) (Reps.none _ _))); intro v555 w7 ho8 hb hg_ hnew_; clear hg_ hnew_; (first | rw [← Ny554.out] at ho8 | (simp only [Int.reduceToNat] at ho8; rw [← Ny554.out] at ho8)); have Aa := Am (Kd.R_lower ho8 (below_size (pB HB.out))); replace HB := zB HB hb; clear hb ho8) | ((with_reducible refine zC 36 rfl ?_); refine zL (some 15) Try.func36 #[.int .u64 (IntKind.u64.wrap (Int.tdiv a0 128))] ?_; (with_reducible refine (ih k (by omega) (IntKind.u64.wrap (Int.tdiv a0 128)) t557 _ A5.out).mono ?_); rintro e w9 ⟨v558, rfl, ho0, hb⟩; refine ⟨_, rfl, ?_⟩; have Ab := Am (Kd.R_lower (Kd.R_new' ho0 (Kd.R_lt (pR Aa.out))) (below_size (pB HB.out))); replace Aa := Am (Kd.R_elder' (pR Aa.out) (Kd.R_base ho0) hb); replace HB := zB HB hb; (try clear hb); (try clear ho0); obtain ⟨Ae, Af, Ag⟩ := Kd.R_slice Ab.out; subst Ag) | ((with_reducible refine gate_builtin (b := .append) (xs := #[.tmp 12, .tmp 15]) rfl ?_); at_builtin; refine Kd.R_append_rows (Kd.int .u8) (w0 := w) w.heap.size rfl (.tmp 12) (.tmp 15) 22 5 (.int .u8 0) 1 rfl Try.underlying22 info5 rfl (by decide) (by omega) v555 y554 t557 _ _ _ (fun k_ => some k_ ≠ (.slice Ae t557.length Af : Value).ownBlock) (fun _ => False) rfl rfl ?aO ?aR (fun _ _ h => h) (fun _ h => h.elim) ?aF ?aB ?aS ?aL ?_; (case aR => exact pC (Kd.R_reads' Ab.out).2.2); (case aB => exact (pB HB.out)); (case aF => exact (fun k_ hk => Kd.fresh' (Kd.R_lt (pR Ab.out)) k_ hk)); (case aO => exact (by (with_reducible repeat (first | apply Kd.R_alloc | apply Kd.R_drewN | apply Kd.R_drew)); exact Kd.R_mono Aa.out (fun _ hk => hk.2))); (case aS => exact (below_size (pB HB.out))); (case aL => have := LMc6.out; omega); intro v561 w10 ho hb hg hat; rw [← Ny560.out] at ho; replace Ab := Am (Kd.R_after (ok := (fun _ => True)) (pR Ab.out) hg hat); replace HB := Am (hb); have Ad := Am (ho); clear Aa ho hb hg hat))
 go_ret
 exact ⟨_, pX, by (with_reducible repeat (first | apply Kd.R_alloc | apply Kd.R_drewN | apply Kd.R_drew)); exact Kd.R_mono Ad.out (fun _ hk => trivial), pB HB.out⟩
def garnerref02_Put.l0 : Nat → List Int → List Int → Int → Option (List Int)
 | 0, _, _, _ => none
 | k + 1, x0, x3, x4 => if x4 < (x0.length : Int) then (if 0 ≤ x4 then ((garnerref02_One.f k (rd x0 x4)).bind fun t567 => (if x3.length + t567.length < 140737488355328 then (garnerref02_Put.l0 k x0 (x3 ++ t567) (wrap64 (x4 + 1))) else (none))) else (none)) else (some x3)
def garnerref02_Put.f (k : Nat) (l0 : List Int) : Option (List Int) := garnerref02_Put.l0 k l0 (([] : List Int)) 0
theorem garnerref02_Put.mono_l : ∀ k, (∀ y0 y1 y2, LeO (garnerref02_Put.l0 k y0 y1 y2) (garnerref02_Put.l0 (k + 1) y0 y1 y2))
 | 0 => fun _ _ _ r h => by simp [garnerref02_Put.l0] at h
 | k + 1 => by
  have ih0 := garnerref02_Put.mono_l k
  ·intro y0 y1 y2
   unfold garnerref02_Put.l0
   repeat' (with_reducible first | exact ih0 .. | exact garnerref02_One.mono .. | exact LeO.refl .. | exact LeO.none .. | refine LeO.ite ?_ ?_ | refine LeO.bind ?_ (fun _ => ?_))
theorem garnerref02_Put.mono : ∀ a0 k, LeO (garnerref02_Put.f k a0) (garnerref02_Put.f (k + 1) a0) := by
 intro a0 k
 have ih0 := garnerref02_Put.mono_l k
 unfold garnerref02_Put.f
 repeat' (with_reducible first | exact ih0 .. | exact garnerref02_One.mono .. | exact LeO.refl .. | exact LeO.none .. | refine LeO.ite ?_ ?_ | refine LeO.bind ?_ (fun _ => ?_))
set_option maxRecDepth 100000 in
theorem garnerref02_Put.calls (k : Nat) (A0 : Option Addr) (c0 : Nat) (l0 : List Int) (r : List Int) (w : World) (hr0 : Kd.C (Kd.int .u64) w A0 l0.length l0) (hc0 : l0.length ≤ c0) (h : garnerref02_Put.f k l0 = some r) :
 Calls Try.prog 57 #[.slice A0 l0.length c0] w fun e w' => ∃ v0_ : Value, e = .returned (v0_) ∧ Kd.R (Kd.int .u8) 5 w' w.heap.size (fun _ => True) v0_ r ∧ Below w.heap.size w w' := by
 have HR0 := Am hr0
 have HC0 := Am hc0
 clear hr0 hc0
 have HB := Am (Below.refl w.heap.size w)
 unfold garnerref02_Put.f at h
 have H := h
 clear h
 obtain ⟨y563, hy563⟩ : ∃ y_ : List Int, y_ = (([] : List Int)) := ⟨_, rfl⟩
 replace H : (garnerref02_Put.l0 k l0 y563 0) = some r := zy hy563 H
 have Ny563 := Am hy563
 clear hy563
 have H' := Am H
 clear H
 go_enter Try.func57, Try.ntmps57
 go_wp2_with (first | ((with_reducible refine zD 5 rfl ?_); refine Kd.R_lit (Kd.int .u8) _ 5 ?hg (N := 5) ?hd (xs := ([] : List Int)) (inner := []) (ok := fun _ => True) (okp := fun _ => True) ?hr ?hp (fun _ hk => hk) trivial (Below.refl _ _) (Nat.le_refl _) (by simp) ?_; (case hd => rfl); (case hg => rfl); (case hr => first | (go_simp; done) | (go_simp; rfl)); (case hp => exact (Reps.none _ _)); intro v564 w2 ho3 hb hg_ hnew_; clear hg_ hnew_; (first | rw [← Ny563.out] at ho3 | (simp only [Int.reduceToNat] at ho3; rw [← Ny563.out] at ho3)); have Af := Am (Kd.R_lower ho3 (below_size (pB HB.out))); replace HB := zB HB hb; clear hb ho3))
 go_loopg [3, 4] k (fun kq v3 v4 w' => ∃ (Ab : List Int) (Aa : Int), v4 = .int .i64 Aa ∧ Aside0 (garnerref02_Put.l0 kq l0 Ab Aa = some r) ∧ Aside0 (kq ≤ k) ∧ Aside0 (Kd.R (Kd.int .u8) 5 w' w.heap.size (fun _ => True) v3 Ab) ∧ Aside0 (Below w.heap.size w w'))
 case atStart => exact ⟨(y563), (0), zr, H', ⟨Nat.le_refl _⟩, ⟨by (with_reducible repeat (first | apply Kd.R_alloc | apply Kd.R_drewN | apply Kd.R_drew)); exact Af.out⟩, ⟨pB HB.out⟩⟩
 case round =>
  clear H'
  try clear p2
  obtain ⟨Ab, Aa, rfl, HA, HK1, Ae, HB⟩ := hrel
  cases gk with
  | zero => exact absurd HA.out (by simp [garnerref02_Put.l0])
  | succ k1 =>
   have H := HA.out
   clear HA
   simp only [garnerref02_Put.l0] at H
   by_cases c4 : Aa < (l0.length : Int)
   rotate_left
   ·rw [if_neg c4] at H
    have c4b0 := decide_eq_false c4
    clear c4
    obtain rfl := Option.some.inj H
    go_wp2
    go_ret
    exact ⟨_, pX, by (with_reducible repeat (first | apply Kd.R_alloc | apply Kd.R_drewN | apply Kd.R_drew)); exact Ae.out, pB HB.out⟩
   rw [if_pos c4] at H
   have c4b0 := decide_eq_true c4
   clear c4
   obtain ⟨c5, H⟩ := zI H
   have c5b0 := decide_eq_true c5
   clear c5
   obtain ⟨t567, A6, H⟩ := zb H
   obtain ⟨c7, H⟩ := zI H
   have LMc7 := Am c7
   clear c7
   obtain ⟨y570, hy570⟩ : ∃ y_ : List Int, y_ = (Ab ++ t567) := ⟨_, rfl⟩
   replace H : (garnerref02_Put.l0 k1 l0 y570 (wrap64 (Aa + 1))) = some r := zy hy570 H
   have Ny570 := Am hy570
   clear hy570
   have H' := Am H
   clear H
   have p566 : 0 ≤ (Aa : Int) := of_decide_eq_true pS
   have q566 : Aa < (l0.length : Int) := of_decide_eq_true pS
   obtain ⟨ad566, e566, Ad⟩ := Kd.at_int HR0.out Aa p566 q566
   cases e566
   replace Ad := cU HB.out Ad
   replace p566 := eq_true p566
   replace q566 := eq_true q566
   go_wp2_with (first | ((with_reducible refine zC 36 rfl ?_); refine zL (some 17) Try.func36 #[.int .u64 (rd l0 Aa)] ?_; (with_reducible refine (garnerref02_One.calls k1 (rd l0 Aa) t567 _ A6.out).mono ?_); rintro e w8 ⟨v568, rfl, ho0, hb⟩; refine ⟨_, rfl, ?_⟩; have Ac := Am (Kd.R_lower (Kd.R_new' ho0 (Kd.R_lt (pR Ae.out))) (below_size (pB HB.out))); replace Ae := Am (Kd.R_elder' (pR Ae.out) (Kd.R_base ho0) hb); replace HB := zB HB hb; (try clear hb); (try clear ho0); obtain ⟨Ah, Ai, Aj⟩ := Kd.R_slice Ac.out; subst Aj) | ((with_reducible refine gate_builtin (b := .append) (xs := #[.tmp 12, .tmp 17]) rfl ?_); at_builtin; refine Kd.R_append_rows (Kd.int .u8) (w0 := w) w.heap.size rfl (.tmp 12) (.tmp 17) 22 5 (.int .u8 0) 1 rfl Try.underlying22 info5 rfl (by decide) (by omega) u3 Ab t567 _ _ _ (fun k_ => some k_ ≠ (.slice Ah t567.length Ai : Value).ownBlock) (fun _ => False) rfl rfl ?aO ?aR (fun _ _ h => h) (fun _ h => h.elim) ?aF ?aB ?aS ?aL ?_; (case aR => exact pC (Kd.R_reads' Ac.out).2.2); (case aB => exact (pB HB.out)); (case aF => exact (fun k_ hk => Kd.fresh' (Kd.R_lt (pR Ac.out)) k_ hk)); (case aO => exact (by (with_reducible repeat (first | apply Kd.R_alloc | apply Kd.R_drewN | apply Kd.R_drew)); exact Kd.R_mono Ae.out (fun _ hk => hk.2))); (case aS => exact (below_size (pB HB.out))); (case aL => have := LMc7.out; omega); intro v571 w9 ho hb hg hat; rw [← Ny570.out] at ho; replace Ac := Am (Kd.R_after (ok := (fun _ => True)) (pR Ac.out) hg hat); replace HB := Am (hb); have Ag := Am (ho); clear Ae ho hb hg hat))
   go_roundg k1
   case measure => have := HK1.out; omega
   case rel => exact ⟨(y570), (wrap64 (Aa + 1)), zr, H', ⟨by have := HK1.out; omega⟩, ⟨by (with_reducible repeat (first | apply Kd.R_alloc | apply Kd.R_drewN | apply Kd.R_drew)); exact Kd.R_mono Ag.out (fun _ hk => trivial)⟩, ⟨pB HB.out⟩⟩
def garnerref04_Sum.l0 : Nat → Int → List Int → Int → Option (List Int)
 | 0, _, _, _ => none
 | k + 1, x0, x3, x4 => if x4 < 4 then (if x3.length < 140737488355328 then (garnerref04_Sum.l0 k ((Int.tdiv x0 256) % 4294967296) (x3 ++ [(Int.tmod x0 256) % 256]) (wrap64 (x4 + 1))) else (none)) else (some x3)
def garnerref04_Sum.f (k : Nat) (a0 : Int) : Option (List Int) := garnerref04_Sum.l0 k a0 (([] : List Int)) 0
theorem garnerref04_Sum.mono_l : ∀ k, (∀ y0 y1 y2, LeO (garnerref04_Sum.l0 k y0 y1 y2) (garnerref04_Sum.l0 (k + 1) y0 y1 y2))
 | 0 => fun _ _ _ r h => by simp [garnerref04_Sum.l0] at h
 | k + 1 => by
  have ih0 := garnerref04_Sum.mono_l k
  ·intro y0 y1 y2
   unfold garnerref04_Sum.l0
   repeat' (with_reducible first | exact ih0 .. | exact LeO.refl .. | exact LeO.none .. | refine LeO.ite ?_ ?_ | refine LeO.bind ?_ (fun _ => ?_))
theorem garnerref04_Sum.mono : ∀ a0 k, LeO (garnerref04_Sum.f k a0) (garnerref04_Sum.f (k + 1) a0) := by
 intro a0 k
 have ih0 := garnerref04_Sum.mono_l k
 unfold garnerref04_Sum.f
 repeat' (with_reducible first | exact ih0 .. | exact LeO.refl .. | exact LeO.none .. | refine LeO.ite ?_ ?_ | refine LeO.bind ?_ (fun _ => ?_))
set_option maxRecDepth 100000 in
theorem garnerref04_Sum.calls (k : Nat) (a0 : Int) (r : List Int) (w : World) (h : garnerref04_Sum.f k a0 = some r) :
 Calls Try.prog 82 #[.int .u32 a0] w fun e w' => ∃ v0_ : Value, e = .returned (v0_) ∧ Kd.R (Kd.int .u8) 5 w' w.heap.size (fun _ => True) v0_ r ∧ Below w.heap.size w w' := by
 have HB := Am (Below.refl w.heap.size w)
 unfold garnerref04_Sum.f at h
 have H := h
 clear h
 obtain ⟨y573, hy573⟩ : ∃ y_ : List Int, y_ = (([] : List Int)) := ⟨_, rfl⟩
 replace H : (garnerref04_Sum.l0 k a0 y573 0) = some r := zy hy573 H
 have Ny573 := Am hy573
 clear hy573
 have H' := Am H
 clear H
 go_enter Try.func82, Try.ntmps82
 go_wp2_with (first | ((with_reducible refine zD 5 rfl ?_); refine Kd.R_lit (Kd.int .u8) _ 5 ?hg (N := 5) ?hd (xs := ([] : List Int)) (inner := []) (ok := fun _ => True) (okp := fun _ => True) ?hr ?hp (fun _ hk => hk) trivial (Below.refl _ _) (Nat.le_refl _) (by simp) ?_; (case hd => rfl); (case hg => rfl); (case hr => first | (go_simp; done) | (go_simp; rfl)); (case hp => exact (Reps.none _ _)); intro v574 w2 ho3 hb hg_ hnew_; clear hg_ hnew_; (first | rw [← Ny573.out] at ho3 | (simp only [Int.reduceToNat] at ho3; rw [← Ny573.out] at ho3)); have Ae := Am (Kd.R_lower ho3 (below_size (pB HB.out))); replace HB := zB HB hb; clear hb ho3))
 go_loopg [0, 3, 4] k (fun kq v0 v3 v4 w' => ∃ (Aa : Int) (Ac : List Int) (Ab : Int), v0 = .int .u32 Aa ∧ v4 = .int .i64 Ab ∧ Aside0 (garnerref04_Sum.l0 kq Aa Ac Ab = some r) ∧ Aside0 (kq ≤ k) ∧ Aside0 (Kd.R (Kd.int .u8) 5 w' w.heap.size (fun _ => True) v3 Ac) ∧ Aside0 (Below w.heap.size w w'))
 case atStart => exact ⟨(a0), (y573), (0), zr, zr, H', ⟨Nat.le_refl _⟩, ⟨by (with_reducible repeat (first | apply Kd.R_alloc | apply Kd.R_drewN | apply Kd.R_drew)); exact Ae.out⟩, ⟨pB HB.out⟩⟩
 case round =>
  clear H'
  try clear p2
  obtain ⟨Aa, Ac, Ab, rfl, rfl, HA, HK1, Ad, HB⟩ := hrel
  cases gk with
  | zero => exact absurd HA.out (by simp [garnerref04_Sum.l0])
  | succ k1 =>
   have H := HA.out
   clear HA
   simp only [garnerref04_Sum.l0] at H
   by_cases c4 : Ab < 4
   rotate_left
   ·rw [if_neg c4] at H
    have c4b0 := decide_eq_false c4
    clear c4
    obtain rfl := Option.some.inj H
    go_wp2
    go_ret
    exact ⟨_, pX, by (with_reducible repeat (first | apply Kd.R_alloc | apply Kd.R_drewN | apply Kd.R_drew)); exact Ad.out, pB HB.out⟩
   rw [if_pos c4] at H
   have c4b0 := decide_eq_true c4
   clear c4
   obtain ⟨c5, H⟩ := zI H
   have LMc5 := Am c5
   clear c5
   obtain ⟨y576, hy576⟩ : ∃ y_ : List Int, y_ = (Ac ++ [(Int.tmod Aa 256) % 256]) := ⟨_, rfl⟩
   replace H : (garnerref04_Sum.l0 k1 ((Int.tdiv Aa 256) % 4294967296) y576 (wrap64 (Ab + 1))) = some r := zy hy576 H
   have Ny576 := Am hy576
   clear hy576
   have H' := Am H
   clear H
   go_wp2_with (first | ((with_reducible refine gate_builtin (b := .append) (xs := #[.tmp 10, .tmp 14]) rfl ?_); at_builtin; refine Kd.R_append (Kd.int .u8) (w0 := w) w.heap.size rfl (.tmp 10) (.tmp 14) 22 5 (.int .u8 0) 1 rfl Try.underlying22 info5 rfl (by decide) (by omega) u3 Ac ((Int.tmod Aa 256) % 256) [.int .u8 ((Int.tmod Aa 256) % 256)] (fun _ => True) (fun _ => False) rfl rfl ?aP (fun _ hk => hk.elim) ?aF ?aO ?aB ?aS ?aL ?_; (case aP => exact rfl); (case aB => exact (pB HB.out)); (case aF => exact (fun _ _ => trivial)); (case aO => exact (pR Ad.out)); (case aS => exact (below_size (pB HB.out))); (case aL => have := LMc5.out; omega); intro v577 w6 ho hb hg hat; rw [← Ny576.out] at ho; replace HB := Am (hb); have Af := Am (ho); clear Ad ho hb hg hat))
   go_roundg k1
   case measure => have := HK1.out; omega
   case rel => exact ⟨((Int.tdiv Aa 256) % 4294967296), (y576), (wrap64 (Ab + 1)), zr, zr, H', ⟨by have := HK1.out; omega⟩, ⟨by (with_reducible repeat (first | apply Kd.R_alloc | apply Kd.R_drewN | apply Kd.R_drew)); exact Af.out⟩, ⟨pB HB.out⟩⟩
end
section
attribute [local go_sem] max2_int min2_int max_two min_two max_three min_three max_four min_four
attribute [local go_sem] wrap64_l1 wrap64_l2 wrap64_l3 wrap64_l4 wrap64_l5
def garnerref04_Put.f (k : Nat) (a0_0 : Int) (a0_1 : Int) (a0_2 : Int) (a0_3 : Int) : Option (List Int) := (garnerref02_Put.f k (([IntKind.u64.wrap (a0_0), IntKind.u64.wrap (a0_1), IntKind.u64.wrap (a0_2)] : List Int))).bind fun t583 => ((garnerref04_Sum.f k a0_3).bind fun t586 => (if t583.length + t586.length < 140737488355328 then (some (t583 ++ t586)) else (none)))
theorem garnerref04_Put.mono : ∀ a0 a1 a2 a3 k, LeO (garnerref04_Put.f k a0 a1 a2 a3) (garnerref04_Put.f (k + 1) a0 a1 a2 a3) := by
 intro a0 a1 a2 a3 k
 unfold garnerref04_Put.f
 repeat' (with_reducible first | exact garnerref02_Put.mono .. | exact garnerref04_Sum.mono .. | exact LeO.refl .. | exact LeO.none .. | refine LeO.ite ?_ ?_ | refine LeO.bind ?_ (fun _ => ?_))
def garnerref04_Put.T1 : Bool × List (List Nat × List Nat) := (true, [([], []), ([0], [0]), ([1], [1]), ([], []), ([3], [3]), ([4], [4]), ([], []), ([6], [6]), ([7], [7]), ([2, 5, 8], [2, 5, 8]), ([9], [9]), ([], []), ([11], [11]), ([12, 10], [12]), ([10, 13, 13], [10, 13]), ([14, 14, 0, 1, 2, 3, 4, 5, 6, 7, 8, 9, 10, 11, 12, 13, 14], [14])])
def garnerref04_Put.B1 : List Nat := [0, 1, 3, 0, 8, 24, 0, 64, 192, 511, 1023, 0, 2048, 8191, 16383, 32767]
theorem garnerref04_Put.tab1 : rtab .any (opsOf Try.f73 1) = garnerref04_Put.T1 := by kernel_rfl
theorem garnerref04_Put.bits1 : waitsOk garnerref04_Put.T1.2 garnerref04_Put.B1 = true := by kernel_rfl
set_option maxRecDepth 100000 in
theorem garnerref04_Put.calls (k : Nat) (a0_0 : Int) (a0_1 : Int) (a0_2 : Int) (a0_3 : Int) (r : List Int) (w : World) (h : garnerref04_Put.f k a0_0 a0_1 a0_2 a0_3 = some r) :
 Calls Try.prog 73 #[.agg #[.int .i64 a0_0, .int .i64 a0_1, .int .i64 a0_2, .int .u32 a0_3]] w fun e w' => ∃ v0_ : Value, e = .returned (v0_) ∧ Kd.R (Kd.int .u8) 5 w' w.heap.size (fun _ => True) v0_ r ∧ Below w.heap.size w w' := by
 have hu48 := Try.underlying48
 have HB := Am (Below.refl w.heap.size w)
 unfold garnerref04_Put.f at h
 have H := h
 clear h
 obtain ⟨y580, hy580⟩ : ∃ y_ : List Int, y_ = (([IntKind.u64.wrap (a0_0), IntKind.u64.wrap (a0_1), IntKind.u64.wrap (a0_2)] : List Int)) := ⟨_, rfl⟩
 replace H : ((garnerref02_Put.f k y580).bind fun t583 => ((garnerref04_Sum.f k a0_3).bind fun t586 => (if t583.length + t586.length < 140737488355328 then (some (t583 ++ t586)) else (none)))) = some r := zy hy580 H
 have Ny580 := Am hy580
 clear hy580
 obtain ⟨t583, A2, H⟩ := zb H
 obtain ⟨t586, A3, H⟩ := zb H
 obtain ⟨c4, H⟩ := zI H
 have LMc4 := Am c4
 clear c4
 obtain ⟨y589, hy589⟩ : ∃ y_ : List Int, y_ = (t583 ++ t586) := ⟨_, rfl⟩
 replace H : (some y589) = some r := zy hy589 H
 have Ny589 := Am hy589
 clear hy589
 obtain rfl := Option.some.inj H
 go_enter Try.func73, Try.ntmps73
 try go_wp2_with (first | ((with_reducible refine zD 1 rfl ?_); refine zE 1 #[.int .i64 a0_0, .int .i64 a0_1, .int .i64 a0_2, .int .u32 a0_3] 48 ?_; intro Ae hg w5 hbox hb; have Aa := Am (hbox); have Ah := zA hg HB; replace HB := zB HB hb; have Ab := Ah; clear hb hbox hg))
 replace Aa := kDa Aa
 replace HB := bDa HB
 refine start_ (n := 16) (S := fun w' => cG w' Ae 0 (.int .i64 a0_0) ∧ cG w' Ae 1 (.int .i64 a0_1) ∧ cG w' Ae 2 (.int .i64 a0_2) ∧ cG w' Ae 3 (.int .u32 a0_3)) (ds := []) #[false, false, false, false, false, false, false, false, false, false, false, false, false, false, false, false] (by kernel_rfl) rfl rfl ⟨(blk_cell Aa.out 0).trans rfl, (blk_cell Aa.out 1).trans rfl, (blk_cell Aa.out 2).trans rfl, (blk_cell Aa.out 3).trans rfl⟩ (fun hHeld => ?_); refine with_tabW garnerref04_Put.tab1 garnerref04_Put.bits1 (fun HT_ HW_ => ?_)
 generalize w5.drew = w6 at Aa HB hHeld ⊢
 refine pui 0 3 16 1 HT_ ?_
 refine zp 3 (h := zp 6 (h := zp 11 (h := zw 1 (h := zp 2 (h := zw 4 (h := zp 5 (h := zw 7 (h := zp 8 (h := zw 12 (h := ?_))))))))))
 refine onei 9 12 16 7167 HT_ (fun K hK => ?_)
 refine Kd.R_lit_step (Kd.int .u64) _ 61 ?hg (N := 12) ?hd (xs := ([IntKind.u64.wrap (a0_0), IntKind.u64.wrap (a0_1), IntKind.u64.wrap (a0_2)] : List Int)) (inner := [.int .u64 (IntKind.u64.wrap (a0_0)), .int .u64 (IntKind.u64.wrap (a0_1)), .int .u64 (IntKind.u64.wrap (a0_2))]) (ok := fun _ => True) (okp := fun _ => True) ?hr ?hp (fun _ hk => hk) trivial (Below.refl _ _) (Nat.le_refl _) (by simp) ?_; (case hd => rfl); (case hg => rfl); (case hr => first | (go_simp; done) | (go_simp; rfl)); (case hp => exact (Reps.one (show Kd.M (Kd.int .u64) _ _ _ (IntKind.u64.wrap (a0_0)) [.int .u64 (IntKind.u64.wrap (a0_0))] from rfl) (Reps.one (show Kd.M (Kd.int .u64) _ _ _ (IntKind.u64.wrap (a0_1)) [.int .u64 (IntKind.u64.wrap (a0_1))] from rfl) (Reps.one (show Kd.M (Kd.int .u64) _ _ _ (IntKind.u64.wrap (a0_2)) [.int .u64 (IntKind.u64.wrap (a0_2))] from rfl) (Reps.none _ _)))))
 intro v581 w7 ho8 hb hg_ hnew_
 clear hg_ hnew_
 (first | rw [← Ny580.out] at ho8 | (simp only [Int.reduceToNat] at ho8; rw [← Ny580.out] at ho8))
 have Ac := Am (Kd.R_lower ho8 (below_size (pE HB.out Ab.out)))
 replace Aa := kBa Aa hb
 replace HB := zX1 HB Ab.out hb
 clear hb ho8
 obtain ⟨Ap, Aq, Ao⟩ := Kd.R_slice Ac.out
 (first | subst Ao | (injection Ao with f1_ f2_ f3_; have f4_ := f1_.symm; have f5_ := f3_.symm; clear f1_ f2_ f3_; subst f4_; subst f5_))
 refine hK.out _ _ ⟨(blk_cell Aa.out 0).trans rfl, (blk_cell Aa.out 1).trans rfl, (blk_cell Aa.out 2).trans rfl, (blk_cell Aa.out 3).trans rfl⟩ (fun hHeld => ?_)
 clear hK K
 refine norm_ (a' := ?_) ?_ ?_
 rotate_left
 ·show Act.put _ (some 12) _ = _
  simp only [Act.put, List.setIfInBounds_toArray, List.set_cons_zero, List.set_cons_succ, i64_w, i32_w]
  rfl
 refine onei 10 13 16 8191 HT_ (fun K hK => ?_)
 refine goes_ Try.func57 (by kernel_rfl) rfl #[.slice Ap y580.length Aq] (by rfl) rfl rfl pL ?_
 with_reducible refine (garnerref02_Put.calls k _ _ y580 t583 _ ?Ai ?Aj A2.out).mono ?_
 (case Ai => exact pC (Kd.R_reads' Ac.out).2.2)
 (case Aj => exact (Kd.R_reads' Ac.out).2.1)
 rintro e w10 ⟨v584, rfl, ho0, hb⟩
 refine ⟨_, rfl, ?_⟩
 replace Ac := bRa Ac hb
 have Ad := Am (Kd.R_lower ho0 (below_size (pE HB.out Ab.out)))
 replace Aa := kBa Aa hb
 replace HB := zX1 HB Ab.out hb
 (try clear hb)
 (try clear hb2)
 (try clear hk)
 (try clear hi)
 (try clear ho0)
 refine hK.out _ _ ⟨(blk_cell Aa.out 0).trans rfl, (blk_cell Aa.out 1).trans rfl, (blk_cell Aa.out 2).trans rfl, (blk_cell Aa.out 3).trans rfl⟩ (fun hHeld => ?_)
 clear hK K
 refine norm_ (a' := ?_) ?_ ?_
 rotate_left
 ·show Act.put _ (some 13) _ = _
  simp only [Act.put, List.setIfInBounds_toArray, List.set_cons_zero, List.set_cons_succ, i64_w, i32_w]
  rfl
 refine onei 13 16 16 16383 HT_ (fun K hK => ?_)
 refine goes_ Try.func82 (by kernel_rfl) rfl #[.int .u32 a0_3] (by rfl) rfl rfl pL ?_
 with_reducible refine (garnerref04_Sum.calls k a0_3 t586 _ A3.out).mono ?_
 rintro e w11 ⟨v587, rfl, ho0, hb⟩
 refine ⟨_, rfl, ?_⟩
 replace Ac := bRa Ac hb
 have Af := Am (Kd.R_lower (Kd.R_new' ho0 (Kd.R_lt (pR Ad.out))) (below_size (pE HB.out Ab.out)))
 replace Ad := Am (Kd.R_elder' (pR Ad.out) (Kd.R_base ho0) hb)
 replace Aa := kBa Aa hb
 replace HB := zX1 HB Ab.out hb
 (try clear hb)
 (try clear hb2)
 (try clear hk)
 (try clear hi)
 (try clear ho0)
 obtain ⟨Al, An, Ag⟩ := Kd.R_slice Af.out
 (first | subst Ag | (injection Ag with f1_ f2_ f3_; have f4_ := f1_.symm; have f5_ := f3_.symm; clear f1_ f2_ f3_; subst f4_; subst f5_))
 refine hK.out _ _ ⟨(blk_cell Aa.out 0).trans rfl, (blk_cell Aa.out 1).trans rfl, (blk_cell Aa.out 2).trans rfl, (blk_cell Aa.out 3).trans rfl⟩ (fun hHeld => ?_)
 clear hK K
 refine norm_ (a' := ?_) ?_ ?_
 rotate_left
 ·show Act.put _ (some 16) _ = _
  simp only [Act.put, List.setIfInBounds_toArray, List.set_cons_zero, List.set_cons_succ, i64_w, i32_w]
  rfl
 refine onei 14 17 16 32767 HT_ (fun K hK => ?_)
 refine Kd.R_append_rows_step (Kd.int .u8) (w0 := w) w.heap.size (by rfl) (.tmp 13) (.tmp 16) 22 5 (.int .u8 0) 1 rfl Try.underlying22 info5 rfl (by decide) (by omega) v584 t583 t586 _ _ _ (fun k_ => some k_ ≠ (.slice Al t586.length An : Value).ownBlock) (fun _ => False) rfl rfl ?aO ?aR (fun _ _ h => h) (fun _ h => h.elim) ?aF ?aB ?aS ?aL ?_
 (case aR => exact pC (Kd.R_reads' Af.out).2.2)
 (case aB => exact (pE HB.out Ab.out))
 (case aF => exact (fun k_ hk => Kd.fresh' (Kd.R_lt (pR Af.out)) k_ hk))
 (case aO => exact (by (with_reducible repeat (first | apply Kd.R_alloc | apply Kd.R_drewN | apply Kd.R_drew)); exact Kd.R_mono Ad.out (fun _ hk => hk.2)))
 (case aS => exact (below_size (pE HB.out Ab.out)))
 (case aL => have := LMc4.out; omega)
 intro v590 w12 ho hb hg hat
 rw [← Ny589.out] at ho
 replace Aa := Am (blk_grown (g := Ae) (o := .cells #[.int .i64 a0_0, .int .i64 a0_1, .int .i64 a0_2, .int .u32 a0_3] 48 (0, 0)) (pK Aa.out) hg (Kd.R_ne Ad.out Aa.out (by decide)))
 replace Ac := Am (Kd.R_over' (pR Ac.out) (Kd.R_typed (pR Ad.out)) (by decide) hg)
 replace Af := Am (Kd.R_after (ok := (fun _ => True)) (pR Af.out) hg hat)
 replace HB := Am (hb)
 have Ak := Am (ho)
 clear Ad
 clear ho hb hg hat
 refine hK.out _ _ ⟨(blk_cell Aa.out 0).trans rfl, (blk_cell Aa.out 1).trans rfl, (blk_cell Aa.out 2).trans rfl, (blk_cell Aa.out 3).trans rfl⟩ (fun hHeld => ?_)
 clear hK K
 refine norm_ (a' := ?_) ?_ ?_
 rotate_left
 ·show Act.put _ (some 17) _ = _
  simp only [Act.put, List.setIfInBounds_toArray, List.set_cons_zero, List.set_cons_succ, i64_w, i32_w]
  rfl
 refine pui 15 2 16 65535 HT_ ?_
 refine done_ (done_of HT_.out (by kernel_rfl)) ?_
 try go_wp2
 go_ret
 exact ⟨_, pX, by (with_reducible repeat (first | apply Kd.R_alloc | apply Kd.R_drewN | apply Kd.R_drew)); exact Kd.R_mono Ak.out (fun _ hk => trivial), pE HB.out Ab.out⟩
def garnerref05_Put.f (k : Nat) (a0_0 : Bool) (l0_1 : List Int) (a0_2 : Int) (a0_3 : Int) (a0_4 : Int) (a0_5 : Int) : Option (List Int) := if a0_0 = true then ((some (([1] : List Int) : List Int)).bind fun y593 => ((garnerref04_Put.f k a0_2 a0_3 a0_4 a0_5).bind fun t596 => (if y593.length + t596.length < 140737488355328 then (some (y593 ++ t596)) else (none)))) else ((some (([0] : List Int) : List Int)).bind fun y602 => ((garnerref02_One.f k (IntKind.u64.wrap ((l0_1.length : Int)))).bind fun t605 => (if y602.length + t605.length < 140737488355328 then ((some (y602 ++ t605 : List Int)).bind fun y608 => (if y608.length + l0_1.length < 140737488355328 then (some (y608 ++ l0_1)) else (none))) else (none))))
theorem garnerref05_Put.mono : ∀ a0 a1 a2 a3 a4 a5 k, LeO (garnerref05_Put.f k a0 a1 a2 a3 a4 a5) (garnerref05_Put.f (k + 1) a0 a1 a2 a3 a4 a5) := by
 intro a0 a1 a2 a3 a4 a5 k
 unfold garnerref05_Put.f
 repeat' (with_reducible first | exact garnerref02_One.mono .. | exact garnerref04_Put.mono .. | exact LeO.refl .. | exact LeO.none .. | refine LeO.ite ?_ ?_ | refine LeO.bind ?_ (fun _ => ?_))
def garnerref05_Put.T3 : Bool × List (List Nat × List Nat) := (true, [([], []), ([], []), ([1], [1]), ([2], [2]), ([3], [3]), ([4], [4]), ([0, 5, 5], [0, 5]), ([], []), ([7], [7]), ([6, 8, 6], [6, 8]), ([9, 9, 0, 1, 2, 3, 4, 5, 6, 7, 8, 9], [9])])
def garnerref05_Put.B3 : List Nat := [0, 0, 2, 6, 14, 30, 63, 0, 128, 511, 1023]
theorem garnerref05_Put.tab3 : rtab .any (opsOf Try.f58 3) = garnerref05_Put.T3 := by kernel_rfl
theorem garnerref05_Put.bits3 : waitsOk garnerref05_Put.T3.2 garnerref05_Put.B3 = true := by kernel_rfl
set_option maxRecDepth 100000 in
theorem garnerref05_Put.calls (k : Nat) (a0_0 : Bool) (A0_1 : Option Addr) (c0_1 : Nat) (l0_1 : List Int) (a0_2 : Int) (a0_3 : Int) (a0_4 : Int) (a0_5 : Int) (r : List Int) (w : World) (hr0_1 : Kd.C (Kd.int .u8) w A0_1 l0_1.length l0_1) (hc0_1 : l0_1.length ≤ c0_1) (h : garnerref05_Put.f k a0_0 l0_1 a0_2 a0_3 a0_4 a0_5 = some r) :
 Calls Try.prog 58 #[.agg #[.bool a0_0, .slice A0_1 l0_1.length c0_1, .int .i64 a0_2, .int .i64 a0_3, .int .i64 a0_4, .int .u32 a0_5]] w fun e w' => ∃ v0_ : Value, e = .returned (v0_) ∧ Kd.R (Kd.int .u8) 5 w' w.heap.size (fun _ => True) v0_ r ∧ Below w.heap.size w w' := by
 have hu50 := Try.underlying50
 have hu48 := Try.underlying48
 have An := Am hr0_1
 have HC0_1 := Am hc0_1
 clear hr0_1 hc0_1
 have HB := Am (Below.refl w.heap.size w)
 unfold garnerref05_Put.f at h
 have H := h
 clear h
 by_cases c2 : a0_0 = true
 ·subst c2
  rw [if_pos rfl] at H
  obtain ⟨y593, hy593⟩ : ∃ y_ : List Int, y_ = (([1] : List Int)) := ⟨_, rfl⟩
  replace H : ((garnerref04_Put.f k a0_2 a0_3 a0_4 a0_5).bind fun t596 => (if y593.length + t596.length < 140737488355328 then (some (y593 ++ t596)) else (none))) = some r := zy hy593 H
  have Ny593 := Am hy593
  clear hy593
  obtain ⟨t596, A3, H⟩ := zb H
  obtain ⟨c4, H⟩ := zI H
  have LMc4 := Am c4
  clear c4
  obtain ⟨y599, hy599⟩ : ∃ y_ : List Int, y_ = (y593 ++ t596) := ⟨_, rfl⟩
  replace H : (some y599) = some r := zy hy599 H
  have Ny599 := Am hy599
  clear hy599
  obtain rfl := Option.some.inj H
  go_enter Try.func58, Try.ntmps58
  go_wp2_with (first | ((with_reducible refine zD 1 rfl ?_); refine zE 1 #[.bool true, .slice A0_1 l0_1.length c0_1, .int .i64 a0_2, .int .i64 a0_3, .int .i64 a0_4, .int .u32 a0_5] 50 ?_; intro Ad hg w5 hbox hb; have Aa := Am (hbox); have Ah := zA hg HB; replace HB := zB HB hb; have Ab := Ah; clear hb hbox hg; obtain ⟨_, _, _, _, _, _⟩ := bc6 Aa.out; obtain ⟨_, _, _, _, _, _⟩ := bf6 Aa.out) | ((with_reducible refine zD 5 rfl ?_); refine Kd.R_lit (Kd.int .u8) _ 5 ?hg (N := 5) ?hd (xs := ([1] : List Int)) (inner := [.int .u8 1]) (ok := fun _ => True) (okp := fun _ => True) ?hr ?hp (fun _ hk => hk) trivial (Below.refl _ _) (Nat.le_refl _) (by simp) ?_; (case hd => rfl); (case hg => rfl); (case hr => first | (go_simp; done) | (go_simp; rfl)); (case hp => exact (Reps.one (show Kd.M (Kd.int .u8) _ _ _ 1 [.int .u8 1] from rfl) (Reps.none _ _))); intro v594 w7 ho8 hb hg_ hnew_; clear hg_ hnew_; (first | rw [← Ny593.out] at ho8 | (simp only [Int.reduceToNat] at ho8; rw [← Ny593.out] at ho8)); have Af := Am (Kd.R_lower ho8 (below_size (pE HB.out Ab.out))); replace Aa := kBa Aa hb; replace HB := zX1 HB Ab.out hb; clear hb ho8; obtain ⟨_, _, _, _, _, _⟩ := bc6 Aa.out; obtain ⟨_, _, _, _, _, _⟩ := bf6 Aa.out) | ((with_reducible refine zC 73 rfl ?_); refine zL (some 8) Try.func73 #[.agg #[.int .i64 a0_2, .int .i64 a0_3, .int .i64 a0_4, .int .u32 a0_5]] ?_; (with_reducible refine (garnerref04_Put.calls k a0_2 a0_3 a0_4 a0_5 t596 _ A3.out).mono ?_); rintro e w10 ⟨v597, rfl, ho0, hb⟩; refine ⟨_, rfl, ?_⟩; have Ag := Am (Kd.R_lower (Kd.R_new' ho0 (Kd.R_lt (pR Af.out))) (below_size (pE HB.out Ab.out))); replace Af := Am (Kd.R_elder' (pR Af.out) (Kd.R_base ho0) hb); replace Aa := kBa Aa hb; replace HB := zX1 HB Ab.out hb; (try clear hb); (try clear ho0); obtain ⟨Aq, Ar, As⟩ := Kd.R_slice Ag.out; subst As) | ((with_reducible refine gate_builtin (b := .append) (xs := #[.tmp 5, .tmp 8]) rfl ?_); at_builtin; refine Kd.R_append_rows (Kd.int .u8) (w0 := w) w.heap.size rfl (.tmp 5) (.tmp 8) 22 5 (.int .u8 0) 1 rfl Try.underlying22 info5 rfl (by decide) (by omega) v594 y593 t596 _ _ _ (fun k_ => some k_ ≠ (.slice Aq t596.length Ar : Value).ownBlock) (fun _ => False) rfl rfl ?aO ?aR (fun _ _ h => h) (fun _ h => h.elim) ?aF ?aB ?aS ?aL ?_; (case aR => exact pC (Kd.R_reads' Ag.out).2.2); (case aB => exact (pE HB.out Ab.out)); (case aF => exact (fun k_ hk => Kd.fresh' (Kd.R_lt (pR Ag.out)) k_ hk)); (case aO => exact (by (with_reducible repeat (first | apply Kd.R_alloc | apply Kd.R_drewN | apply Kd.R_drew)); exact Kd.R_mono Af.out (fun _ hk => hk.2))); (case aS => exact (below_size (pE HB.out Ab.out))); (case aL => have := LMc4.out; omega); intro v600 w11 ho hb hg hat; rw [← Ny599.out] at ho; replace Aa := Am (blk_grown (g := Ad) (o := .cells #[.bool true, .slice A0_1 l0_1.length c0_1, .int .i64 a0_2, .int .i64 a0_3, .int .i64 a0_4, .int .u32 a0_5] 50 (0, 0)) (pK Aa.out) hg (Kd.R_ne Af.out Aa.out (by decide))); replace Ag := Am (Kd.R_after (ok := (fun _ => True)) (pR Ag.out) hg hat); replace HB := Am (hb); have Ao := Am (ho); clear Af ho hb hg hat))
  go_ret
  exact ⟨_, pX, by (with_reducible repeat (first | apply Kd.R_alloc | apply Kd.R_drewN | apply Kd.R_drew)); exact Kd.R_mono Ao.out (fun _ hk => trivial), pE HB.out Ab.out⟩
 replace c2 := Bool.eq_false_iff.mpr c2
 subst c2
 rw [if_neg zF] at H
 obtain ⟨y602, hy602⟩ : ∃ y_ : List Int, y_ = (([0] : List Int)) := ⟨_, rfl⟩
 replace H : ((garnerref02_One.f k (IntKind.u64.wrap ((l0_1.length : Int)))).bind fun t605 => (if y602.length + t605.length < 140737488355328 then ((some (y602 ++ t605 : List Int)).bind fun y608 => (if y608.length + l0_1.length < 140737488355328 then (some (y608 ++ l0_1)) else (none))) else (none))) = some r := zy hy602 H
 have Ny602 := Am hy602
 clear hy602
 obtain ⟨t605, A13, H⟩ := zb H
 obtain ⟨c14, H⟩ := zI H
 have LMc14 := Am c14
 clear c14
 obtain ⟨y608, hy608⟩ : ∃ y_ : List Int, y_ = (y602 ++ t605) := ⟨_, rfl⟩
 replace H : (if y608.length + l0_1.length < 140737488355328 then (some (y608 ++ l0_1)) else (none)) = some r := zy hy608 H
 have Ny608 := Am hy608
 clear hy608
 obtain ⟨c15, H⟩ := zI H
 have LMc15 := Am c15
 clear c15
 obtain ⟨y611, hy611⟩ : ∃ y_ : List Int, y_ = (y608 ++ l0_1) := ⟨_, rfl⟩
 replace H : (some y611) = some r := zy hy611 H
 have Ny611 := Am hy611
 clear hy611
 obtain rfl := Option.some.inj H
 go_enter Try.func58, Try.ntmps58
 try go_wp2_with (first | ((with_reducible refine zD 1 rfl ?_); refine zE 1 #[.bool false, .slice A0_1 l0_1.length c0_1, .int .i64 a0_2, .int .i64 a0_3, .int .i64 a0_4, .int .u32 a0_5] 50 ?_; intro Ad hg w16 hbox hb; have Aa := Am (hbox); have Ah := zA hg HB; replace HB := zB HB hb; have Ab := Ah; clear hb hbox hg; obtain ⟨_, _, _, _, _, _⟩ := bc6 Aa.out; obtain ⟨_, _, _, _, _, _⟩ := bf6 Aa.out))
 replace Aa := kDa Aa
 replace HB := bDa HB
 refine start_ (n := 11) (S := fun w' => cG w' Ad 1 (.slice A0_1 l0_1.length c0_1)) (ds := []) #[false, false, false, false, false, false, false, false, false, false, false] (by kernel_rfl) rfl rfl ((blk_cell Aa.out 1).trans rfl) (fun hHeld => ?_); refine with_tabW garnerref05_Put.tab3 garnerref05_Put.bits3 (fun HT_ HW_ => ?_)
 generalize w16.drew = w18 at Aa HB hHeld ⊢
 refine pui 1 11 11 2 HT_ ?_
 refine zp 7 (h := ?_)
 refine take_ (i := 2) (N := some 12) (v := ?_) (a' := ?_) (bw 11 134) rfl rfl (take_ofW HT_.out HW_.out (by kernel_rfl)) (fun _ _ _ h => h) (Or.inl ⟨by rfl, ?_⟩) hHeld ?_ ?_
 rotate_left
 ·intro w' s0
  go_simp
  with_reducible rfl
 rotate_left
 ·exact za
 refine pui 3 13 11 142 HT_ ?_
 refine zp 4 (h := ?_)
 refine take_ (i := 8) (N := some 18) (v := ?_) (a' := ?_) (bw 11 414) rfl rfl (take_ofW HT_.out HW_.out (by kernel_rfl)) (fun _ _ _ h => h) (Or.inl ⟨by rfl, ?_⟩) hHeld ?_ ?_
 rotate_left
 ·intro w' s0
  go_simp
  with_reducible rfl
 rotate_left
 ·exact za
 refine join_ (σ := Value × Value) 3 #[true, true, true, true, true, true, false, true, true, false, false] (fun s_ => [(10, s_.1), (15, s_.2)]) (fun s_ w' => (cG w' Ad 1 (.slice A0_1 l0_1.length c0_1)) ∧ (Kd.R (Kd.int .u8) 5 w' w.heap.size (fun k_ => some k_ ≠ (s_.2 : Value).ownBlock) s_.1 y602) ∧ (Kd.R (Kd.int .u8) 5 w' w.heap.size (fun k_ => some k_ ≠ (s_.1 : Value).ownBlock) s_.2 t605) ∧ (w'.heap[Ad]? = some (.cells #[.bool false, .slice A0_1 l0_1.length c0_1, .int .i64 a0_2, .int .i64 a0_3, .int .i64 a0_4, .int .u32 a0_5] 50 (0, 0))) ∧ (Below w.heap.size w w')) ?_ ?_
 rotate_left
 ·intro hCont
  refine two_ (i := 0) (j := 5) (Ni := some 10) (Nj := some 15) (bw 11 415) #[false, true, true, true, true, true, false, true, true, false, false] rfl rfl rfl rfl (two_of HT_.out (by kernel_rfl)) (by decide) (by decide) (fun K hK => ?_) (fun K hK => ?_)
  ·skip
   refine Kd.R_lit_step (Kd.int .u8) _ 5 ?hg (N := 10) ?hd (xs := ([0] : List Int)) (inner := [.int .u8 0]) (ok := fun _ => True) (okp := fun _ => True) ?hr ?hp (fun _ hk => hk) trivial (Below.refl _ _) (Nat.le_refl _) (by simp) ?_; (case hd => rfl); (case hg => rfl); (case hr => first | (go_simp; done) | (go_simp; rfl)); (case hp => exact (Reps.one (show Kd.M (Kd.int .u8) _ _ _ 0 [.int .u8 0] from rfl) (Reps.none _ _)))
   intro v603 w19 ho20 hb hg_ hnew_
   clear hg_ hnew_
   (first | rw [← Ny602.out] at ho20 | (simp only [Int.reduceToNat] at ho20; rw [← Ny602.out] at ho20))
   have Ae := Am (Kd.R_lower ho20 (below_size (pE HB.out Ab.out)))
   replace Aa := kBa Aa hb
   replace HB := zX1 HB Ab.out hb
   clear hb ho20
   refine hK.out _ _ ((blk_cell Aa.out 1).trans rfl) (fun hHeld => ?_)
   clear hK K
   refine norm_ (a' := ?_) ?_ ?_
   rotate_left
   ·show Act.put _ (some 10) _ = _
    simp only [Act.put, List.setIfInBounds_toArray, List.set_cons_zero, List.set_cons_succ, i64_w, i32_w]
    rfl
   refine onei 5 15 11 447 HT_ (fun K hK => ?_)
   refine goes_ Try.func36 (by kernel_rfl) rfl #[.int .u64 (IntKind.u64.wrap ((l0_1.length : Int)))] (by rfl) rfl rfl pL ?_
   with_reducible refine (garnerref02_One.calls k (IntKind.u64.wrap ((l0_1.length : Int))) t605 _ A13.out).mono ?_
   rintro e w21 ⟨v606, rfl, ho0, hb⟩
   refine ⟨_, rfl, ?_⟩
   have Ac := Am (Kd.R_lower (Kd.R_new' ho0 (Kd.R_lt (pR Ae.out))) (below_size (pE HB.out Ab.out)))
   replace Ae := Am (Kd.R_elder' (pR Ae.out) (Kd.R_base ho0) hb)
   replace Aa := kBa Aa hb
   replace HB := zX1 HB Ab.out hb
   (try clear hb)
   (try clear hb2)
   (try clear hk)
   (try clear hi)
   (try clear ho0)
   refine hK.out _ _ ((blk_cell Aa.out 1).trans rfl) (fun hHeld => ?_)
   clear hK K
   refine norm_ (a' := ?_) ?_ ?_
   rotate_left
   ·show Act.put _ (some 15) _ = _
    simp only [Act.put, List.setIfInBounds_toArray, List.set_cons_zero, List.set_cons_succ, i64_w, i32_w]
    rfl
   exact norm_ (by simp only [putAll, Act.put, List.setIfInBounds_toArray, List.set_cons_zero, List.set_cons_succ]) (hCont (v603, v606) _ ⟨hHeld, (by (with_reducible repeat (first | apply Kd.R_alloc | apply Kd.R_drewN | apply Kd.R_drew)); exact Kd.R_mono Ae.out (fun _ hk => hk.2)), (by (with_reducible repeat (first | apply Kd.R_alloc | apply Kd.R_drewN | apply Kd.R_drew)); exact Kd.R_mono Ac.out (fun _ hk => hk.2)), (pK Aa.out), (pE HB.out Ab.out)⟩)
  skip
  refine goes_ Try.func36 (by kernel_rfl) rfl #[.int .u64 (IntKind.u64.wrap ((l0_1.length : Int)))] (by rfl) rfl rfl pL ?_
  with_reducible refine (garnerref02_One.calls k (IntKind.u64.wrap ((l0_1.length : Int))) t605 _ A13.out).mono ?_
  rintro e w19 ⟨v606, rfl, ho0, hb⟩
  refine ⟨_, rfl, ?_⟩
  have Ac := Am (Kd.R_lower ho0 (below_size (pE HB.out Ab.out)))
  replace Aa := kBa Aa hb
  replace HB := zX1 HB Ab.out hb
  (try clear hb)
  (try clear hb2)
  (try clear hk)
  (try clear hi)
  (try clear ho0)
  refine hK.out _ _ ((blk_cell Aa.out 1).trans rfl) (fun hHeld => ?_)
  clear hK K
  refine norm_ (a' := ?_) ?_ ?_
  rotate_left
  ·show Act.put _ (some 15) _ = _
   simp only [Act.put, List.setIfInBounds_toArray, List.set_cons_zero, List.set_cons_succ, i64_w, i32_w]
   rfl
  refine onei 0 10 11 447 HT_ (fun K hK => ?_)
  refine Kd.R_lit_step (Kd.int .u8) _ 5 ?hg (N := 10) ?hd (xs := ([0] : List Int)) (inner := [.int .u8 0]) (ok := fun _ => True) (okp := fun _ => True) ?hr ?hp (fun _ hk => hk) trivial (Below.refl _ _) (Nat.le_refl _) (by simp) ?_; (case hd => rfl); (case hg => rfl); (case hr => first | (go_simp; done) | (go_simp; rfl)); (case hp => exact (Reps.one (show Kd.M (Kd.int .u8) _ _ _ 0 [.int .u8 0] from rfl) (Reps.none _ _)))
  intro v603 w20 ho21 hb hg_ hnew_
  clear hg_ hnew_
  (first | rw [← Ny602.out] at ho21 | (simp only [Int.reduceToNat] at ho21; rw [← Ny602.out] at ho21))
  have Ae := Am (Kd.R_lower (Kd.R_new' ho21 (Kd.R_lt (pR Ac.out))) (below_size (pE HB.out Ab.out)))
  replace Ac := Am (Kd.R_elder' (pR Ac.out) (Kd.R_base ho21) hb)
  replace Aa := kBa Aa hb
  replace HB := zX1 HB Ab.out hb
  clear hb ho21
  refine hK.out _ _ ((blk_cell Aa.out 1).trans rfl) (fun hHeld => ?_)
  clear hK K
  refine norm_ (a' := ?_) ?_ ?_
  rotate_left
  ·show Act.put _ (some 10) _ = _
   simp only [Act.put, List.setIfInBounds_toArray, List.set_cons_zero, List.set_cons_succ, i64_w, i32_w]
   rfl
  exact norm_ (by simp only [putAll, Act.put, List.setIfInBounds_toArray, List.set_cons_zero, List.set_cons_succ]) (hCont (v603, v606) _ ⟨hHeld, (by (with_reducible repeat (first | apply Kd.R_alloc | apply Kd.R_drewN | apply Kd.R_drew)); exact Kd.R_mono Ae.out (fun _ hk => hk.2)), (by (with_reducible repeat (first | apply Kd.R_alloc | apply Kd.R_drewN | apply Kd.R_drew)); exact Kd.R_mono Ac.out (fun _ hk => hk.2)), (pK Aa.out), (pE HB.out Ab.out)⟩)
 rintro ⟨v603, v606⟩ w22 ⟨hS_, h0_, h1_, h2_, h3_⟩
 have Ae : Aside0 (Kd.R (Kd.int .u8) 5 w22 w.heap.size (fun k_ => some k_ ≠ (v606 : Value).ownBlock) v603 y602) := ⟨h0_⟩
 have Ac : Aside0 (Kd.R (Kd.int .u8) 5 w22 w.heap.size (fun k_ => some k_ ≠ (v603 : Value).ownBlock) v606 t605) := ⟨h1_⟩
 replace Aa : Aside0 (w22.heap[Ad]? = some (.cells #[.bool false, .slice A0_1 l0_1.length c0_1, .int .i64 a0_2, .int .i64 a0_3, .int .i64 a0_4, .int .u32 a0_5] 50 (0, 0))) := ⟨h2_⟩
 replace HB : Aside0 (Below w.heap.size w w22) := ⟨h3_⟩
 clear h0_ h1_ h2_ h3_
 have hHeld : w22.cell? ⟨Ad, 1, none⟩ = some (.slice A0_1 l0_1.length c0_1) := hS_
 obtain ⟨Aj, Ak, Al⟩ := Kd.R_slice Ac.out
 (first | subst Al | (injection Al with f1_ f2_ f3_; have f4_ := f1_.symm; have f5_ := f3_.symm; clear f1_ f2_ f3_; subst f4_; subst f5_))
 refine norm_ (a' := ?_) ?_ ?_
 rotate_left
 ·simp only [putAll, Act.put, List.setIfInBounds_toArray, List.set_cons_zero, List.set_cons_succ]
  rfl
 refine onei 6 16 11 511 HT_ (fun K hK => ?_)
 refine Kd.R_append_rows_step (Kd.int .u8) (w0 := w) w.heap.size (by rfl) (.tmp 10) (.tmp 15) 22 5 (.int .u8 0) 1 rfl Try.underlying22 info5 rfl (by decide) (by omega) v603 y602 t605 _ _ _ (fun k_ => some k_ ≠ (.slice Aj t605.length Ak : Value).ownBlock) (fun _ => False) rfl rfl ?aO ?aR (fun _ _ h => h) (fun _ h => h.elim) ?aF ?aB ?aS ?aL ?_
 (case aR => exact pC (Kd.R_reads' Ac.out).2.2)
 (case aB => exact (pE HB.out Ab.out))
 (case aF => exact (fun k_ hk => Kd.fresh' (Kd.R_lt (pR Ac.out)) k_ hk))
 (case aO => exact (pR Ae.out))
 (case aS => exact (below_size (pE HB.out Ab.out)))
 (case aL => have := LMc14.out; omega)
 intro v609 w23 ho hb hg hat
 rw [← Ny608.out] at ho
 replace Aa := Am (blk_grown (g := Ad) (o := .cells #[.bool false, .slice A0_1 l0_1.length c0_1, .int .i64 a0_2, .int .i64 a0_3, .int .i64 a0_4, .int .u32 a0_5] 50 (0, 0)) (pK Aa.out) hg (Kd.R_ne Ae.out Aa.out (by decide)))
 replace Ac := Am (Kd.R_after (ok := (fun _ => True)) (by (with_reducible repeat (first | apply Kd.R_alloc | apply Kd.R_drewN | apply Kd.R_drew)); exact Kd.R_mono Ac.out (fun _ hk => ⟨trivial, hk⟩)) hg hat)
 replace HB := Am (hb)
 have Ai := Am (ho)
 clear Ae
 clear ho hb hg hat
 refine hK.out _ _ ((blk_cell Aa.out 1).trans rfl) (fun hHeld => ?_)
 clear hK K
 refine norm_ (a' := ?_) ?_ ?_
 rotate_left
 ·show Act.put _ (some 16) _ = _
  simp only [Act.put, List.setIfInBounds_toArray, List.set_cons_zero, List.set_cons_succ, i64_w, i32_w]
  rfl
 refine onei 9 19 11 1023 HT_ (fun K hK => ?_)
 refine Kd.R_append_rows_step (Kd.int .u8) (w0 := w) w.heap.size (by rfl) (.tmp 16) (.tmp 18) 22 5 (.int .u8 0) 1 rfl Try.underlying22 info5 rfl (by decide) (by omega) v609 y608 l0_1 _ _ _ (fun k_ => some k_ ≠ (.slice Aj t605.length Ak : Value).ownBlock) (fun _ => False) rfl rfl ?aO ?aR (fun _ _ h => h) (fun _ h => h.elim) ?aF ?aB ?aS ?aL ?_
 (case aR => exact pC (Kd.C_below An.out HB.out))
 (case aB => exact (pE HB.out Ab.out))
 (case aF => exact (fun k_ hk => Kd.fresh' (Kd.R_lt (pR Ac.out)) k_ hk))
 (case aO => exact (pR Ai.out))
 (case aS => exact (below_size (pE HB.out Ab.out)))
 (case aL => have := LMc15.out; omega)
 intro v612 w25 ho hb hg hat
 rw [← Ny611.out] at ho
 replace Aa := Am (blk_grown (g := Ad) (o := .cells #[.bool false, .slice A0_1 l0_1.length c0_1, .int .i64 a0_2, .int .i64 a0_3, .int .i64 a0_4, .int .u32 a0_5] 50 (0, 0)) (pK Aa.out) hg (Kd.R_ne Ai.out Aa.out (by decide)))
 replace Ac := Am (Kd.R_after (ok := (fun _ => True)) (pR Ac.out) hg hat)
 replace HB := Am (hb)
 have Ap := Am (ho)
 clear Ai
 clear ho hb hg hat
 refine hK.out _ _ ((blk_cell Aa.out 1).trans rfl) (fun hHeld => ?_)
 clear hK K
 refine norm_ (a' := ?_) ?_ ?_
 rotate_left
 ·show Act.put _ (some 19) _ = _
  simp only [Act.put, List.setIfInBounds_toArray, List.set_cons_zero, List.set_cons_succ, i64_w, i32_w]
  rfl
 refine pui 10 2 11 2047 HT_ ?_
 refine done_ (done_of HT_.out (by kernel_rfl)) ?_
 try go_wp2
 go_ret
 exact ⟨_, pX, by (with_reducible repeat (first | apply Kd.R_alloc | apply Kd.R_drewN | apply Kd.R_drew)); exact Kd.R_mono Ap.out (fun _ hk => trivial), pE HB.out Ab.out⟩
end
end Go.Proofs.Ytdanmjfkocjgjaa.PWalPuts
