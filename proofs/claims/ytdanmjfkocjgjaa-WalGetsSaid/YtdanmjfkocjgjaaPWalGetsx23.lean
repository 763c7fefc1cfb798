/- What the law reaches, as plain Lean functions, and that the machine's calls answer just that. -/
import Derived.Test.YtdanmjfkocjgjaaPWalGetsx0
import Derived.Test.YtdanmjfkocjgjaaPWalGetsx1
import Derived.Test.YtdanmjfkocjgjaaPWalGetsx14
namespace Go.Proofs.Ytdanmjfkocjgjaa.PWalGets
open Go.RowKit Go.Proofs.YtdanmjfkocjgjaaW.PrintWords Go.Proofs.YtdanmjfkocjgjaaW.PrintLast Go.Proofs.YtdanmjfkocjgjaaW.PrintMore
attribute [local go_sem] max2_int min2_int max_two min_two max_three min_three max_four min_four
set_option linter.unusedVariables false
set_option linter.unusedSimpArgs false
attribute [local go_sem] wrap64_l1 wrap64_l2 wrap64_l3 wrap64_l4 wrap64_l5
attribute [local go_sem high] eqA28
def garnerref06_Same.l0 : Nat → List (S52) → List (S52) → Int → Option (Bool)
 | 0, _, _, _ => none
 | k + 1, x0, x1, x5 => if x5 < (x0.length : Int) then (if 0 ≤ x5 then (if x5 < (x1.length : Int) then (if ((rd_T52 x0 x5).f0) = ((rd_T52 x1 x5).f0) then (if ((rd_T52 x0 x5).f1) = ((rd_T52 x1 x5).f1) then (if ((rd_T52 x0 x5).f2) = ((rd_T52 x1 x5).f2) then (if ((rd_T52 x0 x5).f3).toList = ((rd_T52 x1 x5).f3).toList then ((garnerref05_Same.f k ((rd_T52 x0 x5).f4.f0) ((rd_T52 x0 x5).f4.f1) ((rd_T52 x0 x5).f4.f2.f0) ((rd_T52 x0 x5).f4.f2.f1) ((rd_T52 x0 x5).f4.f2.f2) ((rd_T52 x0 x5).f4.f2.f3) ((rd_T52 x1 x5).f4.f0) ((rd_T52 x1 x5).f4.f1) ((rd_T52 x1 x5).f4.f2.f0) ((rd_T52 x1 x5).f4.f2.f1) ((rd_T52 x1 x5).f4.f2.f2) ((rd_T52 x1 x5).f4.f2.f3)).bind fun t548 => (if t548 = true then (garnerref06_Same.l0 k x0 x1 (wrap64 (x5 + 1))) else (some false))) else (some false)) else (some false)) else (some false)) else (some false)) else (none)) else (none)) else (some true)
def garnerref06_Same.f (k : Nat) (l0 : List (S52)) (l1 : List (S52)) : Option (Bool) := if (l0.length : Int) = (l1.length : Int) then (garnerref06_Same.l0 k l0 l1 0) else (some false)
theorem garnerref06_Same.mono_l : ∀ k, (∀ y0 y1 y2, LeO (garnerref06_Same.l0 k y0 y1 y2) (garnerref06_Same.l0 (k + 1) y0 y1 y2))
 | 0 => fun _ _ _ r h => by simp [garnerref06_Same.l0] at h
 | k + 1 => by
  have ih0 := garnerref06_Same.mono_l k
  ·intro y0 y1 y2
   unfold garnerref06_Same.l0
   repeat' (with_reducible first | exact ih0 .. | exact garnerref05_Same.mono .. | exact LeO.refl .. | exact LeO.none .. | refine LeO.ite ?_ ?_ | refine LeO.bind ?_ (fun _ => ?_))
theorem garnerref06_Same.mono : ∀ a0 a1 k, LeO (garnerref06_Same.f k a0 a1) (garnerref06_Same.f (k + 1) a0 a1) := by
 intro a0 a1 k
 have ih0 := garnerref06_Same.mono_l k
 unfold garnerref06_Same.f
 repeat' (with_reducible first | exact ih0 .. | exact garnerref05_Same.mono .. | exact LeO.refl .. | exact LeO.none .. | refine LeO.ite ?_ ?_ | refine LeO.bind ?_ (fun _ => ?_))
def garnerref06_Same.T6 : Bool × List (List Nat × List Nat) := (true, [([], []), ([], []), ([0, 1], [0, 1]), ([2], [2]), ([3], [3]), ([], []), ([], []), ([5, 6], [5, 6]), ([7], [7]), ([8], [8]), ([4, 9], [4, 9]), ([10], [10]), ([11], [11]), ([11], [11]), ([12, 13, 11], [11, 12, 13]), ([14, 11], [11, 14]), ([15, 11], [11, 15]), ([11], [11]), ([11], [11]), ([17, 18, 11], [11, 17, 18]), ([19, 11], [11, 19]), ([20, 11], [11, 20]), ([16, 21, 11], [11, 16, 21]), ([11, 22], [11, 22]), ([23, 11], [23]), ([24], [24]), ([24], [24]), ([25, 26, 24], [24, 25, 26]), ([27, 24], [24, 27]), ([28, 24], [24, 28]), ([24], [24]), ([24], [24]), ([30, 31, 24], [24, 30, 31]), ([32, 24], [24, 32]), ([33, 24], [24, 33]), ([29, 34, 24], [24, 29, 34]), ([24, 35], [24, 35]), ([36, 24], [36]), ([37], [37]), ([37], [37]), ([38, 39, 37], [37, 38, 39]), ([40, 37], [37, 40]), ([41, 37], [37, 41]), ([37], [37]), ([37], [37]), ([43, 44, 37], [37, 43, 44]), ([45, 37], [37, 45]), ([46, 37], [37, 46]), ([42, 47, 37], [37, 42, 47]), ([37, 48], [37, 48]), ([49, 37], [49]), ([50], [50]), ([50], [50]), ([51, 52, 50], [50, 51, 52]), ([53, 50], [50, 53]), ([54, 50], [50, 54]), ([50], [50]), ([50], [50]), ([56, 57, 50], [50, 56, 57]), ([58, 50], [50, 58]), ([59, 50], [50, 59]), ([55, 60, 50, 50], [50, 55, 60]), ([61, 50], [50, 61]), ([50, 62], [50, 62])])
def garnerref06_Same.B6 : List Nat := [0, 0, 3, 7, 15, 0, 0, 96, 224, 480, 1023, 2047, 4095, 4095, 16383, 32767, 65535, 4095, 4095, 397311, 921599, 1970175, 4194303, 8388607, 16777215, 33554431, 33554431, 134217727, 268435455, 536870911, 33554431, 33554431, 3254779903, 7549747199, 16139681791, 34359738367, 68719476735, 137438953471, 274877906943, 274877906943, 1099511627775, 2199023255551, 4398046511103, 274877906943, 274877906943, 26663156973567, 61847529062399, 132216273240063, 281474976710655, 562949953421311, 1125899906842623, 2251799813685247, 2251799813685247, 9007199254740991, 18014398509481983, 36028797018963967, 2251799813685247, 2251799813685247, 218424581927469055, 506654958079180799, 1083115710382604287, 2305843009213693951, 4611686018427387903, 9223372036854775807]
theorem garnerref06_Same.tab6 : rtab .any (opsOf Try.f23 6) = garnerref06_Same.T6 := by kernel_rfl
theorem garnerref06_Same.bits6 : waitsOk garnerref06_Same.T6.2 garnerref06_Same.B6 = true := by kernel_rfl
set_option maxHeartbeats 8000000 in
set_option maxRecDepth 100000 in
theorem garnerref06_Same.calls (k : Nat) (A0 : Option Addr) (c0 : Nat) (l0 : List (S52)) (A1 : Option Addr) (c1 : Nat) (l1 : List (S52)) (r : Bool) (w : World) (hr0 : Kd.C k52 w A0 l0.length l0) (hc0 : l0.length ≤ c0) (hr1 : Kd.C k52 w A1 l1.length l1) (hc1 : l1.length ≤ c1) (h : garnerref06_Same.f k l0 l1 = some r) :
 Calls Try.prog 23 #[.slice A0 l0.length c0, .slice A1 l1.length c1] w fun e w' => e = .returned (.bool r) ∧ Below w.heap.size w w' := by
 have hu50 := Try.underlying50
 have HR0 := Am hr0
 have HC0 := Am hc0
 clear hr0 hc0
 have HR1 := Am hr1
 have HC1 := Am hc1
 clear hr1 hc1
 have HB := Am (Below.refl w.heap.size w)
 unfold garnerref06_Same.f at h
 have H := h
 clear h
 by_cases c3 : (l0.length : Int) = (l1.length : Int)
 rotate_left
 ·rw [if_neg c3] at H
  have c3b0 := beq_eq_false_iff_ne.mpr c3
  have c3b1 := bne_iff_ne.mpr c3
  have c3b2 : (l0.length == l1.length) = false := by first | simpa using c3 | (simp at c3 ⊢; omega)
  obtain rfl := Option.some.inj H
  go_enter Try.func23, Try.ntmps23
  go_wp2
  go_ret
  exact ⟨pX, pB HB.out⟩
 rw [if_pos c3] at H
 have c3b0 := beq_iff_eq.mpr c3
 have c3b1 := bne_eq_false_iff_eq.mpr c3
 have c3b2 : (l0.length == l1.length) = true := by first | simpa using c3 | (simp at c3 ⊢; omega)
 clear c3
 have H' := Am H
 clear H
 go_enter Try.func23, Try.ntmps23
 go_wp2
 go_loopg [5] k (fun kq v5 w' => ∃ (Aa : Int), v5 = .int .i64 Aa ∧ Aside0 (garnerref06_Same.l0 kq l0 l1 Aa = some r) ∧ Aside0 (kq ≤ k) ∧ Aside0 (Below w.heap.size w w'))
 case atStart => exact ⟨(0), zr, H', ⟨Nat.le_refl _⟩, ⟨pB HB.out⟩⟩
 case round =>
  clear H'
  try clear c1
  try clear c2
  try clear p2
  try clear c3
  try clear c3b0
  try clear c3b1
  try clear c3b2
  obtain ⟨Aa, rfl, HA, HK1, HB⟩ := hrel
  cases gk with
  | zero => exact absurd HA.out (by simp [garnerref06_Same.l0])
  | succ k1 =>
   have H := HA.out
   clear HA
   simp only [garnerref06_Same.l0] at H
   by_cases c4 : Aa < (l0.length : Int)
   rotate_left
   ·rw [if_neg c4] at H
    have c4b0 := decide_eq_false c4
    clear c4
    obtain rfl := Option.some.inj H
    go_wp2
    go_ret
    exact ⟨pX, pB HB.out⟩
   rw [if_pos c4] at H
   have c4b0 := decide_eq_true c4
   clear c4
   obtain ⟨c5, H⟩ := zI H
   have c5b0 := decide_eq_true c5
   clear c5
   obtain ⟨c6, H⟩ := zI H
   have c6b0 := decide_eq_true c6
   clear c6
   by_cases c7 : ((rd_T52 l0 Aa).f0) = ((rd_T52 l1 Aa).f0)
   rotate_left
   ·rw [if_neg c7] at H
    have c7b0 := beq_eq_false_iff_ne.mpr c7
    have c7b1 := bne_iff_ne.mpr c7
    obtain rfl := Option.some.inj H
    try go_wp2
    replace HB := bDa HB
    have p538 : 0 ≤ (Aa : Int) := of_decide_eq_true pS
    have q538 : Aa < (l0.length : Int) := of_decide_eq_true pS
    obtain ⟨Ab, Bq, c538_5, e538, A6, A7, A8, A9, Ba, Bb, Bc, Bd, Be, Bf, Ad, Ae, Ah, Ai, Aj, Ak, Al, An, Ao, Ap, Aq, Ar⟩ := at_T52w HR0.out Aa p538 q538 HB.out
    cases e538
    have As := Am Ae
    have Bs := Am Ad
    clear Ae Ad
    replace p538 := eq_true p538
    replace q538 := eq_true q538
    have p539 : 0 ≤ (Aa : Int) := of_decide_eq_true pS
    have q539 : Aa < (l1.length : Int) := of_decide_eq_true pS
    obtain ⟨Ac, Br, c539_5, e539, Bg, Bh, Bi, Bj, Bk, Bl, Bm, Bn, Bo, Bp, Af, Ag, At, Au, Av, Aw, Ax, Ay, Az, A2, A3, A4⟩ := at_T52w HR1.out Aa p539 q539 HB.out
    cases e539
    have A5 := Am Ag
    have Bt := Am Af
    clear Ag Af
    replace p539 := eq_true p539
    replace q539 := eq_true q539
    refine start_ (n := 64) (S := fun w' => w'.cell? (Ab.add ((Aa).toNat * 10)) = some (.int .i64 ((rd_T52 l0 Aa).f0)) ∧ cA w' (Ab.add ((Aa).toNat * 10)) 1 (.int .i64 ((rd_T52 l0 Aa).f1)) ∧ cA w' (Ab.add ((Aa).toNat * 10)) 2 (.int .i64 ((rd_T52 l0 Aa).f2)) ∧ cA w' (Ab.add ((Aa).toNat * 10)) 3 (.string ((rd_T52 l0 Aa).f3)) ∧ cA w' (Ab.add ((Aa).toNat * 10)) 4 (.bool ((rd_T52 l0 Aa).f4.f0)) ∧ cA w' (Ab.add ((Aa).toNat * 10)) 5 (.slice Bq ((rd_T52 l0 Aa).f4.f1).length c538_5) ∧ cA w' (Ab.add ((Aa).toNat * 10)) 6 (.int .i64 ((rd_T52 l0 Aa).f4.f2.f0)) ∧ cA w' (Ab.add ((Aa).toNat * 10)) 7 (.int .i64 ((rd_T52 l0 Aa).f4.f2.f1)) ∧ cA w' (Ab.add ((Aa).toNat * 10)) 8 (.int .i64 ((rd_T52 l0 Aa).f4.f2.f2)) ∧ cA w' (Ab.add ((Aa).toNat * 10)) 9 (.int .u32 ((rd_T52 l0 Aa).f4.f2.f3)) ∧ w'.cell? (Ac.add ((Aa).toNat * 10)) = some (.int .i64 ((rd_T52 l1 Aa).f0)) ∧ cA w' (Ac.add ((Aa).toNat * 10)) 1 (.int .i64 ((rd_T52 l1 Aa).f1)) ∧ cA w' (Ac.add ((Aa).toNat * 10)) 2 (.int .i64 ((rd_T52 l1 Aa).f2)) ∧ cA w' (Ac.add ((Aa).toNat * 10)) 3 (.string ((rd_T52 l1 Aa).f3)) ∧ cA w' (Ac.add ((Aa).toNat * 10)) 4 (.bool ((rd_T52 l1 Aa).f4.f0)) ∧ cA w' (Ac.add ((Aa).toNat * 10)) 5 (.slice Br ((rd_T52 l1 Aa).f4.f1).length c539_5) ∧ cA w' (Ac.add ((Aa).toNat * 10)) 6 (.int .i64 ((rd_T52 l1 Aa).f4.f2.f0)) ∧ cA w' (Ac.add ((Aa).toNat * 10)) 7 (.int .i64 ((rd_T52 l1 Aa).f4.f2.f1)) ∧ cA w' (Ac.add ((Aa).toNat * 10)) 8 (.int .i64 ((rd_T52 l1 Aa).f4.f2.f2)) ∧ cA w' (Ac.add ((Aa).toNat * 10)) 9 (.int .u32 ((rd_T52 l1 Aa).f4.f2.f3))) (ds := []) #[false, false, false, false, false, false, false, false, false, false, false, false, false, false, false, false, false, false, false, false, false, false, false, false, false, false, false, false, false, false, false, false, false, false, false, false, false, false, false, false, false, false, false, false, false, false, false, false, false, false, false, false, false, false, false, false, false, false, false, false, false, false, false, false] (by kernel_rfl) rfl rfl ⟨(cT HB.out Ah), (cT HB.out Ai), (cT HB.out Aj), (cT HB.out Ak), (cT HB.out Al), (cT HB.out An), (cT HB.out Ao), (cT HB.out Ap), (cT HB.out Aq), (cT HB.out Ar), (cT HB.out At), (cT HB.out Au), (cT HB.out Av), (cT HB.out Aw), (cT HB.out Ax), (cT HB.out Ay), (cT HB.out Az), (cT HB.out A2), (cT HB.out A3), (cT HB.out A4)⟩ (fun hHeld => ?_); refine with_tabW garnerref06_Same.tab6 garnerref06_Same.bits6 (fun HT_ HW_ => ?_)
    generalize wr.drew = w20 at HB As A5 A6 A7 A8 A9 Ba Bb Bc Bd Be Bf Bg Bh Bi Bj Bk Bl Bm Bn Bo Bp hHeld ⊢
    refine pui 0 17 64 1 HT_ ?_
    refine pui 1 18 64 3 HT_ ?_
    refine pui 2 19 64 7 HT_ ?_
    refine pui 3 20 64 15 HT_ ?_
    refine pui 5 22 64 47 HT_ ?_
    refine pui 6 23 64 111 HT_ ?_
    refine pui 7 24 64 239 HT_ ?_
    refine pui 8 25 64 495 HT_ ?_
    refine tki 4 21 64 511 HT_ HW_ hHeld ?_
    refine tki 9 26 64 1023 HT_ HW_ hHeld ?_
    refine pui 10 27 64 2047 HT_ ?_
    refine pui 11 28 64 4095 HT_ ?_
    refine pdi 12 29 64 8191 HT_ ?_
    refine pdi 13 30 64 16383 HT_ ?_
    refine pdi 14 31 64 32767 HT_ ?_
    refine pdi 15 32 64 65535 HT_ ?_
    refine pdi 16 33 64 131071 HT_ ?_
    refine pdi 17 34 64 262143 HT_ ?_
    refine pdi 18 35 64 524287 HT_ ?_
    refine pdi 19 36 64 1048575 HT_ ?_
    refine pdi 20 37 64 2097151 HT_ ?_
    refine pdi 21 38 64 4194303 HT_ ?_
    refine pdi 22 39 64 8388607 HT_ ?_
    refine pui 23 40 64 16777215 HT_ ?_
    refine pui 24 41 64 33554431 HT_ ?_
    refine pdi 25 42 64 67108863 HT_ ?_
    refine pdi 26 43 64 134217727 HT_ ?_
    refine pdi 27 44 64 268435455 HT_ ?_
    refine pdi 28 45 64 536870911 HT_ ?_
    refine pdi 29 46 64 1073741823 HT_ ?_
    refine pdi 30 47 64 2147483647 HT_ ?_
    refine pdi 31 48 64 4294967295 HT_ ?_
    refine pdi 32 49 64 8589934591 HT_ ?_
    refine pdi 33 50 64 17179869183 HT_ ?_
    refine pdi 34 51 64 34359738367 HT_ ?_
    refine pdi 35 52 64 68719476735 HT_ ?_
    refine pui 36 53 64 137438953471 HT_ ?_
    refine pui 37 54 64 274877906943 HT_ ?_
    refine pdi 38 55 64 549755813887 HT_ ?_
    refine pdi 39 56 64 1099511627775 HT_ ?_
    refine pdi 40 57 64 2199023255551 HT_ ?_
    refine pdi 41 58 64 4398046511103 HT_ ?_
    refine pdi 42 59 64 8796093022207 HT_ ?_
    refine pdi 43 60 64 17592186044415 HT_ ?_
    refine pdi 44 61 64 35184372088831 HT_ ?_
    refine pdi 45 62 64 70368744177663 HT_ ?_
    refine pdi 46 63 64 140737488355327 HT_ ?_
    refine pdi 47 64 64 281474976710655 HT_ ?_
    refine pdi 48 65 64 562949953421311 HT_ ?_
    refine pui 49 66 64 1125899906842623 HT_ ?_
    refine pui 50 67 64 2251799813685247 HT_ ?_
    refine pdi 51 68 64 4503599627370495 HT_ ?_
    refine pdi 52 69 64 9007199254740991 HT_ ?_
    refine pdi 53 70 64 18014398509481983 HT_ ?_
    refine pdi 54 71 64 36028797018963967 HT_ ?_
    refine pdi 55 72 64 72057594037927935 HT_ ?_
    refine pdi 56 73 64 144115188075855871 HT_ ?_
    refine pdi 57 74 64 288230376151711743 HT_ ?_
    refine pdi 58 75 64 576460752303423487 HT_ ?_
    refine pdi 59 76 64 1152921504606846975 HT_ ?_
    refine pdi 60 77 64 2305843009213693951 HT_ ?_
    refine pdi 61 78 64 4611686018427387903 HT_ ?_
    refine pdi 62 79 64 9223372036854775807 HT_ ?_
    refine pui 63 80 64 18446744073709551615 HT_ ?_
    refine done_ (done_of HT_.out (by kernel_rfl)) ?_
    try go_wp2
    go_ret
    exact ⟨pX, pB HB.out⟩
   rw [if_pos c7] at H
   have c7b0 := beq_iff_eq.mpr c7
   have c7b1 := bne_eq_false_iff_eq.mpr c7
   clear c7
   by_cases c8 : ((rd_T52 l0 Aa).f1) = ((rd_T52 l1 Aa).f1)
   rotate_left
   ·rw [if_neg c8] at H
    have c8b0 := beq_eq_false_iff_ne.mpr c8
    have c8b1 := bne_iff_ne.mpr c8
    obtain rfl := Option.some.inj H
    try go_wp2
    replace HB := bDa HB
    have p538 : 0 ≤ (Aa : Int) := of_decide_eq_true pS
    have q538 : Aa < (l0.length : Int) := of_decide_eq_true pS
    obtain ⟨Ab, Bq, c538_5, e538, A6, A7, A8, A9, Ba, Bb, Bc, Bd, Be, Bf, Ad, Ae, Ah, Ai, Aj, Ak, Al, An, Ao, Ap, Aq, Ar⟩ := at_T52w HR0.out Aa p538 q538 HB.out
    cases e538
    have As := Am Ae
    have Bs := Am Ad
    clear Ae Ad
    replace p538 := eq_true p538
    replace q538 := eq_true q538
    have p539 : 0 ≤ (Aa : Int) := of_decide_eq_true pS
    have q539 : Aa < (l1.length : Int) := of_decide_eq_true pS
    obtain ⟨Ac, Br, c539_5, e539, Bg, Bh, Bi, Bj, Bk, Bl, Bm, Bn, Bo, Bp, Af, Ag, At, Au, Av, Aw, Ax, Ay, Az, A2, A3, A4⟩ := at_T52w HR1.out Aa p539 q539 HB.out
    cases e539
    have A5 := Am Ag
    have Bt := Am Af
    clear Ag Af
    replace p539 := eq_true p539
    replace q539 := eq_true q539
    refine start_ (n := 64) (S := fun w' => w'.cell? (Ab.add ((Aa).toNat * 10)) = some (.int .i64 ((rd_T52 l0 Aa).f0)) ∧ cA w' (Ab.add ((Aa).toNat * 10)) 1 (.int .i64 ((rd_T52 l0 Aa).f1)) ∧ cA w' (Ab.add ((Aa).toNat * 10)) 2 (.int .i64 ((rd_T52 l0 Aa).f2)) ∧ cA w' (Ab.add ((Aa).toNat * 10)) 3 (.string ((rd_T52 l0 Aa).f3)) ∧ cA w' (Ab.add ((Aa).toNat * 10)) 4 (.bool ((rd_T52 l0 Aa).f4.f0)) ∧ cA w' (Ab.add ((Aa).toNat * 10)) 5 (.slice Bq ((rd_T52 l0 Aa).f4.f1).length c538_5) ∧ cA w' (Ab.add ((Aa).toNat * 10)) 6 (.int .i64 ((rd_T52 l0 Aa).f4.f2.f0)) ∧ cA w' (Ab.add ((Aa).toNat * 10)) 7 (.int .i64 ((rd_T52 l0 Aa).f4.f2.f1)) ∧ cA w' (Ab.add ((Aa).toNat * 10)) 8 (.int .i64 ((rd_T52 l0 Aa).f4.f2.f2)) ∧ cA w' (Ab.add ((Aa).toNat * 10)) 9 (.int .u32 ((rd_T52 l0 Aa).f4.f2.f3)) ∧ w'.cell? (Ac.add ((Aa).toNat * 10)) = some (.int .i64 ((rd_T52 l1 Aa).f0)) ∧ cA w' (Ac.add ((Aa).toNat * 10)) 1 (.int .i64 ((rd_T52 l1 Aa).f1)) ∧ cA w' (Ac.add ((Aa).toNat * 10)) 2 (.int .i64 ((rd_T52 l1 Aa).f2)) ∧ cA w' (Ac.add ((Aa).toNat * 10)) 3 (.string ((rd_T52 l1 Aa).f3)) ∧ cA w' (Ac.add ((Aa).toNat * 10)) 4 (.bool ((rd_T52 l1 Aa).f4.f0)) ∧ cA w' (Ac.add ((Aa).toNat * 10)) 5 (.slice Br ((rd_T52 l1 Aa).f4.f1).length c539_5) ∧ cA w' (Ac.add ((Aa).toNat * 10)) 6 (.int .i64 ((rd_T52 l1 Aa).f4.f2.f0)) ∧ cA w' (Ac.add ((Aa).toNat * 10)) 7 (.int .i64 ((rd_T52 l1 Aa).f4.f2.f1)) ∧ cA w' (Ac.add ((Aa).toNat * 10)) 8 (.int .i64 ((rd_T52 l1 Aa).f4.f2.f2)) ∧ cA w' (Ac.add ((Aa).toNat * 10)) 9 (.int .u32 ((rd_T52 l1 Aa).f4.f2.f3))) (ds := []) #[false, false, false, false, false, false, false, false, false, false, false, false, false, false, false, false, false, false, false, false, false, false, false, false, false, false, false, false, false, false, false, false, false, false, false, false, false, false, false, false, false, false, false, false, false, false, false, false, false, false, false, false, false, false, false, false, false, false, false, false, false, false, false, false] (by kernel_rfl) rfl rfl ⟨(cT HB.out Ah), (cT HB.out Ai), (cT HB.out Aj), (cT HB.out Ak), (cT HB.out Al), (cT HB.out An), (cT HB.out Ao), (cT HB.out Ap), (cT HB.out Aq), (cT HB.out Ar), (cT HB.out At), (cT HB.out Au), (cT HB.out Av), (cT HB.out Aw), (cT HB.out Ax), (cT HB.out Ay), (cT HB.out Az), (cT HB.out A2), (cT HB.out A3), (cT HB.out A4)⟩ (fun hHeld => ?_); refine with_tabW garnerref06_Same.tab6 garnerref06_Same.bits6 (fun HT_ HW_ => ?_)
    generalize wr.drew = w19 at HB As A5 A6 A7 A8 A9 Ba Bb Bc Bd Be Bf Bg Bh Bi Bj Bk Bl Bm Bn Bo Bp hHeld ⊢
    refine pui 0 17 64 1 HT_ ?_
    refine pui 1 18 64 3 HT_ ?_
    refine pui 2 19 64 7 HT_ ?_
    refine pui 3 20 64 15 HT_ ?_
    refine pui 5 22 64 47 HT_ ?_
    refine pui 6 23 64 111 HT_ ?_
    refine pui 7 24 64 239 HT_ ?_
    refine pui 8 25 64 495 HT_ ?_
    refine tki 4 21 64 511 HT_ HW_ hHeld ?_
    refine tki 9 26 64 1023 HT_ HW_ hHeld ?_
    refine pui 10 27 64 2047 HT_ ?_
    refine pui 11 28 64 4095 HT_ ?_
    refine pui 12 29 64 8191 HT_ ?_
    refine pui 13 30 64 16383 HT_ ?_
    refine pui 14 31 64 32767 HT_ ?_
    refine pui 15 32 64 65535 HT_ ?_
    refine pui 17 34 64 196607 HT_ ?_
    refine pui 18 35 64 458751 HT_ ?_
    refine pui 19 36 64 983039 HT_ ?_
    refine pui 20 37 64 2031615 HT_ ?_
    refine tki 16 33 64 2097151 HT_ HW_ hHeld ?_
    refine tki 21 38 64 4194303 HT_ HW_ hHeld ?_
    refine pui 22 39 64 8388607 HT_ ?_
    refine pui 23 40 64 16777215 HT_ ?_
    refine pui 24 41 64 33554431 HT_ ?_
    refine pdi 25 42 64 67108863 HT_ ?_
    refine pdi 26 43 64 134217727 HT_ ?_
    refine pdi 27 44 64 268435455 HT_ ?_
    refine pdi 28 45 64 536870911 HT_ ?_
    refine pdi 29 46 64 1073741823 HT_ ?_
    refine pdi 30 47 64 2147483647 HT_ ?_
    refine pdi 31 48 64 4294967295 HT_ ?_
    refine pdi 32 49 64 8589934591 HT_ ?_
    refine pdi 33 50 64 17179869183 HT_ ?_
    refine pdi 34 51 64 34359738367 HT_ ?_
    refine pdi 35 52 64 68719476735 HT_ ?_
    refine pui 36 53 64 137438953471 HT_ ?_
    refine pui 37 54 64 274877906943 HT_ ?_
    refine pdi 38 55 64 549755813887 HT_ ?_
    refine pdi 39 56 64 1099511627775 HT_ ?_
    refine pdi 40 57 64 2199023255551 HT_ ?_
    refine pdi 41 58 64 4398046511103 HT_ ?_
    refine pdi 42 59 64 8796093022207 HT_ ?_
    refine pdi 43 60 64 17592186044415 HT_ ?_
    refine pdi 44 61 64 35184372088831 HT_ ?_
    refine pdi 45 62 64 70368744177663 HT_ ?_
    refine pdi 46 63 64 140737488355327 HT_ ?_
    refine pdi 47 64 64 281474976710655 HT_ ?_
    refine pdi 48 65 64 562949953421311 HT_ ?_
    refine pui 49 66 64 1125899906842623 HT_ ?_
    refine pui 50 67 64 2251799813685247 HT_ ?_
    refine pdi 51 68 64 4503599627370495 HT_ ?_
    refine pdi 52 69 64 9007199254740991 HT_ ?_
    refine pdi 53 70 64 18014398509481983 HT_ ?_
    refine pdi 54 71 64 36028797018963967 HT_ ?_
    refine pdi 55 72 64 72057594037927935 HT_ ?_
    refine pdi 56 73 64 144115188075855871 HT_ ?_
    refine pdi 57 74 64 288230376151711743 HT_ ?_
    refine pdi 58 75 64 576460752303423487 HT_ ?_
    refine pdi 59 76 64 1152921504606846975 HT_ ?_
    refine pdi 60 77 64 2305843009213693951 HT_ ?_
    refine pdi 61 78 64 4611686018427387903 HT_ ?_
    refine pdi 62 79 64 9223372036854775807 HT_ ?_
    refine pui 63 80 64 18446744073709551615 HT_ ?_
    refine done_ (done_of HT_.out (by kernel_rfl)) ?_
    try go_wp2
    go_ret
    exact ⟨pX, pB HB.out⟩
   rw [if_pos c8] at H
   have c8b0 := beq_iff_eq.mpr c8
   have c8b1 := bne_eq_false_iff_eq.mpr c8
   clear c8
   by_cases c9 : ((rd_T52 l0 Aa).f2) = ((rd_T52 l1 Aa).f2)
   rotate_left
   ·rw [if_neg c9] at H
    have c9b0 := beq_eq_false_iff_ne.mpr c9
    have c9b1 := bne_iff_ne.mpr c9
    obtain rfl := Option.some.inj H
    try go_wp2
    replace HB := bDa HB
    have p538 : 0 ≤ (Aa : Int) := of_decide_eq_true pS
    have q538 : Aa < (l0.length : Int) := of_decide_eq_true pS
    obtain ⟨Ab, Bq, c538_5, e538, A6, A7, A8, A9, Ba, Bb, Bc, Bd, Be, Bf, Ad, Ae, Ah, Ai, Aj, Ak, Al, An, Ao, Ap, Aq, Ar⟩ := at_T52w HR0.out Aa p538 q538 HB.out
    cases e538
    have As := Am Ae
    have Bs := Am Ad
    clear Ae Ad
    replace p538 := eq_true p538
    replace q538 := eq_true q538
    have p539 : 0 ≤ (Aa : Int) := of_decide_eq_true pS
    have q539 : Aa < (l1.length : Int) := of_decide_eq_true pS
    obtain ⟨Ac, Br, c539_5, e539, Bg, Bh, Bi, Bj, Bk, Bl, Bm, Bn, Bo, Bp, Af, Ag, At, Au, Av, Aw, Ax, Ay, Az, A2, A3, A4⟩ := at_T52w HR1.out Aa p539 q539 HB.out
    cases e539
    have A5 := Am Ag
    have Bt := Am Af
    clear Ag Af
    replace p539 := eq_true p539
    replace q539 := eq_true q539
    refine start_ (n := 64) (S := fun w' => w'.cell? (Ab.add ((Aa).toNat * 10)) = some (.int .i64 ((rd_T52 l0 Aa).f0)) ∧ cA w' (Ab.add ((Aa).toNat * 10)) 1 (.int .i64 ((rd_T52 l0 Aa).f1)) ∧ cA w' (Ab.add ((Aa).toNat * 10)) 2 (.int .i64 ((rd_T52 l0 Aa).f2)) ∧ cA w' (Ab.add ((Aa).toNat * 10)) 3 (.string ((rd_T52 l0 Aa).f3)) ∧ cA w' (Ab.add ((Aa).toNat * 10)) 4 (.bool ((rd_T52 l0 Aa).f4.f0)) ∧ cA w' (Ab.add ((Aa).toNat * 10)) 5 (.slice Bq ((rd_T52 l0 Aa).f4.f1).length c538_5) ∧ cA w' (Ab.add ((Aa).toNat * 10)) 6 (.int .i64 ((rd_T52 l0 Aa).f4.f2.f0)) ∧ cA w' (Ab.add ((Aa).toNat * 10)) 7 (.int .i64 ((rd_T52 l0 Aa).f4.f2.f1)) ∧ cA w' (Ab.add ((Aa).toNat * 10)) 8 (.int .i64 ((rd_T52 l0 Aa).f4.f2.f2)) ∧ cA w' (Ab.add ((Aa).toNat * 10)) 9 (.int .u32 ((rd_T52 l0 Aa).f4.f2.f3)) ∧ w'.cell? (Ac.add ((Aa).toNat * 10)) = some (.int .i64 ((rd_T52 l1 Aa).f0)) ∧ cA w' (Ac.add ((Aa).toNat * 10)) 1 (.int .i64 ((rd_T52 l1 Aa).f1)) ∧ cA w' (Ac.add ((Aa).toNat * 10)) 2 (.int .i64 ((rd_T52 l1 Aa).f2)) ∧ cA w' (Ac.add ((Aa).toNat * 10)) 3 (.string ((rd_T52 l1 Aa).f3)) ∧ cA w' (Ac.add ((Aa).toNat * 10)) 4 (.bool ((rd_T52 l1 Aa).f4.f0)) ∧ cA w' (Ac.add ((Aa).toNat * 10)) 5 (.slice Br ((rd_T52 l1 Aa).f4.f1).length c539_5) ∧ cA w' (Ac.add ((Aa).toNat * 10)) 6 (.int .i64 ((rd_T52 l1 Aa).f4.f2.f0)) ∧ cA w' (Ac.add ((Aa).toNat * 10)) 7 (.int .i64 ((rd_T52 l1 Aa).f4.f2.f1)) ∧ cA w' (Ac.add ((Aa).toNat * 10)) 8 (.int .i64 ((rd_T52 l1 Aa).f4.f2.f2)) ∧ cA w' (Ac.add ((Aa).toNat * 10)) 9 (.int .u32 ((rd_T52 l1 Aa).f4.f2.f3))) (ds := []) #[false, false, false, false, false, false, false, false, false, false, false, false, false, false, false, false, false, false, false, false, false, false, false, false, false, false, false, false, false, false, false, false, false, false, false, false, false, false, false, false, false, false, false, false, false, false, false, false, false, false, false, false, false, false, false, false, false, false, false, false, false, false, false, false] (by kernel_rfl) rfl rfl ⟨(cT HB.out Ah), (cT HB.out Ai), (cT HB.out Aj), (cT HB.out Ak), (cT HB.out Al), (cT HB.out An), (cT HB.out Ao), (cT HB.out Ap), (cT HB.out Aq), (cT HB.out Ar), (cT HB.out At), (cT HB.out Au), (cT HB.out Av), (cT HB.out Aw), (cT HB.out Ax), (cT HB.out Ay), (cT HB.out Az), (cT HB.out A2), (cT HB.out A3), (cT HB.out A4)⟩ (fun hHeld => ?_); refine with_tabW garnerref06_Same.tab6 garnerref06_Same.bits6 (fun HT_ HW_ => ?_)
    generalize wr.drew = w18 at HB As A5 A6 A7 A8 A9 Ba Bb Bc Bd Be Bf Bg Bh Bi Bj Bk Bl Bm Bn Bo Bp hHeld ⊢
    refine pui 0 17 64 1 HT_ ?_
    refine pui 1 18 64 3 HT_ ?_
    refine pui 2 19 64 7 HT_ ?_
    refine pui 3 20 64 15 HT_ ?_
    refine pui 5 22 64 47 HT_ ?_
    refine pui 6 23 64 111 HT_ ?_
    refine pui 7 24 64 239 HT_ ?_
    refine pui 8 25 64 495 HT_ ?_
    refine tki 4 21 64 511 HT_ HW_ hHeld ?_
    refine tki 9 26 64 1023 HT_ HW_ hHeld ?_
    refine pui 10 27 64 2047 HT_ ?_
    refine pui 11 28 64 4095 HT_ ?_
    refine pui 12 29 64 8191 HT_ ?_
    refine pui 13 30 64 16383 HT_ ?_
    refine pui 14 31 64 32767 HT_ ?_
    refine pui 15 32 64 65535 HT_ ?_
    refine pui 17 34 64 196607 HT_ ?_
    refine pui 18 35 64 458751 HT_ ?_
    refine pui 19 36 64 983039 HT_ ?_
    refine pui 20 37 64 2031615 HT_ ?_
    refine tki 16 33 64 2097151 HT_ HW_ hHeld ?_
    refine tki 21 38 64 4194303 HT_ HW_ hHeld ?_
    refine pui 22 39 64 8388607 HT_ ?_
    refine pui 23 40 64 16777215 HT_ ?_
    refine pui 24 41 64 33554431 HT_ ?_
    refine pui 25 42 64 67108863 HT_ ?_
    refine pui 26 43 64 134217727 HT_ ?_
    refine pui 27 44 64 268435455 HT_ ?_
    refine pui 28 45 64 536870911 HT_ ?_
    refine pui 30 47 64 1610612735 HT_ ?_
    refine pui 31 48 64 3758096383 HT_ ?_
    refine pui 32 49 64 8053063679 HT_ ?_
    refine pui 33 50 64 16642998271 HT_ ?_
    refine tki 29 46 64 17179869183 HT_ HW_ hHeld ?_
    refine tki 34 51 64 34359738367 HT_ HW_ hHeld ?_
    refine pui 35 52 64 68719476735 HT_ ?_
    refine pui 36 53 64 137438953471 HT_ ?_
    refine pui 37 54 64 274877906943 HT_ ?_
    refine pdi 38 55 64 549755813887 HT_ ?_
    refine pdi 39 56 64 1099511627775 HT_ ?_
    refine pdi 40 57 64 2199023255551 HT_ ?_
    refine pdi 41 58 64 4398046511103 HT_ ?_
    refine pdi 42 59 64 8796093022207 HT_ ?_
    refine pdi 43 60 64 17592186044415 HT_ ?_
    refine pdi 44 61 64 35184372088831 HT_ ?_
    refine pdi 45 62 64 70368744177663 HT_ ?_
    refine pdi 46 63 64 140737488355327 HT_ ?_
    refine pdi 47 64 64 281474976710655 HT_ ?_
    refine pdi 48 65 64 562949953421311 HT_ ?_
    refine pui 49 66 64 1125899906842623 HT_ ?_
    refine pui 50 67 64 2251799813685247 HT_ ?_
    refine pdi 51 68 64 4503599627370495 HT_ ?_
    refine pdi 52 69 64 9007199254740991 HT_ ?_
    refine pdi 53 70 64 18014398509481983 HT_ ?_
    refine pdi 54 71 64 36028797018963967 HT_ ?_
    refine pdi 55 72 64 72057594037927935 HT_ ?_
    refine pdi 56 73 64 144115188075855871 HT_ ?_
    refine pdi 57 74 64 288230376151711743 HT_ ?_
    refine pdi 58 75 64 576460752303423487 HT_ ?_
    refine pdi 59 76 64 1152921504606846975 HT_ ?_
    refine pdi 60 77 64 2305843009213693951 HT_ ?_
    refine pdi 61 78 64 4611686018427387903 HT_ ?_
    refine pdi 62 79 64 9223372036854775807 HT_ ?_
    refine pui 63 80 64 18446744073709551615 HT_ ?_
    refine done_ (done_of HT_.out (by kernel_rfl)) ?_
    try go_wp2
    go_ret
    exact ⟨pX, pB HB.out⟩
   rw [if_pos c9] at H
   have c9b0 := beq_iff_eq.mpr c9
   have c9b1 := bne_eq_false_iff_eq.mpr c9
   clear c9
   by_cases c10 : ((rd_T52 l0 Aa).f3).toList = ((rd_T52 l1 Aa).f3).toList
   rotate_left
   ·rw [if_neg c10] at H
    have c10b0 := beq_eq_false_iff_ne.mpr c10
    have c10b1 := bne_iff_ne.mpr c10
    obtain rfl := Option.some.inj H
    try go_wp2
    replace HB := bDa HB
    have p538 : 0 ≤ (Aa : Int) := of_decide_eq_true pS
    have q538 : Aa < (l0.length : Int) := of_decide_eq_true pS
    obtain ⟨Ab, Bq, c538_5, e538, A6, A7, A8, A9, Ba, Bb, Bc, Bd, Be, Bf, Ad, Ae, Ah, Ai, Aj, Ak, Al, An, Ao, Ap, Aq, Ar⟩ := at_T52w HR0.out Aa p538 q538 HB.out
    cases e538
    have As := Am Ae
    have Bs := Am Ad
    clear Ae Ad
    replace p538 := eq_true p538
    replace q538 := eq_true q538
    have p539 : 0 ≤ (Aa : Int) := of_decide_eq_true pS
    have q539 : Aa < (l1.length : Int) := of_decide_eq_true pS
    obtain ⟨Ac, Br, c539_5, e539, Bg, Bh, Bi, Bj, Bk, Bl, Bm, Bn, Bo, Bp, Af, Ag, At, Au, Av, Aw, Ax, Ay, Az, A2, A3, A4⟩ := at_T52w HR1.out Aa p539 q539 HB.out
    cases e539
    have A5 := Am Ag
    have Bt := Am Af
    clear Ag Af
    replace p539 := eq_true p539
    replace q539 := eq_true q539
    refine start_ (n := 64) (S := fun w' => w'.cell? (Ab.add ((Aa).toNat * 10)) = some (.int .i64 ((rd_T52 l0 Aa).f0)) ∧ cA w' (Ab.add ((Aa).toNat * 10)) 1 (.int .i64 ((rd_T52 l0 Aa).f1)) ∧ cA w' (Ab.add ((Aa).toNat * 10)) 2 (.int .i64 ((rd_T52 l0 Aa).f2)) ∧ cA w' (Ab.add ((Aa).toNat * 10)) 3 (.string ((rd_T52 l0 Aa).f3)) ∧ cA w' (Ab.add ((Aa).toNat * 10)) 4 (.bool ((rd_T52 l0 Aa).f4.f0)) ∧ cA w' (Ab.add ((Aa).toNat * 10)) 5 (.slice Bq ((rd_T52 l0 Aa).f4.f1).length c538_5) ∧ cA w' (Ab.add ((Aa).toNat * 10)) 6 (.int .i64 ((rd_T52 l0 Aa).f4.f2.f0)) ∧ cA w' (Ab.add ((Aa).toNat * 10)) 7 (.int .i64 ((rd_T52 l0 Aa).f4.f2.f1)) ∧ cA w' (Ab.add ((Aa).toNat * 10)) 8 (.int .i64 ((rd_T52 l0 Aa).f4.f2.f2)) ∧ cA w' (Ab.add ((Aa).toNat * 10)) 9 (.int .u32 ((rd_T52 l0 Aa).f4.f2.f3)) ∧ w'.cell? (Ac.add ((Aa).toNat * 10)) = some (.int .i64 ((rd_T52 l1 Aa).f0)) ∧ cA w' (Ac.add ((Aa).toNat * 10)) 1 (.int .i64 ((rd_T52 l1 Aa).f1)) ∧ cA w' (Ac.add ((Aa).toNat * 10)) 2 (.int .i64 ((rd_T52 l1 Aa).f2)) ∧ cA w' (Ac.add ((Aa).toNat * 10)) 3 (.string ((rd_T52 l1 Aa).f3)) ∧ cA w' (Ac.add ((Aa).toNat * 10)) 4 (.bool ((rd_T52 l1 Aa).f4.f0)) ∧ cA w' (Ac.add ((Aa).toNat * 10)) 5 (.slice Br ((rd_T52 l1 Aa).f4.f1).length c539_5) ∧ cA w' (Ac.add ((Aa).toNat * 10)) 6 (.int .i64 ((rd_T52 l1 Aa).f4.f2.f0)) ∧ cA w' (Ac.add ((Aa).toNat * 10)) 7 (.int .i64 ((rd_T52 l1 Aa).f4.f2.f1)) ∧ cA w' (Ac.add ((Aa).toNat * 10)) 8 (.int .i64 ((rd_T52 l1 Aa).f4.f2.f2)) ∧ cA w' (Ac.add ((Aa).toNat * 10)) 9 (.int .u32 ((rd_T52 l1 Aa).f4.f2.f3))) (ds := []) #[false, false, false, false, false, false, false, false, false, false, false, false, false, false, false, false, false, false, false, false, false, false, false, false, false, false, false, false, false, false, false, false, false, false, false, false, false, false, false, false, false, false, false, false, false, false, false, false, false, false, false, false, false, false, false, false, false, false, false, false, false, false, false, false] (by kernel_rfl) rfl rfl ⟨(cT HB.out Ah), (cT HB.out Ai), (cT HB.out Aj), (cT HB.out Ak), (cT HB.out Al), (cT HB.out An), (cT HB.out Ao), (cT HB.out Ap), (cT HB.out Aq), (cT HB.out Ar), (cT HB.out At), (cT HB.out Au), (cT HB.out Av), (cT HB.out Aw), (cT HB.out Ax), (cT HB.out Ay), (cT HB.out Az), (cT HB.out A2), (cT HB.out A3), (cT HB.out A4)⟩ (fun hHeld => ?_); refine with_tabW garnerref06_Same.tab6 garnerref06_Same.bits6 (fun HT_ HW_ => ?_)
    generalize wr.drew = w17 at HB As A5 A6 A7 A8 A9 Ba Bb Bc Bd Be Bf Bg Bh Bi Bj Bk Bl Bm Bn Bo Bp hHeld ⊢
    refine pui 0 17 64 1 HT_ ?_
    refine pui 1 18 64 3 HT_ ?_
    refine pui 2 19 64 7 HT_ ?_
    refine pui 3 20 64 15 HT_ ?_
    refine pui 5 22 64 47 HT_ ?_
    refine pui 6 23 64 111 HT_ ?_
    refine pui 7 24 64 239 HT_ ?_
    refine pui 8 25 64 495 HT_ ?_
    refine tki 4 21 64 511 HT_ HW_ hHeld ?_
    refine tki 9 26 64 1023 HT_ HW_ hHeld ?_
    refine pui 10 27 64 2047 HT_ ?_
    refine pui 11 28 64 4095 HT_ ?_
    refine pui 12 29 64 8191 HT_ ?_
    refine pui 13 30 64 16383 HT_ ?_
    refine pui 14 31 64 32767 HT_ ?_
    refine pui 15 32 64 65535 HT_ ?_
    refine pui 17 34 64 196607 HT_ ?_
    refine pui 18 35 64 458751 HT_ ?_
    refine pui 19 36 64 983039 HT_ ?_
    refine pui 20 37 64 2031615 HT_ ?_
    refine tki 16 33 64 2097151 HT_ HW_ hHeld ?_
    refine tki 21 38 64 4194303 HT_ HW_ hHeld ?_
    refine pui 22 39 64 8388607 HT_ ?_
    refine pui 23 40 64 16777215 HT_ ?_
    refine pui 24 41 64 33554431 HT_ ?_
    refine pui 25 42 64 67108863 HT_ ?_
    refine pui 26 43 64 134217727 HT_ ?_
    refine pui 27 44 64 268435455 HT_ ?_
    refine pui 28 45 64 536870911 HT_ ?_
    refine pui 30 47 64 1610612735 HT_ ?_
    refine pui 31 48 64 3758096383 HT_ ?_
    refine pui 32 49 64 8053063679 HT_ ?_
    refine pui 33 50 64 16642998271 HT_ ?_
    refine tki 29 46 64 17179869183 HT_ HW_ hHeld ?_
    refine tki 34 51 64 34359738367 HT_ HW_ hHeld ?_
    refine pui 35 52 64 68719476735 HT_ ?_
    refine pui 36 53 64 137438953471 HT_ ?_
    refine pui 37 54 64 274877906943 HT_ ?_
    refine pui 38 55 64 549755813887 HT_ ?_
    refine pui 39 56 64 1099511627775 HT_ ?_
    refine pui 40 57 64 2199023255551 HT_ ?_
    refine pui 41 58 64 4398046511103 HT_ ?_
    refine pui 43 60 64 13194139533311 HT_ ?_
    refine pui 44 61 64 30786325577727 HT_ ?_
    refine pui 45 62 64 65970697666559 HT_ ?_
    refine pui 46 63 64 136339441844223 HT_ ?_
    refine tki 42 59 64 140737488355327 HT_ HW_ hHeld ?_
    refine tki 47 64 64 281474976710655 HT_ HW_ hHeld ?_
    refine pui 48 65 64 562949953421311 HT_ ?_
    refine pui 49 66 64 1125899906842623 HT_ ?_
    refine pui 50 67 64 2251799813685247 HT_ ?_
    refine pdi 51 68 64 4503599627370495 HT_ ?_
    refine pdi 52 69 64 9007199254740991 HT_ ?_
    refine pdi 53 70 64 18014398509481983 HT_ ?_
    refine pdi 54 71 64 36028797018963967 HT_ ?_
    refine pdi 55 72 64 72057594037927935 HT_ ?_
    refine pdi 56 73 64 144115188075855871 HT_ ?_
    refine pdi 57 74 64 288230376151711743 HT_ ?_
    refine pdi 58 75 64 576460752303423487 HT_ ?_
    refine pdi 59 76 64 1152921504606846975 HT_ ?_
    refine pdi 60 77 64 2305843009213693951 HT_ ?_
    refine pdi 61 78 64 4611686018427387903 HT_ ?_
    refine pdi 62 79 64 9223372036854775807 HT_ ?_
    refine pui 63 80 64 18446744073709551615 HT_ ?_
    refine done_ (done_of HT_.out (by kernel_rfl)) ?_
    try go_wp2
    go_ret
    exact ⟨pX, pB HB.out⟩
   rw [if_pos c10] at H
   have c10b0 := beq_iff_eq.mpr c10
   have c10b1 := bne_eq_false_iff_eq.mpr c10
   clear c10
   replace H := Option.bind_eq_some_iff.mp H
   obtain ⟨t548, A110, H⟩ := H
   have A11 := Am A110
   clear A110
   by_cases c12 : t548 = true
   rotate_left
   ·replace c12 := Bool.eq_false_iff.mpr c12
    subst c12
    rw [if_neg zF] at H
    obtain rfl := Option.some.inj H
    try go_wp2
    replace HB := bDa HB
    have p538 : 0 ≤ (Aa : Int) := of_decide_eq_true pS
    have q538 : Aa < (l0.length : Int) := of_decide_eq_true pS
    obtain ⟨Ab, Bq, c538_5, e538, A6, A7, A8, A9, Ba, Bb, Bc, Bd, Be, Bf, Ad, Ae, Ah, Ai, Aj, Ak, Al, An, Ao, Ap, Aq, Ar⟩ := at_T52w HR0.out Aa p538 q538 HB.out
    cases e538
    have As := Am Ae
    have Bs := Am Ad
    clear Ae Ad
    replace p538 := eq_true p538
    replace q538 := eq_true q538
    have p539 : 0 ≤ (Aa : Int) := of_decide_eq_true pS
    have q539 : Aa < (l1.length : Int) := of_decide_eq_true pS
    obtain ⟨Ac, Br, c539_5, e539, Bg, Bh, Bi, Bj, Bk, Bl, Bm, Bn, Bo, Bp, Af, Ag, At, Au, Av, Aw, Ax, Ay, Az, A2, A3, A4⟩ := at_T52w HR1.out Aa p539 q539 HB.out
    cases e539
    have A5 := Am Ag
    have Bt := Am Af
    clear Ag Af
    replace p539 := eq_true p539
    replace q539 := eq_true q539
    refine start_ (n := 64) (S := fun w' => w'.cell? (Ab.add ((Aa).toNat * 10)) = some (.int .i64 ((rd_T52 l0 Aa).f0)) ∧ cA w' (Ab.add ((Aa).toNat * 10)) 1 (.int .i64 ((rd_T52 l0 Aa).f1)) ∧ cA w' (Ab.add ((Aa).toNat * 10)) 2 (.int .i64 ((rd_T52 l0 Aa).f2)) ∧ cA w' (Ab.add ((Aa).toNat * 10)) 3 (.string ((rd_T52 l0 Aa).f3)) ∧ cA w' (Ab.add ((Aa).toNat * 10)) 4 (.bool ((rd_T52 l0 Aa).f4.f0)) ∧ cA w' (Ab.add ((Aa).toNat * 10)) 5 (.slice Bq ((rd_T52 l0 Aa).f4.f1).length c538_5) ∧ cA w' (Ab.add ((Aa).toNat * 10)) 6 (.int .i64 ((rd_T52 l0 Aa).f4.f2.f0)) ∧ cA w' (Ab.add ((Aa).toNat * 10)) 7 (.int .i64 ((rd_T52 l0 Aa).f4.f2.f1)) ∧ cA w' (Ab.add ((Aa).toNat * 10)) 8 (.int .i64 ((rd_T52 l0 Aa).f4.f2.f2)) ∧ cA w' (Ab.add ((Aa).toNat * 10)) 9 (.int .u32 ((rd_T52 l0 Aa).f4.f2.f3)) ∧ w'.cell? (Ac.add ((Aa).toNat * 10)) = some (.int .i64 ((rd_T52 l1 Aa).f0)) ∧ cA w' (Ac.add ((Aa).toNat * 10)) 1 (.int .i64 ((rd_T52 l1 Aa).f1)) ∧ cA w' (Ac.add ((Aa).toNat * 10)) 2 (.int .i64 ((rd_T52 l1 Aa).f2)) ∧ cA w' (Ac.add ((Aa).toNat * 10)) 3 (.string ((rd_T52 l1 Aa).f3)) ∧ cA w' (Ac.add ((Aa).toNat * 10)) 4 (.bool ((rd_T52 l1 Aa).f4.f0)) ∧ cA w' (Ac.add ((Aa).toNat * 10)) 5 (.slice Br ((rd_T52 l1 Aa).f4.f1).length c539_5) ∧ cA w' (Ac.add ((Aa).toNat * 10)) 6 (.int .i64 ((rd_T52 l1 Aa).f4.f2.f0)) ∧ cA w' (Ac.add ((Aa).toNat * 10)) 7 (.int .i64 ((rd_T52 l1 Aa).f4.f2.f1)) ∧ cA w' (Ac.add ((Aa).toNat * 10)) 8 (.int .i64 ((rd_T52 l1 Aa).f4.f2.f2)) ∧ cA w' (Ac.add ((Aa).toNat * 10)) 9 (.int .u32 ((rd_T52 l1 Aa).f4.f2.f3))) (ds := []) #[false, false, false, false, false, false, false, false, false, false, false, false, false, false, false, false, false, false, false, false, false, false, false, false, false, false, false, false, false, false, false, false, false, false, false, false, false, false, false, false, false, false, false, false, false, false, false, false, false, false, false, false, false, false, false, false, false, false, false, false, false, false, false, false] (by kernel_rfl) rfl rfl ⟨(cT HB.out Ah), (cT HB.out Ai), (cT HB.out Aj), (cT HB.out Ak), (cT HB.out Al), (cT HB.out An), (cT HB.out Ao), (cT HB.out Ap), (cT HB.out Aq), (cT HB.out Ar), (cT HB.out At), (cT HB.out Au), (cT HB.out Av), (cT HB.out Aw), (cT HB.out Ax), (cT HB.out Ay), (cT HB.out Az), (cT HB.out A2), (cT HB.out A3), (cT HB.out A4)⟩ (fun hHeld => ?_); refine with_tabW garnerref06_Same.tab6 garnerref06_Same.bits6 (fun HT_ HW_ => ?_)
    generalize wr.drew = w15 at HB As A5 A6 A7 A8 A9 Ba Bb Bc Bd Be Bf Bg Bh Bi Bj Bk Bl Bm Bn Bo Bp hHeld ⊢
    refine pui 0 17 64 1 HT_ ?_
    refine pui 1 18 64 3 HT_ ?_
    refine pui 2 19 64 7 HT_ ?_
    refine pui 3 20 64 15 HT_ ?_
    refine pui 5 22 64 47 HT_ ?_
    refine pui 6 23 64 111 HT_ ?_
    refine pui 7 24 64 239 HT_ ?_
    refine pui 8 25 64 495 HT_ ?_
    refine tki 4 21 64 511 HT_ HW_ hHeld ?_
    refine tki 9 26 64 1023 HT_ HW_ hHeld ?_
    refine pui 10 27 64 2047 HT_ ?_
    refine pui 11 28 64 4095 HT_ ?_
    refine pui 12 29 64 8191 HT_ ?_
    refine pui 13 30 64 16383 HT_ ?_
    refine pui 14 31 64 32767 HT_ ?_
    refine pui 15 32 64 65535 HT_ ?_
    refine pui 17 34 64 196607 HT_ ?_
    refine pui 18 35 64 458751 HT_ ?_
    refine pui 19 36 64 983039 HT_ ?_
    refine pui 20 37 64 2031615 HT_ ?_
    refine tki 16 33 64 2097151 HT_ HW_ hHeld ?_
    refine tki 21 38 64 4194303 HT_ HW_ hHeld ?_
    refine pui 22 39 64 8388607 HT_ ?_
    refine pui 23 40 64 16777215 HT_ ?_
    refine pui 24 41 64 33554431 HT_ ?_
    refine pui 25 42 64 67108863 HT_ ?_
    refine pui 26 43 64 134217727 HT_ ?_
    refine pui 27 44 64 268435455 HT_ ?_
    refine pui 28 45 64 536870911 HT_ ?_
    refine pui 30 47 64 1610612735 HT_ ?_
    refine pui 31 48 64 3758096383 HT_ ?_
    refine pui 32 49 64 8053063679 HT_ ?_
    refine pui 33 50 64 16642998271 HT_ ?_
    refine tki 29 46 64 17179869183 HT_ HW_ hHeld ?_
    refine tki 34 51 64 34359738367 HT_ HW_ hHeld ?_
    refine pui 35 52 64 68719476735 HT_ ?_
    refine pui 36 53 64 137438953471 HT_ ?_
    refine pui 37 54 64 274877906943 HT_ ?_
    refine pui 38 55 64 549755813887 HT_ ?_
    refine pui 39 56 64 1099511627775 HT_ ?_
    refine pui 40 57 64 2199023255551 HT_ ?_
    refine pui 41 58 64 4398046511103 HT_ ?_
    refine pui 43 60 64 13194139533311 HT_ ?_
    refine pui 44 61 64 30786325577727 HT_ ?_
    refine pui 45 62 64 65970697666559 HT_ ?_
    refine pui 46 63 64 136339441844223 HT_ ?_
    refine tki 42 59 64 140737488355327 HT_ HW_ hHeld ?_
    refine tki 47 64 64 281474976710655 HT_ HW_ hHeld ?_
    refine pui 48 65 64 562949953421311 HT_ ?_
    refine pui 49 66 64 1125899906842623 HT_ ?_
    refine pui 50 67 64 2251799813685247 HT_ ?_
    refine pui 51 68 64 4503599627370495 HT_ ?_
    refine pui 52 69 64 9007199254740991 HT_ ?_
    refine pui 53 70 64 18014398509481983 HT_ ?_
    refine pui 54 71 64 36028797018963967 HT_ ?_
    refine pui 56 73 64 108086391056891903 HT_ ?_
    refine pui 57 74 64 252201579132747775 HT_ ?_
    refine pui 58 75 64 540431955284459519 HT_ ?_
    refine pui 59 76 64 1116892707587883007 HT_ ?_
    refine tki 55 72 64 1152921504606846975 HT_ HW_ hHeld ?_
    refine tki 60 77 64 2305843009213693951 HT_ HW_ hHeld ?_
    refine onei 61 78 64 4611686018427387903 HT_ (fun K hK => ?_)
    refine goes_ Try.func49 (by kernel_rfl) rfl #[.agg #[.bool ((rd_T52 l0 Aa).f4.f0), .slice Bq ((rd_T52 l0 Aa).f4.f1).length c538_5, .int .i64 ((rd_T52 l0 Aa).f4.f2.f0), .int .i64 ((rd_T52 l0 Aa).f4.f2.f1), .int .i64 ((rd_T52 l0 Aa).f4.f2.f2), .int .u32 ((rd_T52 l0 Aa).f4.f2.f3)], .agg #[.bool ((rd_T52 l1 Aa).f4.f0), .slice Br ((rd_T52 l1 Aa).f4.f1).length c539_5, .int .i64 ((rd_T52 l1 Aa).f4.f2.f0), .int .i64 ((rd_T52 l1 Aa).f4.f2.f1), .int .i64 ((rd_T52 l1 Aa).f4.f2.f2), .int .u32 ((rd_T52 l1 Aa).f4.f2.f3)]] (by rfl) rfl rfl pL ?_
    with_reducible refine (garnerref05_Same.calls k1 ((rd_T52 l0 Aa).f4.f0) _ _ ((rd_T52 l0 Aa).f4.f1) ((rd_T52 l0 Aa).f4.f2.f0) ((rd_T52 l0 Aa).f4.f2.f1) ((rd_T52 l0 Aa).f4.f2.f2) ((rd_T52 l0 Aa).f4.f2.f3) ((rd_T52 l1 Aa).f4.f0) _ _ ((rd_T52 l1 Aa).f4.f1) ((rd_T52 l1 Aa).f4.f2.f0) ((rd_T52 l1 Aa).f4.f2.f1) ((rd_T52 l1 Aa).f4.f2.f2) ((rd_T52 l1 Aa).f4.f2.f3) false _ ?Bu ?Bv ?Bw ?Bx A11.out).mono ?_
    (case Bu => exact pC (Kd.C_below As.out HB.out))
    (case Bv => exact Bs.out)
    (case Bw => exact pC (Kd.C_below A5.out HB.out))
    (case Bx => exact Bt.out)
    rintro e w16 ⟨rfl, hb⟩
    refine ⟨_, rfl, ?_⟩
    replace HB := Am (below_step (pB HB.out) hb)
    (try clear hb)
    (try clear hb2)
    (try clear hk)
    (try clear hi)
    refine hK.out _ _ ⟨(cT HB.out Ah), (cT HB.out Ai), (cT HB.out Aj), (cT HB.out Ak), (cT HB.out Al), (cT HB.out An), (cT HB.out Ao), (cT HB.out Ap), (cT HB.out Aq), (cT HB.out Ar), (cT HB.out At), (cT HB.out Au), (cT HB.out Av), (cT HB.out Aw), (cT HB.out Ax), (cT HB.out Ay), (cT HB.out Az), (cT HB.out A2), (cT HB.out A3), (cT HB.out A4)⟩ (fun hHeld => ?_)
    clear hK K
    refine norm_ (a' := ?_) ?_ ?_
    rotate_left
    ·show Act.put _ (some 78) _ = _
     simp only [Act.put, List.setIfInBounds_toArray, List.set_cons_zero, List.set_cons_succ, i64_w, i32_w]
     rfl
    refine pui 62 79 64 9223372036854775807 HT_ ?_
    refine pui 63 80 64 18446744073709551615 HT_ ?_
    refine done_ (done_of HT_.out (by kernel_rfl)) ?_
    try go_wp2
    go_ret
    exact ⟨pX, pB HB.out⟩
   subst c12
   rw [if_pos rfl] at H
   have H' := Am H
   clear H
   try go_wp2
   replace HB := bDa HB
   have p538 : 0 ≤ (Aa : Int) := of_decide_eq_true pS
   have q538 : Aa < (l0.length : Int) := of_decide_eq_true pS
   obtain ⟨Ab, Bq, c538_5, e538, A6, A7, A8, A9, Ba, Bb, Bc, Bd, Be, Bf, Ad, Ae, Ah, Ai, Aj, Ak, Al, An, Ao, Ap, Aq, Ar⟩ := at_T52w HR0.out Aa p538 q538 HB.out
   cases e538
   have As := Am Ae
   have Bs := Am Ad
   clear Ae Ad
   replace p538 := eq_true p538
   replace q538 := eq_true q538
   have p539 : 0 ≤ (Aa : Int) := of_decide_eq_true pS
   have q539 : Aa < (l1.length : Int) := of_decide_eq_true pS
   obtain ⟨Ac, Br, c539_5, e539, Bg, Bh, Bi, Bj, Bk, Bl, Bm, Bn, Bo, Bp, Af, Ag, At, Au, Av, Aw, Ax, Ay, Az, A2, A3, A4⟩ := at_T52w HR1.out Aa p539 q539 HB.out
   cases e539
   have A5 := Am Ag
   have Bt := Am Af
   clear Ag Af
   replace p539 := eq_true p539
   replace q539 := eq_true q539
   refine start_ (n := 64) (S := fun w' => w'.cell? (Ab.add ((Aa).toNat * 10)) = some (.int .i64 ((rd_T52 l0 Aa).f0)) ∧ cA w' (Ab.add ((Aa).toNat * 10)) 1 (.int .i64 ((rd_T52 l0 Aa).f1)) ∧ cA w' (Ab.add ((Aa).toNat * 10)) 2 (.int .i64 ((rd_T52 l0 Aa).f2)) ∧ cA w' (Ab.add ((Aa).toNat * 10)) 3 (.string ((rd_T52 l0 Aa).f3)) ∧ cA w' (Ab.add ((Aa).toNat * 10)) 4 (.bool ((rd_T52 l0 Aa).f4.f0)) ∧ cA w' (Ab.add ((Aa).toNat * 10)) 5 (.slice Bq ((rd_T52 l0 Aa).f4.f1).length c538_5) ∧ cA w' (Ab.add ((Aa).toNat * 10)) 6 (.int .i64 ((rd_T52 l0 Aa).f4.f2.f0)) ∧ cA w' (Ab.add ((Aa).toNat * 10)) 7 (.int .i64 ((rd_T52 l0 Aa).f4.f2.f1)) ∧ cA w' (Ab.add ((Aa).toNat * 10)) 8 (.int .i64 ((rd_T52 l0 Aa).f4.f2.f2)) ∧ cA w' (Ab.add ((Aa).toNat * 10)) 9 (.int .u32 ((rd_T52 l0 Aa).f4.f2.f3)) ∧ w'.cell? (Ac.add ((Aa).toNat * 10)) = some (.int .i64 ((rd_T52 l1 Aa).f0)) ∧ cA w' (Ac.add ((Aa).toNat * 10)) 1 (.int .i64 ((rd_T52 l1 Aa).f1)) ∧ cA w' (Ac.add ((Aa).toNat * 10)) 2 (.int .i64 ((rd_T52 l1 Aa).f2)) ∧ cA w' (Ac.add ((Aa).toNat * 10)) 3 (.string ((rd_T52 l1 Aa).f3)) ∧ cA w' (Ac.add ((Aa).toNat * 10)) 4 (.bool ((rd_T52 l1 Aa).f4.f0)) ∧ cA w' (Ac.add ((Aa).toNat * 10)) 5 (.slice Br ((rd_T52 l1 Aa).f4.f1).length c539_5) ∧ cA w' (Ac.add ((Aa).toNat * 10)) 6 (.int .i64 ((rd_T52 l1 Aa).f4.f2.f0)) ∧ cA w' (Ac.add ((Aa).toNat * 10)) 7 (.int .i64 ((rd_T52 l1 Aa).f4.f2.f1)) ∧ cA w' (Ac.add ((Aa).toNat * 10)) 8 (.int .i64 ((rd_T52 l1 Aa).f4.f2.f2)) ∧ cA w' (Ac.add ((Aa).toNat * 10)) 9 (.int .u32 ((rd_T52 l1 Aa).f4.f2.f3))) (ds := []) #[false, false, false, false, false, false, false, false, false, false, false, false, false, false, false, false, false, false, false, false, false, false, false, false, false, false, false, false, false, false, false, false, false, false, false, false, false, false, false, false, false, false, false, false, false, false, false, false, false, false, false, false, false, false, false, false, false, false, false, false, false, false, false, false] (by kernel_rfl) rfl rfl ⟨(cT HB.out Ah), (cT HB.out Ai), (cT HB.out Aj), (cT HB.out Ak), (cT HB.out Al), (cT HB.out An), (cT HB.out Ao), (cT HB.out Ap), (cT HB.out Aq), (cT HB.out Ar), (cT HB.out At), (cT HB.out Au), (cT HB.out Av), (cT HB.out Aw), (cT HB.out Ax), (cT HB.out Ay), (cT HB.out Az), (cT HB.out A2), (cT HB.out A3), (cT HB.out A4)⟩ (fun hHeld => ?_); refine with_tabW garnerref06_Same.tab6 garnerref06_Same.bits6 (fun HT_ HW_ => ?_)
   generalize wr.drew = w13 at HB As A5 A6 A7 A8 A9 Ba Bb Bc Bd Be Bf Bg Bh Bi Bj Bk Bl Bm Bn Bo Bp hHeld ⊢
   refine pui 0 17 64 1 HT_ ?_
   refine pui 1 18 64 3 HT_ ?_
   refine pui 2 19 64 7 HT_ ?_
   refine pui 3 20 64 15 HT_ ?_
   refine pui 5 22 64 47 HT_ ?_
   refine pui 6 23 64 111 HT_ ?_
   refine pui 7 24 64 239 HT_ ?_
   refine pui 8 25 64 495 HT_ ?_
   refine tki 4 21 64 511 HT_ HW_ hHeld ?_
   refine tki 9 26 64 1023 HT_ HW_ hHeld ?_
   refine pui 10 27 64 2047 HT_ ?_
   refine pui 11 28 64 4095 HT_ ?_
   refine pui 12 29 64 8191 HT_ ?_
   refine pui 13 30 64 16383 HT_ ?_
   refine pui 14 31 64 32767 HT_ ?_
   refine pui 15 32 64 65535 HT_ ?_
   refine pui 17 34 64 196607 HT_ ?_
   refine pui 18 35 64 458751 HT_ ?_
   refine pui 19 36 64 983039 HT_ ?_
   refine pui 20 37 64 2031615 HT_ ?_
   refine tki 16 33 64 2097151 HT_ HW_ hHeld ?_
   refine tki 21 38 64 4194303 HT_ HW_ hHeld ?_
   refine pui 22 39 64 8388607 HT_ ?_
   refine pui 23 40 64 16777215 HT_ ?_
   refine pui 24 41 64 33554431 HT_ ?_
   refine pui 25 42 64 67108863 HT_ ?_
   refine pui 26 43 64 134217727 HT_ ?_
   refine pui 27 44 64 268435455 HT_ ?_
   refine pui 28 45 64 536870911 HT_ ?_
   refine pui 30 47 64 1610612735 HT_ ?_
   refine pui 31 48 64 3758096383 HT_ ?_
   refine pui 32 49 64 8053063679 HT_ ?_
   refine pui 33 50 64 16642998271 HT_ ?_
   refine tki 29 46 64 17179869183 HT_ HW_ hHeld ?_
   refine tki 34 51 64 34359738367 HT_ HW_ hHeld ?_
   refine pui 35 52 64 68719476735 HT_ ?_
   refine pui 36 53 64 137438953471 HT_ ?_
   refine pui 37 54 64 274877906943 HT_ ?_
   refine pui 38 55 64 549755813887 HT_ ?_
   refine pui 39 56 64 1099511627775 HT_ ?_
   refine pui 40 57 64 2199023255551 HT_ ?_
   refine pui 41 58 64 4398046511103 HT_ ?_
   refine pui 43 60 64 13194139533311 HT_ ?_
   refine pui 44 61 64 30786325577727 HT_ ?_
   refine pui 45 62 64 65970697666559 HT_ ?_
   refine pui 46 63 64 136339441844223 HT_ ?_
   refine tki 42 59 64 140737488355327 HT_ HW_ hHeld ?_
   refine tki 47 64 64 281474976710655 HT_ HW_ hHeld ?_
   refine pui 48 65 64 562949953421311 HT_ ?_
   refine pui 49 66 64 1125899906842623 HT_ ?_
   refine pui 50 67 64 2251799813685247 HT_ ?_
   refine pui 51 68 64 4503599627370495 HT_ ?_
   refine pui 52 69 64 9007199254740991 HT_ ?_
   refine pui 53 70 64 18014398509481983 HT_ ?_
   refine pui 54 71 64 36028797018963967 HT_ ?_
   refine pui 56 73 64 108086391056891903 HT_ ?_
   refine pui 57 74 64 252201579132747775 HT_ ?_
   refine pui 58 75 64 540431955284459519 HT_ ?_
   refine pui 59 76 64 1116892707587883007 HT_ ?_
   refine tki 55 72 64 1152921504606846975 HT_ HW_ hHeld ?_
   refine tki 60 77 64 2305843009213693951 HT_ HW_ hHeld ?_
   refine onei 61 78 64 4611686018427387903 HT_ (fun K hK => ?_)
   refine goes_ Try.func49 (by kernel_rfl) rfl #[.agg #[.bool ((rd_T52 l0 Aa).f4.f0), .slice Bq ((rd_T52 l0 Aa).f4.f1).length c538_5, .int .i64 ((rd_T52 l0 Aa).f4.f2.f0), .int .i64 ((rd_T52 l0 Aa).f4.f2.f1), .int .i64 ((rd_T52 l0 Aa).f4.f2.f2), .int .u32 ((rd_T52 l0 Aa).f4.f2.f3)], .agg #[.bool ((rd_T52 l1 Aa).f4.f0), .slice Br ((rd_T52 l1 Aa).f4.f1).length c539_5, .int .i64 ((rd_T52 l1 Aa).f4.f2.f0), .int .i64 ((rd_T52 l1 Aa).f4.f2.f1), .int .i64 ((rd_T52 l1 Aa).f4.f2.f2), .int .u32 ((rd_T52 l1 Aa).f4.f2.f3)]] (by rfl) rfl rfl pL ?_
   with_reducible refine (garnerref05_Same.calls k1 ((rd_T52 l0 Aa).f4.f0) _ _ ((rd_T52 l0 Aa).f4.f1) ((rd_T52 l0 Aa).f4.f2.f0) ((rd_T52 l0 Aa).f4.f2.f1) ((rd_T52 l0 Aa).f4.f2.f2) ((rd_T52 l0 Aa).f4.f2.f3) ((rd_T52 l1 Aa).f4.f0) _ _ ((rd_T52 l1 Aa).f4.f1) ((rd_T52 l1 Aa).f4.f2.f0) ((rd_T52 l1 Aa).f4.f2.f1) ((rd_T52 l1 Aa).f4.f2.f2) ((rd_T52 l1 Aa).f4.f2.f3) true _ ?Bu ?Bv ?Bw ?Bx A11.out).mono ?_
   (case Bu => exact pC (Kd.C_below As.out HB.out))
   (case Bv => exact Bs.out)
   (case Bw => exact pC (Kd.C_below A5.out HB.out))
   (case Bx => exact Bt.out)
   rintro e w14 ⟨rfl, hb⟩
   refine ⟨_, rfl, ?_⟩
   replace HB := Am (below_step (pB HB.out) hb)
   (try clear hb)
   (try clear hb2)
   (try clear hk)
   (try clear hi)
   refine hK.out _ _ ⟨(cT HB.out Ah), (cT HB.out Ai), (cT HB.out Aj), (cT HB.out Ak), (cT HB.out Al), (cT HB.out An), (cT HB.out Ao), (cT HB.out Ap), (cT HB.out Aq), (cT HB.out Ar), (cT HB.out At), (cT HB.out Au), (cT HB.out Av), (cT HB.out Aw), (cT HB.out Ax), (cT HB.out Ay), (cT HB.out Az), (cT HB.out A2), (cT HB.out A3), (cT HB.out A4)⟩ (fun hHeld => ?_)
   clear hK K
   refine norm_ (a' := ?_) ?_ ?_
   rotate_left
   ·show Act.put _ (some 78) _ = _
    simp only [Act.put, List.setIfInBounds_toArray, List.set_cons_zero, List.set_cons_succ, i64_w, i32_w]
    rfl
   refine pui 62 79 64 9223372036854775807 HT_ ?_
   refine pui 63 80 64 18446744073709551615 HT_ ?_
   refine done_ (done_of HT_.out (by kernel_rfl)) ?_
   try go_wp2
   go_roundg k1
   case measure => have := HK1.out; omega
   case rel => exact ⟨(wrap64 (Aa + 1)), zr, H', ⟨by have := HK1.out; omega⟩, ⟨pB HB.out⟩⟩
def garnerref24_Same.f (k : Nat) (a0_0 : Int) (l0_1 : List (S52)) (a0_2 : Int) (a0_3 : Int) (a0_4 : Int) (a0_5 : Int) (a1_0 : Int) (l1_1 : List (S52)) (a1_2 : Int) (a1_3 : Int) (a1_4 : Int) (a1_5 : Int) : Option (Bool) := if a0_0 = a1_0 then (if (a0_2 == a1_2 && (a0_3 == a1_3 && (a0_4 == a1_4))) = true then (if a0_5 = a1_5 then ((garnerref06_Same.f k l0_1 l1_1).bind fun t551 => (some t551)) else (some false)) else (some false)) else (some false)
theorem garnerref24_Same.mono : ∀ a0 a1 a2 a3 a4 a5 a6 a7 a8 a9 a10 a11 k, LeO (garnerref24_Same.f k a0 a1 a2 a3 a4 a5 a6 a7 a8 a9 a10 a11) (garnerref24_Same.f (k + 1) a0 a1 a2 a3 a4 a5 a6 a7 a8 a9 a10 a11) := by
 intro a0 a1 a2 a3 a4 a5 a6 a7 a8 a9 a10 a11 k
 unfold garnerref24_Same.f
 repeat' (with_reducible first | exact garnerref06_Same.mono .. | exact LeO.refl .. | exact LeO.none .. | refine LeO.ite ?_ ?_ | refine LeO.bind ?_ (fun _ => ?_))
set_option maxHeartbeats 8000000 in
set_option maxRecDepth 100000 in
theorem garnerref24_Same.calls (k : Nat) (a0_0 : Int) (A0_1 : Option Addr) (c0_1 : Nat) (l0_1 : List (S52)) (a0_2 : Int) (a0_3 : Int) (a0_4 : Int) (a0_5 : Int) (a1_0 : Int) (A1_1 : Option Addr) (c1_1 : Nat) (l1_1 : List (S52)) (a1_2 : Int) (a1_3 : Int) (a1_4 : Int) (a1_5 : Int) (r : Bool) (w : World) (hr0_1 : Kd.C k52 w A0_1 l0_1.length l0_1) (hc0_1 : l0_1.length ≤ c0_1) (hr1_1 : Kd.C k52 w A1_1 l1_1.length l1_1) (hc1_1 : l1_1.length ≤ c1_1) (h : garnerref24_Same.f k a0_0 l0_1 a0_2 a0_3 a0_4 a0_5 a1_0 l1_1 a1_2 a1_3 a1_4 a1_5 = some r) :
 Calls Try.prog 8 #[.agg #[.int .i64 a0_0, .slice A0_1 l0_1.length c0_1, .int .i64 a0_2, .int .i64 a0_3, .int .i64 a0_4, .int .i64 a0_5], .agg #[.int .i64 a1_0, .slice A1_1 l1_1.length c1_1, .int .i64 a1_2, .int .i64 a1_3, .int .i64 a1_4, .int .i64 a1_5]] w fun e w' => e = .returned (.bool r) ∧ Below w.heap.size w w' := by
 have hu30 := Try.underlying30
 have hu28 := Try.underlying28
 have Ak := Am hr0_1
 have Al := Am hc0_1
 clear hr0_1 hc0_1
 have An := Am hr1_1
 have Ao := Am hc1_1
 clear hr1_1 hc1_1
 have HB := Am (Below.refl w.heap.size w)
 unfold garnerref24_Same.f at h
 have H := h
 clear h
 by_cases c3 : a0_0 = a1_0
 rotate_left
 ·rw [if_neg c3] at H
  have c3b0 := beq_eq_false_iff_ne.mpr c3
  have c3b1 := bne_iff_ne.mpr c3
  obtain rfl := Option.some.inj H
  go_enter Try.func8, Try.ntmps8
  go_wp2_with (first | ((with_reducible refine gate_dst (N := 2) rfl ?_); refine zE 2 #[.int .i64 a0_0, .slice A0_1 l0_1.length c0_1, .int .i64 a0_2, .int .i64 a0_3, .int .i64 a0_4, .int .i64 a0_5] 30 ?_; intro Ae hg w23 hbox hb; have Aa := Am (hbox); have Ai := Am (zG hg (below_size (pB HB.out))); replace HB := Am (below_step (pB HB.out) hb); have Ad := Ai; clear hb hbox hg) | ((with_reducible refine gate_dst (N := 3) rfl ?_); refine zE 3 #[.int .i64 a1_0, .slice A1_1 l1_1.length c1_1, .int .i64 a1_2, .int .i64 a1_3, .int .i64 a1_4, .int .i64 a1_5] 30 ?_; intro Af hg w24 hbox hb; have Ag := Am (hbox); have Aj := Am (zG hg (below_size (pE HB.out Ad.out))); replace HB := Am (below_step (pE HB.out Ad.out) hb); have Ah := Aj; have Ab := Am (zN hg (kL Aa.out)); have Ac := Am (zM hg (kL Aa.out)); replace Aa := kBa Aa hb; clear hb hbox hg; have hnb25 := Ab.out; have hnc25 := Ac.out; obtain ⟨_, _, _, _, _, _⟩ := bc6 Aa.out; obtain ⟨_, _, _, _, _, _⟩ := bf6 Aa.out; obtain ⟨_, _, _, _, _, _⟩ := bc6 Ag.out; obtain ⟨_, _, _, _, _, _⟩ := bf6 Ag.out))
  go_ret
  exact ⟨pX, pE2 HB.out Ad.out Ah.out⟩
 rw [if_pos c3] at H
 have c3b0 := beq_iff_eq.mpr c3
 have c3b1 := bne_eq_false_iff_eq.mpr c3
 clear c3
 by_cases c4 : (a0_2 == a1_2 && (a0_3 == a1_3 && (a0_4 == a1_4))) = true
 rotate_left
 ·rw [if_neg c4] at H
  have c4b0 : (a0_2 == a1_2 && (a0_3 == a1_3 && (a0_4 == a1_4))) = false := by simpa using c4
  (try (have c4b1 : decide (a0_2 = a1_2 && (a0_3 == a1_3 && (a0_4 == a1_4))) = false := by simpa using c4))
  (try (have c4b2 : (a0_2 == a1_2 && (a0_3 == a1_3 && (a0_4 == a1_4))) = false := by simpa using c4))
  (try (have c4b3 : ¬ (a0_2 = a1_2 && (a0_3 == a1_3 && (a0_4 == a1_4))) := by simpa using c4))
  clear c4
  obtain rfl := Option.some.inj H
  go_enter Try.func8, Try.ntmps8
  go_wp2_with (first | ((with_reducible refine gate_dst (N := 2) rfl ?_); refine zE 2 #[.int .i64 a0_0, .slice A0_1 l0_1.length c0_1, .int .i64 a0_2, .int .i64 a0_3, .int .i64 a0_4, .int .i64 a0_5] 30 ?_; intro Ae hg w18 hbox hb; have Aa := Am (hbox); have Ai := Am (zG hg (below_size (pB HB.out))); replace HB := Am (below_step (pB HB.out) hb); have Ad := Ai; clear hb hbox hg) | ((with_reducible refine gate_dst (N := 3) rfl ?_); refine zE 3 #[.int .i64 a1_0, .slice A1_1 l1_1.length c1_1, .int .i64 a1_2, .int .i64 a1_3, .int .i64 a1_4, .int .i64 a1_5] 30 ?_; intro Af hg w19 hbox hb; have Ag := Am (hbox); have Aj := Am (zG hg (below_size (pE HB.out Ad.out))); replace HB := Am (below_step (pE HB.out Ad.out) hb); have Ah := Aj; have Ab := Am (zN hg (kL Aa.out)); have Ac := Am (zM hg (kL Aa.out)); replace Aa := kBa Aa hb; clear hb hbox hg; have hnb20 := Ab.out; have hnc20 := Ac.out; obtain ⟨_, _, _, _, _, _⟩ := bc6 Aa.out; obtain ⟨_, _, _, _, _, _⟩ := bf6 Aa.out; obtain ⟨_, _, _, _, _, _⟩ := bc6 Ag.out; obtain ⟨_, _, _, _, _, _⟩ := bf6 Ag.out))
  go_ret
  exact ⟨pX, pE2 HB.out Ad.out Ah.out⟩
 rw [if_pos c4] at H
 have c4b0 : (a0_2 == a1_2 && (a0_3 == a1_3 && (a0_4 == a1_4))) = true := c4
 (try (have c4b1 : decide (a0_2 = a1_2 && (a0_3 == a1_3 && (a0_4 == a1_4))) = true := by simpa using c4))
 (try (have c4b2 : (a0_2 == a1_2 && (a0_3 == a1_3 && (a0_4 == a1_4))) = true := by simpa using c4))
 clear c4
 by_cases c5 : a0_5 = a1_5
 rotate_left
 ·rw [if_neg c5] at H
  have c5b0 := beq_eq_false_iff_ne.mpr c5
  have c5b1 := bne_iff_ne.mpr c5
  obtain rfl := Option.some.inj H
  go_enter Try.func8, Try.ntmps8
  go_wp2_with (first | ((with_reducible refine gate_dst (N := 2) rfl ?_); refine zE 2 #[.int .i64 a0_0, .slice A0_1 l0_1.length c0_1, .int .i64 a0_2, .int .i64 a0_3, .int .i64 a0_4, .int .i64 a0_5] 30 ?_; intro Ae hg w13 hbox hb; have Aa := Am (hbox); have Ai := Am (zG hg (below_size (pB HB.out))); replace HB := Am (below_step (pB HB.out) hb); have Ad := Ai; clear hb hbox hg) | ((with_reducible refine gate_dst (N := 3) rfl ?_); refine zE 3 #[.int .i64 a1_0, .slice A1_1 l1_1.length c1_1, .int .i64 a1_2, .int .i64 a1_3, .int .i64 a1_4, .int .i64 a1_5] 30 ?_; intro Af hg w14 hbox hb; have Ag := Am (hbox); have Aj := Am (zG hg (below_size (pE HB.out Ad.out))); replace HB := Am (below_step (pE HB.out Ad.out) hb); have Ah := Aj; have Ab := Am (zN hg (kL Aa.out)); have Ac := Am (zM hg (kL Aa.out)); replace Aa := kBa Aa hb; clear hb hbox hg; have hnb15 := Ab.out; have hnc15 := Ac.out; obtain ⟨_, _, _, _, _, _⟩ := bc6 Aa.out; obtain ⟨_, _, _, _, _, _⟩ := bf6 Aa.out; obtain ⟨_, _, _, _, _, _⟩ := bc6 Ag.out; obtain ⟨_, _, _, _, _, _⟩ := bf6 Ag.out))
  go_ret
  exact ⟨pX, pE2 HB.out Ad.out Ah.out⟩
 rw [if_pos c5] at H
 have c5b0 := beq_iff_eq.mpr c5
 have c5b1 := bne_eq_false_iff_eq.mpr c5
 clear c5
 replace H := Option.bind_eq_some_iff.mp H
 obtain ⟨t551, A60, H⟩ := H
 have A6 := Am A60
 clear A60
 obtain rfl := Option.some.inj H
 go_enter Try.func8, Try.ntmps8
 go_wp2_with (first | ((with_reducible refine gate_dst (N := 2) rfl ?_); refine zE 2 #[.int .i64 a0_0, .slice A0_1 l0_1.length c0_1, .int .i64 a0_2, .int .i64 a0_3, .int .i64 a0_4, .int .i64 a0_5] 30 ?_; intro Ae hg w7 hbox hb; have Aa := Am (hbox); have Ai := Am (zG hg (below_size (pB HB.out))); replace HB := Am (below_step (pB HB.out) hb); have Ad := Ai; clear hb hbox hg) | ((with_reducible refine gate_dst (N := 3) rfl ?_); refine zE 3 #[.int .i64 a1_0, .slice A1_1 l1_1.length c1_1, .int .i64 a1_2, .int .i64 a1_3, .int .i64 a1_4, .int .i64 a1_5] 30 ?_; intro Af hg w8 hbox hb; have Ag := Am (hbox); have Aj := Am (zG hg (below_size (pE HB.out Ad.out))); replace HB := Am (below_step (pE HB.out Ad.out) hb); have Ah := Aj; have Ab := Am (zN hg (kL Aa.out)); have Ac := Am (zM hg (kL Aa.out)); replace Aa := kBa Aa hb; clear hb hbox hg; have hnb9 := Ab.out; have hnc9 := Ac.out; obtain ⟨_, _, _, _, _, _⟩ := bc6 Aa.out; obtain ⟨_, _, _, _, _, _⟩ := bf6 Aa.out; obtain ⟨_, _, _, _, _, _⟩ := bc6 Ag.out; obtain ⟨_, _, _, _, _, _⟩ := bf6 Ag.out) | (go_at_call 23; (with_reducible refine (garnerref06_Same.calls k _ _ l0_1 _ _ l1_1 t551 _ ?Ap ?Aq ?Ar ?As A6.out).mono ?_); (case Ap => exact pC (Kd.C_below Ak.out HB.out)); (case Aq => exact Al.out); (case Ar => exact pC (Kd.C_below An.out HB.out)); (case As => exact Ao.out); rintro e w12 ⟨rfl, hb⟩; replace Aa := kBa Aa hb; replace Ag := kBa Ag hb; replace HB := Am (below_step (pE2 HB.out Ad.out Ah.out) hb); (try clear hb); (try clear hb2); (try clear hk); (try clear hi)))
 go_ret
 exact ⟨pX, pE2 HB.out Ad.out Ah.out⟩
end Go.Proofs.Ytdanmjfkocjgjaa.PWalGets
