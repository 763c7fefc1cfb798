/- What the law reaches, as plain Lean functions, and that the machine's calls answer just that. -/
import Derived.Test.YtmcijphmcobjlaaPWalMakesx0
import Derived.Test.YtmcijphmcobjlaaPWalMakesx5
import Derived.Test.YtmcijphmcobjlaaPWalMakesx16
namespace Go.Proofs.Ytmcijphmcobjlaa.PWalMakes
open Go.RowKit Go.Proofs.YtmcijphmcobjlaaW.PrintWords Go.Proofs.YtmcijphmcobjlaaW.PrintLast Go.Proofs.YtmcijphmcobjlaaW.PrintMore
set_option linter.unusedVariables false
set_option linter.unusedSimpArgs false
section
attribute [local go_sem] max2_int min2_int max_two min_two max_three min_three max_four min_four
set_option maxHeartbeats 8000000
attribute [local go_sem] wrap64_l1 wrap64_l2 wrap64_l3 wrap64_l4 wrap64_l5
attribute [local go_sem high] eqA24
def garnerref06_Same.l0 : Nat → List (S54) → List (S54) → Int → Option (Bool)
 | 0, _, _, _ => none
 | k + 1, x0, x1, x5 => if x5 < (x0.length : Int) then (if 0 ≤ x5 then (if x5 < (x1.length : Int) then (if ((rd_T54 x0 x5).f0) = ((rd_T54 x1 x5).f0) then (if ((rd_T54 x0 x5).f1) = ((rd_T54 x1 x5).f1) then (if ((rd_T54 x0 x5).f2) = ((rd_T54 x1 x5).f2) then (if ((rd_T54 x0 x5).f3).toList = ((rd_T54 x1 x5).f3).toList then ((garnerref05_Same.f k ((rd_T54 x0 x5).f4.f0) ((rd_T54 x0 x5).f4.f1) ((rd_T54 x0 x5).f4.f2.f0) ((rd_T54 x0 x5).f4.f2.f1) ((rd_T54 x0 x5).f4.f2.f2) ((rd_T54 x0 x5).f4.f2.f3) ((rd_T54 x1 x5).f4.f0) ((rd_T54 x1 x5).f4.f1) ((rd_T54 x1 x5).f4.f2.f0) ((rd_T54 x1 x5).f4.f2.f1) ((rd_T54 x1 x5).f4.f2.f2) ((rd_T54 x1 x5).f4.f2.f3)).bind fun t363 => (if t363 = true then (garnerref06_Same.l0 k x0 x1 (wrap64 (x5 + 1))) else (some false))) else (some false)) else (some false)) else (some false)) else (some false)) else (none)) else (none)) else (some true)
def garnerref06_Same.f (k : Nat) (l0 : List (S54)) (l1 : List (S54)) : Option (Bool) := if (l0.length : Int) = (l1.length : Int) then (garnerref06_Same.l0 k l0 l1 0) else (some false)
theorem garnerref06_Same.mono_l : ∀ k, (∀ y0 y1 y2, LeO (garnerref06_Same.l0 k y0 y1 y2) (garnerref06_Same.l0 (k + 1) y0 y1 y2))
 | 0 => fun _ _ _ r h => by simp [garnerref06_Same.l0] at h
 | k + 1 => by
  have ih0 := garnerref06_Same.mono_l k
  ·intro y0 y1 y2
   unfold garnerref06_Same.l0
   repeat' (with_reducible first | exact ih0 .. | exact garnerref05_Same.mono .. | exact LeO.refl .. | exact LeO.none .. | refine LeO.ite ?_ ?_ | refine LeO.bind ?_ (fun _ => ?_))
theorem garnerref06_Same.mono : ∀ a0 a1 k, LeO (garnerref06_Same.f k a0 a1) (garnerref06_Same.f (k + 1) a0 a1) := by
 intro a0 a1 k
 have ih0 := garnerref06_Same.mono_l k
 unfold garnerref06_Same.f
 repeat' (with_reducible first | exact ih0 .. | exact garnerref05_Same.mono .. | exact LeO.refl .. | exact LeO.none .. | refine LeO.ite ?_ ?_ | refine LeO.bind ?_ (fun _ => ?_))
def garnerref06_Same.T6 : Bool × List (List Nat × List Nat) := (true, [([], []), ([], []), ([0, 1], [0, 1]), ([2], [2]), ([3], [3]), ([], []), ([], []), ([5, 6], [5, 6]), ([7], [7]), ([8], [8]), ([4, 9], [4, 9]), ([10], [10]), ([11], [11]), ([11], [11]), ([12, 13, 11], [11, 12, 13]), ([14, 11], [11, 14]), ([15, 11], [11, 15]), ([11], [11]), ([11], [11]), ([17, 18, 11], [11, 17, 18]), ([19, 11], [11, 19]), ([20, 11], [11, 20]), ([16, 21, 11], [11, 16, 21]), ([11, 22], [11, 22]), ([23, 11], [23]), ([24], [24]), ([24], [24]), ([25, 26, 24], [24, 25, 26]), ([27, 24], [24, 27]), ([28, 24], [24, 28]), ([24], [24]), ([24], [24]), ([30, 31, 24], [24, 30, 31]), ([32, 24], [24, 32]), ([33, 24], [24, 33]), ([29, 34, 24], [24, 29, 34]), ([24, 35], [24, 35]), ([36, 24], [36]), ([37], [37]), ([37], [37]), ([38, 39, 37], [37, 38, 39]), ([40, 37], [37, 40]), ([41, 37], [37, 41]), ([37], [37]), ([37], [37]), ([43, 44, 37], [37, 43, 44]), ([45, 37], [37, 45]), ([46, 37], [37, 46]), ([42, 47, 37], [37, 42, 47]), ([37, 48], [37, 48]), ([49, 37], [49]), ([50], [50]), ([50], [50]), ([51, 52, 50], [50, 51, 52]), ([53, 50], [50, 53]), ([54, 50], [50, 54]), ([50], [50]), ([50], [50]), ([56, 57, 50], [50, 56, 57]), ([58, 50], [50, 58]), ([59, 50], [50, 59]), ([55, 60, 50, 50], [50, 55, 60]), ([61, 50], [50, 61]), ([50, 62], [50, 62])])
def garnerref06_Same.B6 : List Nat := [0, 0, 3, 7, 15, 0, 0, 96, 224, 480, 1023, 2047, 4095, 4095, 16383, 32767, 65535, 4095, 4095, 397311, 921599, 1970175, 4194303, 8388607, 16777215, 33554431, 33554431, 134217727, 268435455, 536870911, 33554431, 33554431, 3254779903, 7549747199, 16139681791, 34359738367, 68719476735, 137438953471, 274877906943, 274877906943, 1099511627775, 2199023255551, 4398046511103, 274877906943, 274877906943, 26663156973567, 61847529062399, 132216273240063, 281474976710655, 562949953421311, 1125899906842623, 2251799813685247, 2251799813685247, 9007199254740991, 18014398509481983, 36028797018963967, 2251799813685247, 2251799813685247, 218424581927469055, 506654958079180799, 1083115710382604287, 2305843009213693951, 4611686018427387903, 9223372036854775807]
theorem garnerref06_Same.tab6 : rtab .any (opsOf Try.f29 6) = garnerref06_Same.T6 := by kernel_rfl
theorem garnerref06_Same.bits6 : waitsOk garnerref06_Same.T6.2 garnerref06_Same.B6 = true := by kernel_rfl
set_option maxRecDepth 100000 in
theorem garnerref06_Same.calls (k : Nat) (A0 : Option Addr) (c0 : Nat) (l0 : List (S54)) (A1 : Option Addr) (c1 : Nat) (l1 : List (S54)) (r : Bool) (w : World) (hr0 : Kd.C k54 w A0 l0.length l0) (hc0 : l0.length ≤ c0) (hr1 : Kd.C k54 w A1 l1.length l1) (hc1 : l1.length ≤ c1) (h : garnerref06_Same.f k l0 l1 = some r) :
 Calls Try.prog 29 #[.slice A0 l0.length c0, .slice A1 l1.length c1] w fun e w' => e = .returned (.bool r) ∧ Below w.heap.size w w' := by
 have hu52 := Try.underlying52
 have HR0 := Am hr0
 have HC0 := Am hc0
 clear hr0 hc0
 have HR1 := Am hr1
 have HC1 := Am hc1
 clear hr1 hc1
 have HB := Am (Below.refl w.heap.size w)
 unfold garnerref06_Same.f at h
 have H := h
 clear h
 by_cases c3 : (l0.length : Int) = (l1.length : Int)
 rotate_left
 ·rw [if_neg c3] at H
  obtain ⟨c3b0, c3b1⟩ := zk c3
  have c3b2 : (l0.length == l1.length) = false := by first | simpa using c3 | (simp at c3 ⊢; omega)
  obtain rfl := Option.some.inj H
  go_enter Try.func29, Try.ntmps29
  go_wp2
  go_ret
  exact ⟨pX, pB HB.out⟩
 rw [if_pos c3] at H
 obtain ⟨c3b0, c3b1⟩ := zc c3
 have c3b2 : (l0.length == l1.length) = true := by first | simpa using c3 | (simp at c3 ⊢; omega)
 clear c3
 have H' := Am H
 clear H
 go_enter Try.func29, Try.ntmps29
 go_wp2
 go_loopg [5] k (fun kq v5 w' => ∃ (Aa : Int), v5 = .int .i64 Aa ∧ Aside0 (garnerref06_Same.l0 kq l0 l1 Aa = some r) ∧ Aside0 (kq ≤ k) ∧ Aside0 (Below w.heap.size w w'))
 case atStart => exact ⟨(0), zr, H', ⟨Nat.le_refl _⟩, ⟨pB HB.out⟩⟩
 case round =>
  clear H'
  try clear c1
  try clear c2
  try clear p2
  try clear c3
  try clear c3b0
  try clear c3b1
  try clear c3b2
  obtain ⟨Aa, rfl, HA, HK1, HB⟩ := hrel
  cases gk with
  | zero => exact absurd HA.out (by simp [garnerref06_Same.l0])
  | succ k1 =>
   have H := HA.out
   clear HA
   simp only [garnerref06_Same.l0] at H
   by_cases c4 : Aa < (l0.length : Int)
   rotate_left
   ·rw [if_neg c4] at H
    have c4b0 := decide_eq_false c4
    clear c4
    obtain rfl := Option.some.inj H
    go_wp2
    go_ret
    exact ⟨pX, pB HB.out⟩
   rw [if_pos c4] at H
   have c4b0 := decide_eq_true c4
   clear c4
   obtain ⟨c5, H⟩ := zI H
   have c5b0 := decide_eq_true c5
   clear c5
   obtain ⟨c6, H⟩ := zI H
   have c6b0 := decide_eq_true c6
   clear c6
   by_cases c7 : ((rd_T54 l0 Aa).f0) = ((rd_T54 l1 Aa).f0)
   rotate_left
   ·rw [if_neg c7] at H
    obtain ⟨c7b0, c7b1⟩ := zk c7
    obtain rfl := Option.some.inj H
    try go_wp2
    replace HB := bDa HB
    have p353 : 0 ≤ (Aa : Int) := of_decide_eq_true pS
    have q353 : Aa < (l0.length : Int) := of_decide_eq_true pS
    obtain ⟨Ab, Bq, c353_5, e353, Ao, Ap, Aq, Ar, As, At, Au, Av, Aw, Ax, Ad, Ae, Ah, Al, Ay, Bc, Be, Bf, Bg, Bh, Bi, Bj⟩ := at_T54w HR0.out Aa p353 q353 HB.out
    cases e353
    have Ai := Am Ae
    have Bs := Am Ad
    clear Ae Ad
    replace p353 := eq_true p353
    replace q353 := eq_true q353
    have p354 : 0 ≤ (Aa : Int) := of_decide_eq_true pS
    have q354 : Aa < (l1.length : Int) := of_decide_eq_true pS
    obtain ⟨Ac, Br, c354_5, e354, Az, A2, A3, A4, A5, A6, A7, A8, A9, Ba, Af, Ag, Aj, An, Bb, Bd, Bk, Bl, Bm, Bn, Bo, Bp⟩ := at_T54w HR1.out Aa p354 q354 HB.out
    cases e354
    have Ak := Am Ag
    have Bt := Am Af
    clear Ag Af
    replace p354 := eq_true p354
    replace q354 := eq_true q354
    refine start_ (n := 64) (S := fun w' => w'.cell? (Ab.add ((Aa).toNat * 10)) = some (.int .i64 ((rd_T54 l0 Aa).f0)) ∧ w'.cell? (Ac.add ((Aa).toNat * 10)) = some (.int .i64 ((rd_T54 l1 Aa).f0))) (ds := []) #[false, false, false, false, false, false, false, false, false, false, false, false, false, false, false, false, false, false, false, false, false, false, false, false, false, false, false, false, false, false, false, false, false, false, false, false, false, false, false, false, false, false, false, false, false, false, false, false, false, false, false, false, false, false, false, false, false, false, false, false, false, false, false, false] (by kernel_rfl) rfl rfl ⟨(cT HB.out Ah), (cT HB.out Aj)⟩ (fun hHeld => ?_); refine with_tabW garnerref06_Same.tab6 garnerref06_Same.bits6 (fun HT_ HW_ => ?_)
    generalize wr.drew = w20 at HB Ai Ak Ao Ap Aq Ar As At Au Av Aw Ax Az A2 A3 A4 A5 A6 A7 A8 A9 Ba hHeld ⊢
    refine pui 0 17 64 1 HT_ ?_
    refine zp 1 (h := zp 2 (h := zp 3 (h := zp 5 (h := zp 6 (h := zp 7 (h := zp 8 (h := zw 4 (h := zw 9 (h := zp 10 (h := zp 11 (h := zq 12 (h := zq 13 (h := zq 14 (h := zq 15 (h := zq 16 (h := zq 17 (h := zq 18 (h := zq 19 (h := zq 20 (h := zq 21 (h := zq 22 (h := zp 23 (h := zp 24 (h := zq 25 (h := zq 26 (h := zq 27 (h := zq 28 (h := zq 29 (h := zq 30 (h := zq 31 (h := zq 32 (h := zq 33 (h := zq 34 (h := zq 35 (h := zp 36 (h := zp 37 (h := zq 38 (h := zq 39 (h := zq 40 (h := zq 41 (h := zq 42 (h := zq 43 (h := zq 44 (h := zq 45 (h := zq 46 (h := zq 47 (h := zq 48 (h := zp 49 (h := zp 50 (h := zq 51 (h := zq 52 (h := zq 53 (h := zq 54 (h := zq 55 (h := zq 56 (h := zq 57 (h := zq 58 (h := zq 59 (h := zq 60 (h := zq 61 (h := zq 62 (h := zp 63 (h := ?_)))))))))))))))))))))))))))))))))))))))))))))))))))))))))))))))
    refine done_ (done_of HT_.out (by kernel_rfl)) ?_
    try go_wp2
    go_ret
    exact ⟨pX, pB HB.out⟩
   rw [if_pos c7] at H
   obtain ⟨c7b0, c7b1⟩ := zc c7
   clear c7
   by_cases c8 : ((rd_T54 l0 Aa).f1) = ((rd_T54 l1 Aa).f1)
   rotate_left
   ·rw [if_neg c8] at H
    obtain ⟨c8b0, c8b1⟩ := zk c8
    obtain rfl := Option.some.inj H
    try go_wp2
    replace HB := bDa HB
    have p353 : 0 ≤ (Aa : Int) := of_decide_eq_true pS
    have q353 : Aa < (l0.length : Int) := of_decide_eq_true pS
    obtain ⟨Ab, Bq, c353_5, e353, Ao, Ap, Aq, Ar, As, At, Au, Av, Aw, Ax, Ad, Ae, Ah, Al, Ay, Bc, Be, Bf, Bg, Bh, Bi, Bj⟩ := at_T54w HR0.out Aa p353 q353 HB.out
    cases e353
    have Ai := Am Ae
    have Bs := Am Ad
    clear Ae Ad
    replace p353 := eq_true p353
    replace q353 := eq_true q353
    have p354 : 0 ≤ (Aa : Int) := of_decide_eq_true pS
    have q354 : Aa < (l1.length : Int) := of_decide_eq_true pS
    obtain ⟨Ac, Br, c354_5, e354, Az, A2, A3, A4, A5, A6, A7, A8, A9, Ba, Af, Ag, Aj, An, Bb, Bd, Bk, Bl, Bm, Bn, Bo, Bp⟩ := at_T54w HR1.out Aa p354 q354 HB.out
    cases e354
    have Ak := Am Ag
    have Bt := Am Af
    clear Ag Af
    replace p354 := eq_true p354
    replace q354 := eq_true q354
    refine start_ (n := 64) (S := fun w' => w'.cell? (Ab.add ((Aa).toNat * 10)) = some (.int .i64 ((rd_T54 l0 Aa).f0)) ∧ w'.cell? (Ac.add ((Aa).toNat * 10)) = some (.int .i64 ((rd_T54 l1 Aa).f0)) ∧ cA w' (Ab.add ((Aa).toNat * 10)) 1 (.int .i64 ((rd_T54 l0 Aa).f1)) ∧ cA w' (Ac.add ((Aa).toNat * 10)) 1 (.int .i64 ((rd_T54 l1 Aa).f1))) (ds := []) #[false, false, false, false, false, false, false, false, false, false, false, false, false, false, false, false, false, false, false, false, false, false, false, false, false, false, false, false, false, false, false, false, false, false, false, false, false, false, false, false, false, false, false, false, false, false, false, false, false, false, false, false, false, false, false, false, false, false, false, false, false, false, false, false] (by kernel_rfl) rfl rfl ⟨(cT HB.out Ah), (cT HB.out Aj), (cT HB.out Al), (cT HB.out An)⟩ (fun hHeld => ?_); refine with_tabW garnerref06_Same.tab6 garnerref06_Same.bits6 (fun HT_ HW_ => ?_)
    generalize wr.drew = w19 at HB Ai Ak Ao Ap Aq Ar As At Au Av Aw Ax Az A2 A3 A4 A5 A6 A7 A8 A9 Ba hHeld ⊢
    refine pui 0 17 64 1 HT_ ?_
    refine zp 1 (h := zp 2 (h := zp 3 (h := zp 5 (h := zp 6 (h := zp 7 (h := zp 8 (h := zw 4 (h := zw 9 (h := zp 10 (h := zp 11 (h := zp 12 (h := zp 13 (h := zp 14 (h := zp 15 (h := zp 17 (h := zp 18 (h := zp 19 (h := zp 20 (h := zw 16 (h := zw 21 (h := zp 22 (h := zp 23 (h := zp 24 (h := zq 25 (h := zq 26 (h := zq 27 (h := zq 28 (h := zq 29 (h := zq 30 (h := zq 31 (h := zq 32 (h := zq 33 (h := zq 34 (h := zq 35 (h := zp 36 (h := zp 37 (h := zq 38 (h := zq 39 (h := zq 40 (h := zq 41 (h := zq 42 (h := zq 43 (h := zq 44 (h := zq 45 (h := zq 46 (h := zq 47 (h := zq 48 (h := zp 49 (h := zp 50 (h := zq 51 (h := zq 52 (h := zq 53 (h := zq 54 (h := zq 55 (h := zq 56 (h := zq 57 (h := zq 58 (h := zq 59 (h := zq 60 (h := zq 61 (h := zq 62 (h := zp 63 (h := ?_)))))))))))))))))))))))))))))))))))))))))))))))))))))))))))))))
    refine done_ (done_of HT_.out (by kernel_rfl)) ?_
    try go_wp2
    go_ret
    exact ⟨pX, pB HB.out⟩
   rw [if_pos c8] at H
   obtain ⟨c8b0, c8b1⟩ := zc c8
   clear c8
   by_cases c9 : ((rd_T54 l0 Aa).f2) = ((rd_T54 l1 Aa).f2)
   rotate_left
   ·rw [if_neg c9] at H
    obtain ⟨c9b0, c9b1⟩ := zk c9
    obtain rfl := Option.some.inj H
    try go_wp2
    replace HB := bDa HB
    have p353 : 0 ≤ (Aa : Int) := of_decide_eq_true pS
    have q353 : Aa < (l0.length : Int) := of_decide_eq_true pS
    obtain ⟨Ab, Bq, c353_5, e353, Ao, Ap, Aq, Ar, As, At, Au, Av, Aw, Ax, Ad, Ae, Ah, Al, Ay, Bc, Be, Bf, Bg, Bh, Bi, Bj⟩ := at_T54w HR0.out Aa p353 q353 HB.out
    cases e353
    have Ai := Am Ae
    have Bs := Am Ad
    clear Ae Ad
    replace p353 := eq_true p353
    replace q353 := eq_true q353
    have p354 : 0 ≤ (Aa : Int) := of_decide_eq_true pS
    have q354 : Aa < (l1.length : Int) := of_decide_eq_true pS
    obtain ⟨Ac, Br, c354_5, e354, Az, A2, A3, A4, A5, A6, A7, A8, A9, Ba, Af, Ag, Aj, An, Bb, Bd, Bk, Bl, Bm, Bn, Bo, Bp⟩ := at_T54w HR1.out Aa p354 q354 HB.out
    cases e354
    have Ak := Am Ag
    have Bt := Am Af
    clear Ag Af
    replace p354 := eq_true p354
    replace q354 := eq_true q354
    refine start_ (n := 64) (S := fun w' => w'.cell? (Ab.add ((Aa).toNat * 10)) = some (.int .i64 ((rd_T54 l0 Aa).f0)) ∧ w'.cell? (Ac.add ((Aa).toNat * 10)) = some (.int .i64 ((rd_T54 l1 Aa).f0)) ∧ cA w' (Ab.add ((Aa).toNat * 10)) 1 (.int .i64 ((rd_T54 l0 Aa).f1)) ∧ cA w' (Ac.add ((Aa).toNat * 10)) 1 (.int .i64 ((rd_T54 l1 Aa).f1)) ∧ cA w' (Ab.add ((Aa).toNat * 10)) 2 (.int .i64 ((rd_T54 l0 Aa).f2)) ∧ cA w' (Ac.add ((Aa).toNat * 10)) 2 (.int .i64 ((rd_T54 l1 Aa).f2))) (ds := []) #[false, false, false, false, false, false, false, false, false, false, false, false, false, false, false, false, false, false, false, false, false, false, false, false, false, false, false, false, false, false, false, false, false, false, false, false, false, false, false, false, false, false, false, false, false, false, false, false, false, false, false, false, false, false, false, false, false, false, false, false, false, false, false, false] (by kernel_rfl) rfl rfl ⟨(cT HB.out Ah), (cT HB.out Aj), (cT HB.out Al), (cT HB.out An), (cT HB.out Ay), (cT HB.out Bb)⟩ (fun hHeld => ?_); refine with_tabW garnerref06_Same.tab6 garnerref06_Same.bits6 (fun HT_ HW_ => ?_)
    generalize wr.drew = w18 at HB Ai Ak Ao Ap Aq Ar As At Au Av Aw Ax Az A2 A3 A4 A5 A6 A7 A8 A9 Ba hHeld ⊢
    refine pui 0 17 64 1 HT_ ?_
    refine zp 1 (h := zp 2 (h := zp 3 (h := zp 5 (h := zp 6 (h := zp 7 (h := zp 8 (h := zw 4 (h := zw 9 (h := zp 10 (h := zp 11 (h := zp 12 (h := zp 13 (h := zp 14 (h := zp 15 (h := zp 17 (h := zp 18 (h := zp 19 (h := zp 20 (h := zw 16 (h := zw 21 (h := zp 22 (h := zp 23 (h := zp 24 (h := zp 25 (h := zp 26 (h := zp 27 (h := zp 28 (h := zp 30 (h := zp 31 (h := zp 32 (h := zp 33 (h := zw 29 (h := zw 34 (h := zp 35 (h := zp 36 (h := zp 37 (h := zq 38 (h := zq 39 (h := zq 40 (h := zq 41 (h := zq 42 (h := zq 43 (h := zq 44 (h := zq 45 (h := zq 46 (h := zq 47 (h := zq 48 (h := zp 49 (h := zp 50 (h := zq 51 (h := zq 52 (h := zq 53 (h := zq 54 (h := zq 55 (h := zq 56 (h := zq 57 (h := zq 58 (h := zq 59 (h := zq 60 (h := zq 61 (h := zq 62 (h := zp 63 (h := ?_)))))))))))))))))))))))))))))))))))))))))))))))))))))))))))))))
    refine done_ (done_of HT_.out (by kernel_rfl)) ?_
    try go_wp2
    go_ret
    exact ⟨pX, pB HB.out⟩
   rw [if_pos c9] at H
   obtain ⟨c9b0, c9b1⟩ := zc c9
   clear c9
   by_cases c10 : ((rd_T54 l0 Aa).f3).toList = ((rd_T54 l1 Aa).f3).toList
   rotate_left
   ·rw [if_neg c10] at H
    obtain ⟨c10b0, c10b1⟩ := zk c10
    obtain rfl := Option.some.inj H
    try go_wp2
    replace HB := bDa HB
    have p353 : 0 ≤ (Aa : Int) := of_decide_eq_true pS
    have q353 : Aa < (l0.length : Int) := of_decide_eq_true pS
    obtain ⟨Ab, Bq, c353_5, e353, Ao, Ap, Aq, Ar, As, At, Au, Av, Aw, Ax, Ad, Ae, Ah, Al, Ay, Bc, Be, Bf, Bg, Bh, Bi, Bj⟩ := at_T54w HR0.out Aa p353 q353 HB.out
    cases e353
    have Ai := Am Ae
    have Bs := Am Ad
    clear Ae Ad
    replace p353 := eq_true p353
    replace q353 := eq_true q353
    have p354 : 0 ≤ (Aa : Int) := of_decide_eq_true pS
    have q354 : Aa < (l1.length : Int) := of_decide_eq_true pS
    obtain ⟨Ac, Br, c354_5, e354, Az, A2, A3, A4, A5, A6, A7, A8, A9, Ba, Af, Ag, Aj, An, Bb, Bd, Bk, Bl, Bm, Bn, Bo, Bp⟩ := at_T54w HR1.out Aa p354 q354 HB.out
    cases e354
    have Ak := Am Ag
    have Bt := Am Af
    clear Ag Af
    replace p354 := eq_true p354
    replace q354 := eq_true q354
    refine start_ (n := 64) (S := fun w' => w'.cell? (Ab.add ((Aa).toNat * 10)) = some (.int .i64 ((rd_T54 l0 Aa).f0)) ∧ w'.cell? (Ac.add ((Aa).toNat * 10)) = some (.int .i64 ((rd_T54 l1 Aa).f0)) ∧ cA w' (Ab.add ((Aa).toNat * 10)) 1 (.int .i64 ((rd_T54 l0 Aa).f1)) ∧ cA w' (Ac.add ((Aa).toNat * 10)) 1 (.int .i64 ((rd_T54 l1 Aa).f1)) ∧ cA w' (Ab.add ((Aa).toNat * 10)) 2 (.int .i64 ((rd_T54 l0 Aa).f2)) ∧ cA w' (Ac.add ((Aa).toNat * 10)) 2 (.int .i64 ((rd_T54 l1 Aa).f2)) ∧ cA w' (Ab.add ((Aa).toNat * 10)) 3 (.string ((rd_T54 l0 Aa).f3)) ∧ cA w' (Ac.add ((Aa).toNat * 10)) 3 (.string ((rd_T54 l1 Aa).f3))) (ds := []) #[false, false, false, false, false, false, false, false, false, false, false, false, false, false, false, false, false, false, false, false, false, false, false, false, false, false, false, false, false, false, false, false, false, false, false, false, false, false, false, false, false, false, false, false, false, false, false, false, false, false, false, false, false, false, false, false, false, false, false, false, false, false, false, false] (by kernel_rfl) rfl rfl ⟨(cT HB.out Ah), (cT HB.out Aj), (cT HB.out Al), (cT HB.out An), (cT HB.out Ay), (cT HB.out Bb), (cT HB.out Bc), (cT HB.out Bd)⟩ (fun hHeld => ?_); refine with_tabW garnerref06_Same.tab6 garnerref06_Same.bits6 (fun HT_ HW_ => ?_)
    generalize wr.drew = w17 at HB Ai Ak Ao Ap Aq Ar As At Au Av Aw Ax Az A2 A3 A4 A5 A6 A7 A8 A9 Ba hHeld ⊢
    refine pui 0 17 64 1 HT_ ?_
    refine zp 1 (h := zp 2 (h := zp 3 (h := zp 5 (h := zp 6 (h := zp 7 (h := zp 8 (h := zw 4 (h := zw 9 (h := zp 10 (h := zp 11 (h := zp 12 (h := zp 13 (h := zp 14 (h := zp 15 (h := zp 17 (h := zp 18 (h := zp 19 (h := zp 20 (h := zw 16 (h := zw 21 (h := zp 22 (h := zp 23 (h := zp 24 (h := zp 25 (h := zp 26 (h := zp 27 (h := zp 28 (h := zp 30 (h := zp 31 (h := zp 32 (h := zp 33 (h := zw 29 (h := zw 34 (h := zp 35 (h := zp 36 (h := zp 37 (h := zp 38 (h := zp 39 (h := zp 40 (h := zp 41 (h := zp 43 (h := zp 44 (h := zp 45 (h := zp 46 (h := zw 42 (h := zw 47 (h := zp 48 (h := zp 49 (h := zp 50 (h := zq 51 (h := zq 52 (h := zq 53 (h := zq 54 (h := zq 55 (h := zq 56 (h := zq 57 (h := zq 58 (h := zq 59 (h := zq 60 (h := zq 61 (h := zq 62 (h := zp 63 (h := ?_)))))))))))))))))))))))))))))))))))))))))))))))))))))))))))))))
    refine done_ (done_of HT_.out (by kernel_rfl)) ?_
    try go_wp2
    go_ret
    exact ⟨pX, pB HB.out⟩
   rw [if_pos c10] at H
   obtain ⟨c10b0, c10b1⟩ := zc c10
   clear c10
   obtain ⟨t363, A11, H⟩ := zb H
   by_cases c12 : t363 = true
   rotate_left
   ·replace c12 := Bool.eq_false_iff.mpr c12
    subst c12
    rw [if_neg zF] at H
    obtain rfl := Option.some.inj H
    try go_wp2
    replace HB := bDa HB
    have p353 : 0 ≤ (Aa : Int) := of_decide_eq_true pS
    have q353 : Aa < (l0.length : Int) := of_decide_eq_true pS
    obtain ⟨Ab, Bq, c353_5, e353, Ao, Ap, Aq, Ar, As, At, Au, Av, Aw, Ax, Ad, Ae, Ah, Al, Ay, Bc, Be, Bf, Bg, Bh, Bi, Bj⟩ := at_T54w HR0.out Aa p353 q353 HB.out
    cases e353
    have Ai := Am Ae
    have Bs := Am Ad
    clear Ae Ad
    replace p353 := eq_true p353
    replace q353 := eq_true q353
    have p354 : 0 ≤ (Aa : Int) := of_decide_eq_true pS
    have q354 : Aa < (l1.length : Int) := of_decide_eq_true pS
    obtain ⟨Ac, Br, c354_5, e354, Az, A2, A3, A4, A5, A6, A7, A8, A9, Ba, Af, Ag, Aj, An, Bb, Bd, Bk, Bl, Bm, Bn, Bo, Bp⟩ := at_T54w HR1.out Aa p354 q354 HB.out
    cases e354
    have Ak := Am Ag
    have Bt := Am Af
    clear Ag Af
    replace p354 := eq_true p354
    replace q354 := eq_true q354
    refine start_ (n := 64) (S := fun w' => w'.cell? (Ab.add ((Aa).toNat * 10)) = some (.int .i64 ((rd_T54 l0 Aa).f0)) ∧ w'.cell? (Ac.add ((Aa).toNat * 10)) = some (.int .i64 ((rd_T54 l1 Aa).f0)) ∧ cA w' (Ab.add ((Aa).toNat * 10)) 1 (.int .i64 ((rd_T54 l0 Aa).f1)) ∧ cA w' (Ac.add ((Aa).toNat * 10)) 1 (.int .i64 ((rd_T54 l1 Aa).f1)) ∧ cA w' (Ab.add ((Aa).toNat * 10)) 2 (.int .i64 ((rd_T54 l0 Aa).f2)) ∧ cA w' (Ac.add ((Aa).toNat * 10)) 2 (.int .i64 ((rd_T54 l1 Aa).f2)) ∧ cA w' (Ab.add ((Aa).toNat * 10)) 3 (.string ((rd_T54 l0 Aa).f3)) ∧ cA w' (Ac.add ((Aa).toNat * 10)) 3 (.string ((rd_T54 l1 Aa).f3)) ∧ cA w' (Ab.add ((Aa).toNat * 10)) 4 (.bool ((rd_T54 l0 Aa).f4.f0)) ∧ cA w' (Ab.add ((Aa).toNat * 10)) 5 (.slice Bq ((rd_T54 l0 Aa).f4.f1).length c353_5) ∧ cA w' (Ab.add ((Aa).toNat * 10)) 6 (.int .i64 ((rd_T54 l0 Aa).f4.f2.f0)) ∧ cA w' (Ab.add ((Aa).toNat * 10)) 7 (.int .i64 ((rd_T54 l0 Aa).f4.f2.f1)) ∧ cA w' (Ab.add ((Aa).toNat * 10)) 8 (.int .i64 ((rd_T54 l0 Aa).f4.f2.f2)) ∧ cA w' (Ab.add ((Aa).toNat * 10)) 9 (.int .u32 ((rd_T54 l0 Aa).f4.f2.f3)) ∧ cA w' (Ac.add ((Aa).toNat * 10)) 4 (.bool ((rd_T54 l1 Aa).f4.f0)) ∧ cA w' (Ac.add ((Aa).toNat * 10)) 5 (.slice Br ((rd_T54 l1 Aa).f4.f1).length c354_5) ∧ cA w' (Ac.add ((Aa).toNat * 10)) 6 (.int .i64 ((rd_T54 l1 Aa).f4.f2.f0)) ∧ cA w' (Ac.add ((Aa).toNat * 10)) 7 (.int .i64 ((rd_T54 l1 Aa).f4.f2.f1)) ∧ cA w' (Ac.add ((Aa).toNat * 10)) 8 (.int .i64 ((rd_T54 l1 Aa).f4.f2.f2)) ∧ cA w' (Ac.add ((Aa).toNat * 10)) 9 (.int .u32 ((rd_T54 l1 Aa).f4.f2.f3))) (ds := []) #[false, false, false, false, false, false, false, false, false, false, false, false, false, false, false, false, false, false, false, false, false, false, false, false, false, false, false, false, false, false, false, false, false, false, false, false, false, false, false, false, false, false, false, false, false, false, false, false, false, false, false, false, false, false, false, false, false, false, false, false, false, false, false, false] (by kernel_rfl) rfl rfl ⟨(cT HB.out Ah), (cT HB.out Aj), (cT HB.out Al), (cT HB.out An), (cT HB.out Ay), (cT HB.out Bb), (cT HB.out Bc), (cT HB.out Bd), (cT HB.out Be), (cT HB.out Bf), (cT HB.out Bg), (cT HB.out Bh), (cT HB.out Bi), (cT HB.out Bj), (cT HB.out Bk), (cT HB.out Bl), (cT HB.out Bm), (cT HB.out Bn), (cT HB.out Bo), (cT HB.out Bp)⟩ (fun hHeld => ?_); refine with_tabW garnerref06_Same.tab6 garnerref06_Same.bits6 (fun HT_ HW_ => ?_)
    generalize wr.drew = w15 at HB Ai Ak Ao Ap Aq Ar As At Au Av Aw Ax Az A2 A3 A4 A5 A6 A7 A8 A9 Ba hHeld ⊢
    refine pui 0 17 64 1 HT_ ?_
    refine zp 1 (h := zp 2 (h := zp 3 (h := zp 5 (h := zp 6 (h := zp 7 (h := zp 8 (h := zw 4 (h := zw 9 (h := zp 10 (h := zp 11 (h := zp 12 (h := zp 13 (h := zp 14 (h := zp 15 (h := zp 17 (h := zp 18 (h := zp 19 (h := zp 20 (h := zw 16 (h := zw 21 (h := zp 22 (h := zp 23 (h := zp 24 (h := zp 25 (h := zp 26 (h := zp 27 (h := zp 28 (h := zp 30 (h := zp 31 (h := zp 32 (h := zp 33 (h := zw 29 (h := zw 34 (h := zp 35 (h := zp 36 (h := zp 37 (h := zp 38 (h := zp 39 (h := zp 40 (h := zp 41 (h := zp 43 (h := zp 44 (h := zp 45 (h := zp 46 (h := zw 42 (h := zw 47 (h := zp 48 (h := zp 49 (h := zp 50 (h := zp 51 (h := zp 52 (h := zp 53 (h := zp 54 (h := zp 56 (h := zp 57 (h := zp 58 (h := zp 59 (h := zw 55 (h := zw 60 (h := ?_))))))))))))))))))))))))))))))))))))))))))))))))))))))))))))
    refine onei 61 78 64 4611686018427387903 HT_ (fun K hK => ?_)
    refine goes_ Try.func38 (by kernel_rfl) rfl #[.agg #[.bool ((rd_T54 l0 Aa).f4.f0), .slice Bq ((rd_T54 l0 Aa).f4.f1).length c353_5, .int .i64 ((rd_T54 l0 Aa).f4.f2.f0), .int .i64 ((rd_T54 l0 Aa).f4.f2.f1), .int .i64 ((rd_T54 l0 Aa).f4.f2.f2), .int .u32 ((rd_T54 l0 Aa).f4.f2.f3)], .agg #[.bool ((rd_T54 l1 Aa).f4.f0), .slice Br ((rd_T54 l1 Aa).f4.f1).length c354_5, .int .i64 ((rd_T54 l1 Aa).f4.f2.f0), .int .i64 ((rd_T54 l1 Aa).f4.f2.f1), .int .i64 ((rd_T54 l1 Aa).f4.f2.f2), .int .u32 ((rd_T54 l1 Aa).f4.f2.f3)]] (by rfl) rfl rfl pL ?_
    with_reducible refine (garnerref05_Same.calls k1 ((rd_T54 l0 Aa).f4.f0) _ _ ((rd_T54 l0 Aa).f4.f1) ((rd_T54 l0 Aa).f4.f2.f0) ((rd_T54 l0 Aa).f4.f2.f1) ((rd_T54 l0 Aa).f4.f2.f2) ((rd_T54 l0 Aa).f4.f2.f3) ((rd_T54 l1 Aa).f4.f0) _ _ ((rd_T54 l1 Aa).f4.f1) ((rd_T54 l1 Aa).f4.f2.f0) ((rd_T54 l1 Aa).f4.f2.f1) ((rd_T54 l1 Aa).f4.f2.f2) ((rd_T54 l1 Aa).f4.f2.f3) false _ ?Bu ?Bv ?Bw ?Bx A11.out).mono ?_
    (case Bu => exact pC (Kd.C_below Ai.out HB.out))
    (case Bv => exact Bs.out)
    (case Bw => exact pC (Kd.C_below Ak.out HB.out))
    (case Bx => exact Bt.out)
    rintro e w16 ⟨rfl, hb⟩
    refine ⟨_, rfl, ?_⟩
    replace HB := zB HB hb
    (try clear hb)
    (try clear hb2)
    (try clear hk)
    (try clear hi)
    refine hK.out _ _ ⟨(cT HB.out Ah), (cT HB.out Aj), (cT HB.out Al), (cT HB.out An), (cT HB.out Ay), (cT HB.out Bb), (cT HB.out Bc), (cT HB.out Bd), (cT HB.out Be), (cT HB.out Bf), (cT HB.out Bg), (cT HB.out Bh), (cT HB.out Bi), (cT HB.out Bj), (cT HB.out Bk), (cT HB.out Bl), (cT HB.out Bm), (cT HB.out Bn), (cT HB.out Bo), (cT HB.out Bp)⟩ (fun hHeld => ?_)
    clear hK K
    refine norm_ (a' := ?_) ?_ ?_
    rotate_left
    ·show Act.put _ (some 78) _ = _
     simp only [Act.put, List.setIfInBounds_toArray, List.set_cons_zero, List.set_cons_succ, i64_w, i32_w]
     rfl
    refine pui 62 79 64 9223372036854775807 HT_ ?_
    refine zp 63 (h := ?_)
    refine done_ (done_of HT_.out (by kernel_rfl)) ?_
    try go_wp2
    go_ret
    exact ⟨pX, pB HB.out⟩
   subst c12
   rw [if_pos rfl] at H
   have H' := Am H
   clear H
   try go_wp2
   replace HB := bDa HB
   have p353 : 0 ≤ (Aa : Int) := of_decide_eq_true pS
   have q353 : Aa < (l0.length : Int) := of_decide_eq_true pS
   obtain ⟨Ab, Bq, c353_5, e353, Ao, Ap, Aq, Ar, As, At, Au, Av, Aw, Ax, Ad, Ae, Ah, Al, Ay, Bc, Be, Bf, Bg, Bh, Bi, Bj⟩ := at_T54w HR0.out Aa p353 q353 HB.out
   cases e353
   have Ai := Am Ae
   have Bs := Am Ad
   clear Ae Ad
   replace p353 := eq_true p353
   replace q353 := eq_true q353
   have p354 : 0 ≤ (Aa : Int) := of_decide_eq_true pS
   have q354 : Aa < (l1.length : Int) := of_decide_eq_true pS
   obtain ⟨Ac, Br, c354_5, e354, Az, A2, A3, A4, A5, A6, A7, A8, A9, Ba, Af, Ag, Aj, An, Bb, Bd, Bk, Bl, Bm, Bn, Bo, Bp⟩ := at_T54w HR1.out Aa p354 q354 HB.out
   cases e354
   have Ak := Am Ag
   have Bt := Am Af
   clear Ag Af
   replace p354 := eq_true p354
   replace q354 := eq_true q354
   refine start_ (n := 64) (S := fun w' => w'.cell? (Ab.add ((Aa).toNat * 10)) = some (.int .i64 ((rd_T54 l0 Aa).f0)) ∧ w'.cell? (Ac.add ((Aa).toNat * 10)) = some (.int .i64 ((rd_T54 l1 Aa).f0)) ∧ cA w' (Ab.add ((Aa).toNat * 10)) 1 (.int .i64 ((rd_T54 l0 Aa).f1)) ∧ cA w' (Ac.add ((Aa).toNat * 10)) 1 (.int .i64 ((rd_T54 l1 Aa).f1)) ∧ cA w' (Ab.add ((Aa).toNat * 10)) 2 (.int .i64 ((rd_T54 l0 Aa).f2)) ∧ cA w' (Ac.add ((Aa).toNat * 10)) 2 (.int .i64 ((rd_T54 l1 Aa).f2)) ∧ cA w' (Ab.add ((Aa).toNat * 10)) 3 (.string ((rd_T54 l0 Aa).f3)) ∧ cA w' (Ac.add ((Aa).toNat * 10)) 3 (.string ((rd_T54 l1 Aa).f3)) ∧ cA w' (Ab.add ((Aa).toNat * 10)) 4 (.bool ((rd_T54 l0 Aa).f4.f0)) ∧ cA w' (Ab.add ((Aa).toNat * 10)) 5 (.slice Bq ((rd_T54 l0 Aa).f4.f1).length c353_5) ∧ cA w' (Ab.add ((Aa).toNat * 10)) 6 (.int .i64 ((rd_T54 l0 Aa).f4.f2.f0)) ∧ cA w' (Ab.add ((Aa).toNat * 10)) 7 (.int .i64 ((rd_T54 l0 Aa).f4.f2.f1)) ∧ cA w' (Ab.add ((Aa).toNat * 10)) 8 (.int .i64 ((rd_T54 l0 Aa).f4.f2.f2)) ∧ cA w' (Ab.add ((Aa).toNat * 10)) 9 (.int .u32 ((rd_T54 l0 Aa).f4.f2.f3)) ∧ cA w' (Ac.add ((Aa).toNat * 10)) 4 (.bool ((rd_T54 l1 Aa).f4.f0)) ∧ cA w' (Ac.add ((Aa).toNat * 10)) 5 (.slice Br ((rd_T54 l1 Aa).f4.f1).length c354_5) ∧ cA w' (Ac.add ((Aa).toNat * 10)) 6 (.int .i64 ((rd_T54 l1 Aa).f4.f2.f0)) ∧ cA w' (Ac.add ((Aa).toNat * 10)) 7 (.int .i64 ((rd_T54 l1 Aa).f4.f2.f1)) ∧ cA w' (Ac.add ((Aa).toNat * 10)) 8 (.int .i64 ((rd_T54 l1 Aa).f4.f2.f2)) ∧ cA w' (Ac.add ((Aa).toNat * 10)) 9 (.int .u32 ((rd_T54 l1 Aa).f4.f2.f3))) (ds := []) #[false, false, false, false, false, false, false, false, false, false, false, false, false, false, false, false, false, false, false, false, false, false, false, false, false, false, false, false, false, false, false, false, false, false, false, false, false, false, false, false, false, false, false, false, false, false, false, false, false, false, false, false, false, false, false, false, false, false, false, false, false, false, false, false] (by kernel_rfl) rfl rfl ⟨(cT HB.out Ah), (cT HB.out Aj), (cT HB.out Al), (cT HB.out An), (cT HB.out Ay), (cT HB.out Bb), (cT HB.out Bc), (cT HB.out Bd), (cT HB.out Be), (cT HB.out Bf), (cT HB.out Bg), (cT HB.out Bh), (cT HB.out Bi), (cT HB.out Bj), (cT HB.out Bk), (cT HB.out Bl), (cT HB.out Bm), (cT HB.out Bn), (cT HB.out Bo), (cT HB.out Bp)⟩ (fun hHeld => ?_); refine with_tabW garnerref06_Same.tab6 garnerref06_Same.bits6 (fun HT_ HW_ => ?_)
   generalize wr.drew = w13 at HB Ai Ak Ao Ap Aq Ar As At Au Av Aw Ax Az A2 A3 A4 A5 A6 A7 A8 A9 Ba hHeld ⊢
   refine pui 0 17 64 1 HT_ ?_
   refine zp 1 (h := zp 2 (h := zp 3 (h := zp 5 (h := zp 6 (h := zp 7 (h := zp 8 (h := zw 4 (h := zw 9 (h := zp 10 (h := zp 11 (h := zp 12 (h := zp 13 (h := zp 14 (h := zp 15 (h := zp 17 (h := zp 18 (h := zp 19 (h := zp 20 (h := zw 16 (h := zw 21 (h := zp 22 (h := zp 23 (h := zp 24 (h := zp 25 (h := zp 26 (h := zp 27 (h := zp 28 (h := zp 30 (h := zp 31 (h := zp 32 (h := zp 33 (h := zw 29 (h := zw 34 (h := zp 35 (h := zp 36 (h := zp 37 (h := zp 38 (h := zp 39 (h := zp 40 (h := zp 41 (h := zp 43 (h := zp 44 (h := zp 45 (h := zp 46 (h := zw 42 (h := zw 47 (h := zp 48 (h := zp 49 (h := zp 50 (h := zp 51 (h := zp 52 (h := zp 53 (h := zp 54 (h := zp 56 (h := zp 57 (h := zp 58 (h := zp 59 (h := zw 55 (h := zw 60 (h := ?_))))))))))))))))))))))))))))))))))))))))))))))))))))))))))))
   refine onei 61 78 64 4611686018427387903 HT_ (fun K hK => ?_)
   refine goes_ Try.func38 (by kernel_rfl) rfl #[.agg #[.bool ((rd_T54 l0 Aa).f4.f0), .slice Bq ((rd_T54 l0 Aa).f4.f1).length c353_5, .int .i64 ((rd_T54 l0 Aa).f4.f2.f0), .int .i64 ((rd_T54 l0 Aa).f4.f2.f1), .int .i64 ((rd_T54 l0 Aa).f4.f2.f2), .int .u32 ((rd_T54 l0 Aa).f4.f2.f3)], .agg #[.bool ((rd_T54 l1 Aa).f4.f0), .slice Br ((rd_T54 l1 Aa).f4.f1).length c354_5, .int .i64 ((rd_T54 l1 Aa).f4.f2.f0), .int .i64 ((rd_T54 l1 Aa).f4.f2.f1), .int .i64 ((rd_T54 l1 Aa).f4.f2.f2), .int .u32 ((rd_T54 l1 Aa).f4.f2.f3)]] (by rfl) rfl rfl pL ?_
   with_reducible refine (garnerref05_Same.calls k1 ((rd_T54 l0 Aa).f4.f0) _ _ ((rd_T54 l0 Aa).f4.f1) ((rd_T54 l0 Aa).f4.f2.f0) ((rd_T54 l0 Aa).f4.f2.f1) ((rd_T54 l0 Aa).f4.f2.f2) ((rd_T54 l0 Aa).f4.f2.f3) ((rd_T54 l1 Aa).f4.f0) _ _ ((rd_T54 l1 Aa).f4.f1) ((rd_T54 l1 Aa).f4.f2.f0) ((rd_T54 l1 Aa).f4.f2.f1) ((rd_T54 l1 Aa).f4.f2.f2) ((rd_T54 l1 Aa).f4.f2.f3) true _ ?Bu ?Bv ?Bw ?Bx A11.out).mono ?_
   (case Bu => exact pC (Kd.C_below Ai.out HB.out))
   (case Bv => exact Bs.out)
   (case Bw => exact pC (Kd.C_below Ak.out HB.out))
   (case Bx => exact Bt.out)
   rintro e w14 ⟨rfl, hb⟩
   refine ⟨_, rfl, ?_⟩
   replace HB := zB HB hb
   (try clear hb)
   (try clear hb2)
   (try clear hk)
   (try clear hi)
   refine hK.out _ _ ⟨(cT HB.out Ah), (cT HB.out Aj), (cT HB.out Al), (cT HB.out An), (cT HB.out Ay), (cT HB.out Bb), (cT HB.out Bc), (cT HB.out Bd), (cT HB.out Be), (cT HB.out Bf), (cT HB.out Bg), (cT HB.out Bh), (cT HB.out Bi), (cT HB.out Bj), (cT HB.out Bk), (cT HB.out Bl), (cT HB.out Bm), (cT HB.out Bn), (cT HB.out Bo), (cT HB.out Bp)⟩ (fun hHeld => ?_)
   clear hK K
   refine norm_ (a' := ?_) ?_ ?_
   rotate_left
   ·show Act.put _ (some 78) _ = _
    simp only [Act.put, List.setIfInBounds_toArray, List.set_cons_zero, List.set_cons_succ, i64_w, i32_w]
    rfl
   refine pui 62 79 64 9223372036854775807 HT_ ?_
   refine zp 63 (h := ?_)
   refine done_ (done_of HT_.out (by kernel_rfl)) ?_
   try go_wp2
   go_roundg k1
   case measure => have := HK1.out; omega
   case rel => exact ⟨(wrap64 (Aa + 1)), zr, H', ⟨by have := HK1.out; omega⟩, ⟨pB HB.out⟩⟩
def garnerref23_Same.f (k : Nat) (a0_0 : Int) (a0_1 : Int) (l0_2 : List (S54)) (a0_3 : Int) (a0_4 : Int) (a0_5 : Int) (a0_6 : Int) (a1_0 : Int) (a1_1 : Int) (l1_2 : List (S54)) (a1_3 : Int) (a1_4 : Int) (a1_5 : Int) (a1_6 : Int) : Option (Bool) := if a0_0 = a1_0 then (if a0_1 = a1_1 then (if (a0_3 == a1_3 && (a0_4 == a1_4 && (a0_5 == a1_5))) = true then (if a0_6 = a1_6 then ((garnerref06_Same.f k l0_2 l1_2).bind fun t366 => (some t366)) else (some false)) else (some false)) else (some false)) else (some false)
theorem garnerref23_Same.mono : ∀ a0 a1 a2 a3 a4 a5 a6 a7 a8 a9 a10 a11 a12 a13 k, LeO (garnerref23_Same.f k a0 a1 a2 a3 a4 a5 a6 a7 a8 a9 a10 a11 a12 a13) (garnerref23_Same.f (k + 1) a0 a1 a2 a3 a4 a5 a6 a7 a8 a9 a10 a11 a12 a13) := by
 intro a0 a1 a2 a3 a4 a5 a6 a7 a8 a9 a10 a11 a12 a13 k
 unfold garnerref23_Same.f
 repeat' (with_reducible first | exact garnerref06_Same.mono .. | exact LeO.refl .. | exact LeO.none .. | refine LeO.ite ?_ ?_ | refine LeO.bind ?_ (fun _ => ?_))
set_option maxRecDepth 100000 in
theorem garnerref23_Same.calls (k : Nat) (a0_0 : Int) (a0_1 : Int) (A0_2 : Option Addr) (c0_2 : Nat) (l0_2 : List (S54)) (a0_3 : Int) (a0_4 : Int) (a0_5 : Int) (a0_6 : Int) (a1_0 : Int) (a1_1 : Int) (A1_2 : Option Addr) (c1_2 : Nat) (l1_2 : List (S54)) (a1_3 : Int) (a1_4 : Int) (a1_5 : Int) (a1_6 : Int) (r : Bool) (w : World) (hr0_2 : Kd.C k54 w A0_2 l0_2.length l0_2) (hc0_2 : l0_2.length ≤ c0_2) (hr1_2 : Kd.C k54 w A1_2 l1_2.length l1_2) (hc1_2 : l1_2.length ≤ c1_2) (h : garnerref23_Same.f k a0_0 a0_1 l0_2 a0_3 a0_4 a0_5 a0_6 a1_0 a1_1 l1_2 a1_3 a1_4 a1_5 a1_6 = some r) :
 Calls Try.prog 12 #[.agg #[.int .i64 a0_0, .int .i64 a0_1, .slice A0_2 l0_2.length c0_2, .int .i64 a0_3, .int .i64 a0_4, .int .i64 a0_5, .int .i64 a0_6], .agg #[.int .i64 a1_0, .int .i64 a1_1, .slice A1_2 l1_2.length c1_2, .int .i64 a1_3, .int .i64 a1_4, .int .i64 a1_5, .int .i64 a1_6]] w fun e w' => e = .returned (.bool r) ∧ Below w.heap.size w w' := by
 have hu26 := Try.underlying26
 have hu24 := Try.underlying24
 have Ak := Am hr0_2
 have Al := Am hc0_2
 clear hr0_2 hc0_2
 have An := Am hr1_2
 have Ao := Am hc1_2
 clear hr1_2 hc1_2
 have HB := Am (Below.refl w.heap.size w)
 unfold garnerref23_Same.f at h
 have H := h
 clear h
 by_cases c3 : a0_0 = a1_0
 rotate_left
 ·rw [if_neg c3] at H
  obtain ⟨c3b0, c3b1⟩ := zk c3
  obtain rfl := Option.some.inj H
  go_enter Try.func12, Try.ntmps12
  go_wp2_with (first | ((with_reducible refine zD 2 rfl ?_); refine zE 2 #[.int .i64 a0_0, .int .i64 a0_1, .slice A0_2 l0_2.length c0_2, .int .i64 a0_3, .int .i64 a0_4, .int .i64 a0_5, .int .i64 a0_6] 26 ?_; intro Ae hg w29 hbox hb; have Aa := Am (hbox); have Ai := zA hg HB; replace HB := zB HB hb; have Ad := Ai; clear hb hbox hg) | ((with_reducible refine zD 3 rfl ?_); refine zE 3 #[.int .i64 a1_0, .int .i64 a1_1, .slice A1_2 l1_2.length c1_2, .int .i64 a1_3, .int .i64 a1_4, .int .i64 a1_5, .int .i64 a1_6] 26 ?_; intro Af hg w30 hbox hb; have Ag := Am (hbox); have Aj := zY1 hg HB Ad.out; replace HB := zX1 HB Ad.out hb; have Ah := Aj; have Ab := Am (zN hg (kL Aa.out)); have Ac := Am (zM hg (kL Aa.out)); replace Aa := kBa Aa hb; clear hb hbox hg; have hnb31 := Ab.out; have hnc31 := Ac.out; obtain ⟨_, _, _, _, _, _, _⟩ := bc7 Aa.out; obtain ⟨_, _, _, _, _, _, _⟩ := bf7 Aa.out; obtain ⟨_, _, _, _, _, _, _⟩ := bc7 Ag.out; obtain ⟨_, _, _, _, _, _, _⟩ := bf7 Ag.out))
  go_ret
  exact ⟨pX, pE2 HB.out Ad.out Ah.out⟩
 rw [if_pos c3] at H
 obtain ⟨c3b0, c3b1⟩ := zc c3
 clear c3
 by_cases c4 : a0_1 = a1_1
 rotate_left
 ·rw [if_neg c4] at H
  obtain ⟨c4b0, c4b1⟩ := zk c4
  obtain rfl := Option.some.inj H
  go_enter Try.func12, Try.ntmps12
  go_wp2_with (first | ((with_reducible refine zD 2 rfl ?_); refine zE 2 #[.int .i64 a0_0, .int .i64 a0_1, .slice A0_2 l0_2.length c0_2, .int .i64 a0_3, .int .i64 a0_4, .int .i64 a0_5, .int .i64 a0_6] 26 ?_; intro Ae hg w24 hbox hb; have Aa := Am (hbox); have Ai := zA hg HB; replace HB := zB HB hb; have Ad := Ai; clear hb hbox hg) | ((with_reducible refine zD 3 rfl ?_); refine zE 3 #[.int .i64 a1_0, .int .i64 a1_1, .slice A1_2 l1_2.length c1_2, .int .i64 a1_3, .int .i64 a1_4, .int .i64 a1_5, .int .i64 a1_6] 26 ?_; intro Af hg w25 hbox hb; have Ag := Am (hbox); have Aj := zY1 hg HB Ad.out; replace HB := zX1 HB Ad.out hb; have Ah := Aj; have Ab := Am (zN hg (kL Aa.out)); have Ac := Am (zM hg (kL Aa.out)); replace Aa := kBa Aa hb; clear hb hbox hg; have hnb26 := Ab.out; have hnc26 := Ac.out; obtain ⟨_, _, _, _, _, _, _⟩ := bc7 Aa.out; obtain ⟨_, _, _, _, _, _, _⟩ := bf7 Aa.out; obtain ⟨_, _, _, _, _, _, _⟩ := bc7 Ag.out; obtain ⟨_, _, _, _, _, _, _⟩ := bf7 Ag.out))
  go_ret
  exact ⟨pX, pE2 HB.out Ad.out Ah.out⟩
 rw [if_pos c4] at H
 obtain ⟨c4b0, c4b1⟩ := zc c4
 clear c4
 by_cases c5 : (a0_3 == a1_3 && (a0_4 == a1_4 && (a0_5 == a1_5))) = true
 rotate_left
 ·rw [if_neg c5] at H
  have c5b0 : (a0_3 == a1_3 && (a0_4 == a1_4 && (a0_5 == a1_5))) = false := by simpa using c5
  (try (have c5b1 : decide (a0_3 = a1_3 && (a0_4 == a1_4 && (a0_5 == a1_5))) = false := by simpa using c5))
  (try (have c5b2 : (a0_3 == a1_3 && (a0_4 == a1_4 && (a0_5 == a1_5))) = false := by simpa using c5))
  (try (have c5b3 : ¬ (a0_3 = a1_3 && (a0_4 == a1_4 && (a0_5 == a1_5))) := by simpa using c5))
  clear c5
  obtain rfl := Option.some.inj H
  go_enter Try.func12, Try.ntmps12
  go_wp2_with (first | ((with_reducible refine zD 2 rfl ?_); refine zE 2 #[.int .i64 a0_0, .int .i64 a0_1, .slice A0_2 l0_2.length c0_2, .int .i64 a0_3, .int .i64 a0_4, .int .i64 a0_5, .int .i64 a0_6] 26 ?_; intro Ae hg w19 hbox hb; have Aa := Am (hbox); have Ai := zA hg HB; replace HB := zB HB hb; have Ad := Ai; clear hb hbox hg) | ((with_reducible refine zD 3 rfl ?_); refine zE 3 #[.int .i64 a1_0, .int .i64 a1_1, .slice A1_2 l1_2.length c1_2, .int .i64 a1_3, .int .i64 a1_4, .int .i64 a1_5, .int .i64 a1_6] 26 ?_; intro Af hg w20 hbox hb; have Ag := Am (hbox); have Aj := zY1 hg HB Ad.out; replace HB := zX1 HB Ad.out hb; have Ah := Aj; have Ab := Am (zN hg (kL Aa.out)); have Ac := Am (zM hg (kL Aa.out)); replace Aa := kBa Aa hb; clear hb hbox hg; have hnb21 := Ab.out; have hnc21 := Ac.out; obtain ⟨_, _, _, _, _, _, _⟩ := bc7 Aa.out; obtain ⟨_, _, _, _, _, _, _⟩ := bf7 Aa.out; obtain ⟨_, _, _, _, _, _, _⟩ := bc7 Ag.out; obtain ⟨_, _, _, _, _, _, _⟩ := bf7 Ag.out))
  go_ret
  exact ⟨pX, pE2 HB.out Ad.out Ah.out⟩
 rw [if_pos c5] at H
 have c5b0 : (a0_3 == a1_3 && (a0_4 == a1_4 && (a0_5 == a1_5))) = true := c5
 (try (have c5b1 : decide (a0_3 = a1_3 && (a0_4 == a1_4 && (a0_5 == a1_5))) = true := by simpa using c5))
 (try (have c5b2 : (a0_3 == a1_3 && (a0_4 == a1_4 && (a0_5 == a1_5))) = true := by simpa using c5))
 clear c5
 by_cases c6 : a0_6 = a1_6
 rotate_left
 ·rw [if_neg c6] at H
  obtain ⟨c6b0, c6b1⟩ := zk c6
  obtain rfl := Option.some.inj H
  go_enter Try.func12, Try.ntmps12
  go_wp2_with (first | ((with_reducible refine zD 2 rfl ?_); refine zE 2 #[.int .i64 a0_0, .int .i64 a0_1, .slice A0_2 l0_2.length c0_2, .int .i64 a0_3, .int .i64 a0_4, .int .i64 a0_5, .int .i64 a0_6] 26 ?_; intro Ae hg w14 hbox hb; have Aa := Am (hbox); have Ai := zA hg HB; replace HB := zB HB hb; have Ad := Ai; clear hb hbox hg) | ((with_reducible refine zD 3 rfl ?_); refine zE 3 #[.int .i64 a1_0, .int .i64 a1_1, .slice A1_2 l1_2.length c1_2, .int .i64 a1_3, .int .i64 a1_4, .int .i64 a1_5, .int .i64 a1_6] 26 ?_; intro Af hg w15 hbox hb; have Ag := Am (hbox); have Aj := zY1 hg HB Ad.out; replace HB := zX1 HB Ad.out hb; have Ah := Aj; have Ab := Am (zN hg (kL Aa.out)); have Ac := Am (zM hg (kL Aa.out)); replace Aa := kBa Aa hb; clear hb hbox hg; have hnb16 := Ab.out; have hnc16 := Ac.out; obtain ⟨_, _, _, _, _, _, _⟩ := bc7 Aa.out; obtain ⟨_, _, _, _, _, _, _⟩ := bf7 Aa.out; obtain ⟨_, _, _, _, _, _, _⟩ := bc7 Ag.out; obtain ⟨_, _, _, _, _, _, _⟩ := bf7 Ag.out))
  go_ret
  exact ⟨pX, pE2 HB.out Ad.out Ah.out⟩
 rw [if_pos c6] at H
 obtain ⟨c6b0, c6b1⟩ := zc c6
 clear c6
 obtain ⟨t366, A7, H⟩ := zb H
 obtain rfl := Option.some.inj H
 go_enter Try.func12, Try.ntmps12
 go_wp2_with (first | ((with_reducible refine zD 2 rfl ?_); refine zE 2 #[.int .i64 a0_0, .int .i64 a0_1, .slice A0_2 l0_2.length c0_2, .int .i64 a0_3, .int .i64 a0_4, .int .i64 a0_5, .int .i64 a0_6] 26 ?_; intro Ae hg w8 hbox hb; have Aa := Am (hbox); have Ai := zA hg HB; replace HB := zB HB hb; have Ad := Ai; clear hb hbox hg) | ((with_reducible refine zD 3 rfl ?_); refine zE 3 #[.int .i64 a1_0, .int .i64 a1_1, .slice A1_2 l1_2.length c1_2, .int .i64 a1_3, .int .i64 a1_4, .int .i64 a1_5, .int .i64 a1_6] 26 ?_; intro Af hg w9 hbox hb; have Ag := Am (hbox); have Aj := zY1 hg HB Ad.out; replace HB := zX1 HB Ad.out hb; have Ah := Aj; have Ab := Am (zN hg (kL Aa.out)); have Ac := Am (zM hg (kL Aa.out)); replace Aa := kBa Aa hb; clear hb hbox hg; have hnb10 := Ab.out; have hnc10 := Ac.out; obtain ⟨_, _, _, _, _, _, _⟩ := bc7 Aa.out; obtain ⟨_, _, _, _, _, _, _⟩ := bf7 Aa.out; obtain ⟨_, _, _, _, _, _, _⟩ := bc7 Ag.out; obtain ⟨_, _, _, _, _, _, _⟩ := bf7 Ag.out) | (go_at_call 29; (with_reducible refine (garnerref06_Same.calls k _ _ l0_2 _ _ l1_2 t366 _ ?Ap ?Aq ?Ar ?As A7.out).mono ?_); (case Ap => exact pC (Kd.C_below Ak.out HB.out)); (case Aq => exact Al.out); (case Ar => exact pC (Kd.C_below An.out HB.out)); (case As => exact Ao.out); rintro e w13 ⟨rfl, hb⟩; replace Aa := kBa Aa hb; replace Ag := kBa Ag hb; replace HB := zX2 HB Ad.out Ah.out hb; (try clear hb)))
 go_ret
 exact ⟨pX, pE2 HB.out Ad.out Ah.out⟩
def garnerref23_Last.f (a0_0 : Int) (a0_1 : Int) (l0_2 : List (S54)) (a0_3 : Int) (a0_4 : Int) (a0_5 : Int) (a0_6 : Int) : Option (Int) := some (wrap64 (a0_0 + (l0_2.length : Int)))
set_option maxRecDepth 100000 in
theorem garnerref23_Last.calls (a0_0 : Int) (a0_1 : Int) (A0_2 : Option Addr) (c0_2 : Nat) (l0_2 : List (S54)) (a0_3 : Int) (a0_4 : Int) (a0_5 : Int) (a0_6 : Int) (r : Int) (w : World) (hr0_2 : Kd.C k54 w A0_2 l0_2.length l0_2) (hc0_2 : l0_2.length ≤ c0_2) (h : garnerref23_Last.f a0_0 a0_1 l0_2 a0_3 a0_4 a0_5 a0_6 = some r) :
 Calls Try.prog 59 #[.agg #[.int .i64 a0_0, .int .i64 a0_1, .slice A0_2 l0_2.length c0_2, .int .i64 a0_3, .int .i64 a0_4, .int .i64 a0_5, .int .i64 a0_6]] w fun e w' => e = .returned (.int .i64 r) ∧ Below w.heap.size w w' := by
 have hu26 := Try.underlying26
 have HR0_2 := Am hr0_2
 have HC0_2 := Am hc0_2
 clear hr0_2 hc0_2
 have HB := Am (Below.refl w.heap.size w)
 unfold garnerref23_Last.f at h
 have H := h
 clear h
 obtain rfl := Option.some.inj H
 go_enter Try.func59, Try.ntmps59
 go_wp2_with (first | ((with_reducible refine zD 1 rfl ?_); refine zE 1 #[.int .i64 a0_0, .int .i64 a0_1, .slice A0_2 l0_2.length c0_2, .int .i64 a0_3, .int .i64 a0_4, .int .i64 a0_5, .int .i64 a0_6] 26 ?_; intro gb367 hg w2 hbox hb; have BK367 := Am (hbox); have GW367 := zA hg HB; replace HB := zB HB hb; have GE367 := GW367; clear hb hbox hg; obtain ⟨hcz3_0, hcz3_1, hcz3_2, hcz3_3, hcz3_4, hcz3_5, hcz3_6⟩ := bc7 BK367.out; obtain ⟨hfz3_0, hfz3_1, hfz3_2, hfz3_3, hfz3_4, hfz3_5, hfz3_6⟩ := bf7 BK367.out))
 go_ret
 exact ⟨pX, pE HB.out GE367.out⟩
end
section
attribute [local go_sem] max2_int min2_int max_two min_two max_three min_three max_four min_four
attribute [local go_sem] wrap64_l1 wrap64_l2 wrap64_l3 wrap64_l4 wrap64_l5
def garnerref23_Term.f (a0_0 : Int) (a0_1 : Int) (l0_2 : List (S54)) (a0_3 : Int) (a0_4 : Int) (a0_5 : Int) (a0_6 : Int) (a1 : Int) : Option (Int) := if a1 = a0_0 then (some a0_1) else (if 0 ≤ (wrap64 ((wrap64 (a1 - a0_0)) - 1)) then (if (wrap64 ((wrap64 (a1 - a0_0)) - 1)) < (l0_2.length : Int) then (some ((rd_T54 l0_2 (wrap64 ((wrap64 (a1 - a0_0)) - 1))).f1)) else (none)) else (none))
set_option maxHeartbeats 8000000 in
set_option maxRecDepth 100000 in
theorem garnerref23_Term.calls (a0_0 : Int) (a0_1 : Int) (A0_2 : Option Addr) (c0_2 : Nat) (l0_2 : List (S54)) (a0_3 : Int) (a0_4 : Int) (a0_5 : Int) (a0_6 : Int) (a1 : Int) (r : Int) (w : World) (hr0_2 : Kd.C k54 w A0_2 l0_2.length l0_2) (hc0_2 : l0_2.length ≤ c0_2) (h : garnerref23_Term.f a0_0 a0_1 l0_2 a0_3 a0_4 a0_5 a0_6 a1 = some r) :
 Calls Try.prog 60 #[.agg #[.int .i64 a0_0, .int .i64 a0_1, .slice A0_2 l0_2.length c0_2, .int .i64 a0_3, .int .i64 a0_4, .int .i64 a0_5, .int .i64 a0_6], .int .i64 a1] w fun e w' => e = .returned (.int .i64 r) ∧ Below w.heap.size w w' := by
 have hu26 := Try.underlying26
 have Ar := Am hr0_2
 have HC0_2 := Am hc0_2
 clear hr0_2 hc0_2
 have HB := Am (Below.refl w.heap.size w)
 unfold garnerref23_Term.f at h
 have H := h
 clear h
 by_cases c3 : a1 = a0_0
 ·rw [if_pos c3] at H
  obtain ⟨c3b0, c3b1⟩ := zc c3
  clear c3
  obtain rfl := Option.some.inj H
  go_enter Try.func60, Try.ntmps60
  go_wp2_with (first | ((with_reducible refine zD 2 rfl ?_); refine zE 2 #[.int .i64 a0_0, .int .i64 a0_1, .slice A0_2 l0_2.length c0_2, .int .i64 a0_3, .int .i64 a0_4, .int .i64 a0_5, .int .i64 a0_6] 26 ?_; intro Ao hg w4 hbox hb; have Aa := Am (hbox); have Ap := zA hg HB; replace HB := zB HB hb; have Aq := Ap; clear hb hbox hg; obtain ⟨_, _, _, _, _, _, _⟩ := bc7 Aa.out; obtain ⟨_, _, _, _, _, _, _⟩ := bf7 Aa.out))
  go_ret
  exact ⟨pX, pE HB.out Aq.out⟩
 rw [if_neg c3] at H
 obtain ⟨c3b0, c3b1⟩ := zk c3
 obtain ⟨ji6, hji6⟩ : ∃ j_ : Int, (wrap64 ((wrap64 (a1 - a0_0)) - 1)) = j_ := ⟨_, rfl⟩
 replace H : (if 0 ≤ (ji6) then (if (ji6) < (l0_2.length : Int) then (some ((rd_T54 l0_2 (ji6)).f1)) else (none)) else (none)) = some r := by first | (rw [hji6] at H; exact H) | (simp only [hji6] at H ⊢; exact H)
 have hji6w : (IntKind.i64.wrap ((wrap64 (a1 - a0_0)) - 1)) = ji6 := (i64_w _).trans hji6
 obtain ⟨c7, H⟩ := zI H
 have c7b0 := decide_eq_true c7
 clear c7
 obtain ⟨c8, H⟩ := zI H
 have c8b0 := decide_eq_true c8
 clear c8
 obtain rfl := Option.some.inj H
 go_enter Try.func60, Try.ntmps60
 go_wp2_with (first | ((with_reducible refine zD 2 rfl ?_); refine zE 2 #[.int .i64 a0_0, .int .i64 a0_1, .slice A0_2 l0_2.length c0_2, .int .i64 a0_3, .int .i64 a0_4, .int .i64 a0_5, .int .i64 a0_6] 26 ?_; intro Ao hg w9 hbox hb; have Aa := Am (hbox); have Ap := zA hg HB; replace HB := zB HB hb; have Aq := Ap; clear hb hbox hg; obtain ⟨_, _, _, _, _, _, _⟩ := bc7 Aa.out; obtain ⟨_, _, _, _, _, _, _⟩ := bf7 Aa.out; have p369 : 0 ≤ ((ji6) : Int) := of_decide_eq_true pS; have q369 : (ji6) < (l0_2.length : Int) := of_decide_eq_true pS; obtain ⟨ad369, A369_5, c369_5, e369, Ab, Ac, Ad, Ae, Af, Ag, Ah, Ai, Aj, Ak, Al, An⟩ := at_T54 Ar.out (ji6) p369 q369; cases e369; replace Ab := cU HB.out Ab; replace Ac := cU HB.out Ac; replace Ad := cU HB.out Ad; replace Ae := cU HB.out Ae; replace Af := cU HB.out Af; replace Ag := cU HB.out Ag; replace Ah := cU HB.out Ah; replace Ai := cU HB.out Ai; replace Aj := cU HB.out Aj; replace Ak := cU HB.out Ak; have HR369_5 := Am An; have HC369_5 := Am Al; clear An Al; replace p369 := eq_true p369; replace q369 := eq_true q369))
 go_ret
 exact ⟨by first | rfl | (simp [errW_none, errW_some] <;> rfl) | (simp only [← hji6]; first | rfl | (simp [errW_none, errW_some] <;> rfl)) | (simp [*, errW_none, errW_some] <;> rfl), pE HB.out Aq.out⟩
end
end Go.Proofs.Ytmcijphmcobjlaa.PWalMakes
