/- What the law reaches, as plain Lean functions, and that the machine's calls answer just that. -/
import Derived.Test.YtmcijphmcobjlaaPWalMakesx0
import Derived.Test.YtmcijphmcobjlaaPWalMakesx11
import Derived.Test.YtmcijphmcobjlaaPWalMakesx5
namespace Go.Proofs.Ytmcijphmcobjlaa.PWalMakes
open Go.RowKit Go.Proofs.YtmcijphmcobjlaaW.PrintWords Go.Proofs.YtmcijphmcobjlaaW.PrintLast Go.Proofs.YtmcijphmcobjlaaW.PrintMore
set_option linter.unusedVariables false
set_option linter.unusedSimpArgs false
section
attribute [local go_sem] max2_int min2_int max_two min_two max_three min_three max_four min_four
attribute [local go_sem] wrap64_l1 wrap64_l2 wrap64_l3 wrap64_l4 wrap64_l5
def garnerref23_Rows.l0 : Nat → List (S54) → Int → Option (Bool)
 | 0, _, _ => none
 | k + 1, x0, x3 => if x3 < (x0.length : Int) then (if 0 ≤ x3 then ((garnerref23_counts.f ((rd_T54 x0 x3).f0)).bind fun t318 => (if t318 = true then ((garnerref23_counts.f ((rd_T54 x0 x3).f1)).bind fun t320 => (if t320 = true then (if x3 > 0 then (if 0 ≤ (wrap64 (x3 - 1)) then (if (wrap64 (x3 - 1)) < (x0.length : Int) then (if (wrap64 (((rd_T54 x0 x3).f0) - 1)) = ((rd_T54 x0 (wrap64 (x3 - 1))).f0) then (if ((rd_T54 x0 x3).f1) < ((rd_T54 x0 (wrap64 (x3 - 1))).f1) then (some false) else (garnerref23_Rows.l0 k x0 (wrap64 (x3 + 1)))) else (some false)) else (none)) else (none)) else (garnerref23_Rows.l0 k x0 (wrap64 (x3 + 1)))) else (some false))) else (some false))) else (none)) else (some true)
def garnerref23_Rows.f (k : Nat) (l0 : List (S54)) : Option (Bool) := garnerref23_Rows.l0 k l0 0
theorem garnerref23_Rows.mono_l : ∀ k, (∀ y0 y1, LeO (garnerref23_Rows.l0 k y0 y1) (garnerref23_Rows.l0 (k + 1) y0 y1))
 | 0 => fun _ _ r h => by simp [garnerref23_Rows.l0] at h
 | k + 1 => by
  have ih0 := garnerref23_Rows.mono_l k
  ·intro y0 y1
   unfold garnerref23_Rows.l0
   repeat' (with_reducible first | exact ih0 .. | exact LeO.refl .. | exact LeO.none .. | refine LeO.ite ?_ ?_ | refine LeO.bind ?_ (fun _ => ?_))
theorem garnerref23_Rows.mono : ∀ a0 k, LeO (garnerref23_Rows.f k a0) (garnerref23_Rows.f (k + 1) a0) := by
 intro a0 k
 have ih0 := garnerref23_Rows.mono_l k
 unfold garnerref23_Rows.f
 repeat' (with_reducible first | exact ih0 .. | exact LeO.refl .. | exact LeO.none .. | refine LeO.ite ?_ ?_ | refine LeO.bind ?_ (fun _ => ?_))
def garnerref23_Rows.T4 : Bool × List (List Nat × List Nat) := (true, [([], []), ([], []), ([0, 1], [0, 1]), ([2], [2]), ([3], [3]), ([4], [4]), ([5], [5]), ([6, 5], [6]), ([7], [7]), ([7], [7]), ([8, 9, 7], [7, 8, 9]), ([10, 7], [7, 10]), ([11, 7], [7, 11]), ([12, 7, 7], [7, 12]), ([13, 7], [7, 13]), ([7, 14], [7, 14]), ([15, 13], [15]), ([16], [16]), ([17, 16], [16, 17]), ([18, 16, 16], [16, 18]), ([19], [19]), ([19], [19]), ([20, 21, 19], [19, 20, 21]), ([22, 19], [19, 22]), ([23, 19], [19, 23]), ([24, 19], [19, 24]), ([19], [19]), ([19], [19]), ([27, 19], [19, 27]), ([26, 28, 19], [19, 26, 28]), ([29, 19], [19, 29]), ([30, 19], [19, 30]), ([25, 31, 19], [19, 25, 31]), ([32, 19, 19], [19, 32]), ([33], [33]), ([33], [33]), ([34, 35, 33], [33, 34, 35]), ([36, 33], [33, 36]), ([37, 33], [33, 37]), ([33], [33]), ([33], [33]), ([40, 33], [33, 40]), ([39, 41, 33], [33, 39, 41]), ([42, 33], [33, 42]), ([43, 33], [33, 43]), ([38, 44, 33], [33, 38, 44]), ([33, 45, 19], [19, 33, 45]), ([19, 46, 16], [16, 19, 46]), ([16, 47], [16, 47])])
def garnerref23_Rows.B4 : List Nat := [0, 0, 3, 7, 15, 31, 63, 127, 255, 255, 1023, 2047, 4095, 8191, 16383, 32767, 65535, 131071, 262143, 524287, 1048575, 1048575, 4194303, 8388607, 16777215, 33554431, 1048575, 1048575, 135266303, 470810623, 1007681535, 2081423359, 4294967295, 8589934591, 17179869183, 17179869183, 68719476735, 137438953471, 274877906943, 17179869183, 17179869183, 1116691496959, 3865470566399, 8263517077503, 17059610099711, 35184372088831, 70368744177663, 140737488355327, 281474976710655]
theorem garnerref23_Rows.tab4 : rtab .any (opsOf Try.f31 4) = garnerref23_Rows.T4 := by kernel_rfl
theorem garnerref23_Rows.bits4 : waitsOk garnerref23_Rows.T4.2 garnerref23_Rows.B4 = true := by kernel_rfl
set_option maxHeartbeats 8000000 in
set_option maxRecDepth 100000 in
theorem garnerref23_Rows.calls (k : Nat) (A0 : Option Addr) (c0 : Nat) (l0 : List (S54)) (r : Bool) (w : World) (hr0 : Kd.C k54 w A0 l0.length l0) (hc0 : l0.length ≤ c0) (h : garnerref23_Rows.f k l0 = some r) :
 Calls Try.prog 31 #[.slice A0 l0.length c0] w fun e w' => e = .returned (.bool r) ∧ Below w.heap.size w w' := by
 have HR0 := Am hr0
 have HC0 := Am hc0
 clear hr0 hc0
 have HB := Am (Below.refl w.heap.size w)
 unfold garnerref23_Rows.f at h
 have H := h
 clear h
 have H' := Am H
 clear H
 go_enter Try.func31, Try.ntmps31
 go_wp2
 go_loopg [3] k (fun kq v3 w' => ∃ (Aa : Int), v3 = .int .i64 Aa ∧ Aside0 (garnerref23_Rows.l0 kq l0 Aa = some r) ∧ Aside0 (kq ≤ k) ∧ Aside0 (Below w.heap.size w w'))
 case atStart => exact ⟨(0), zr, H', ⟨Nat.le_refl _⟩, ⟨pB HB.out⟩⟩
 case round =>
  clear H'
  obtain ⟨Aa, rfl, HA, HK1, HB⟩ := hrel
  cases gk with
  | zero => exact absurd HA.out (by simp [garnerref23_Rows.l0])
  | succ k1 =>
   have H := HA.out
   clear HA
   simp only [garnerref23_Rows.l0] at H
   by_cases c2 : Aa < (l0.length : Int)
   rotate_left
   ·rw [if_neg c2] at H
    have c2b0 := decide_eq_false c2
    clear c2
    obtain rfl := Option.some.inj H
    go_wp2
    go_ret
    exact ⟨pX, pB HB.out⟩
   rw [if_pos c2] at H
   have c2b0 := decide_eq_true c2
   clear c2
   obtain ⟨c3, H⟩ := zI H
   have c3b0 := decide_eq_true c3
   clear c3
   obtain ⟨t318, A4, H⟩ := zb H
   by_cases c5 : t318 = true
   rotate_left
   ·replace c5 := Bool.eq_false_iff.mpr c5
    subst c5
    rw [if_neg zF] at H
    obtain rfl := Option.some.inj H
    try go_wp2
    replace HB := bDa HB
    have p317 : 0 ≤ (Aa : Int) := of_decide_eq_true pS
    have q317 : Aa < (l0.length : Int) := of_decide_eq_true pS
    obtain ⟨Af, Bm, c317_5, e317, Ag, Ah, Ai, Aj, Ak, Al, An, Ao, Ap, Aq, Ad, Ae, Ab, Ac, Ax, Ay, Az, A1, A2, A3, A5, A7⟩ := at_T54w HR0.out Aa p317 q317 HB.out
    cases e317
    have Ar := Am Ae
    have A8 := Am Ad
    clear Ae Ad
    replace p317 := eq_true p317
    replace q317 := eq_true q317
    refine start_ (n := 49) (S := fun w' => w'.cell? (Af.add ((Aa).toNat * 10)) = some (.int .i64 ((rd_T54 l0 Aa).f0))) (ds := []) #[false, false, false, false, false, false, false, false, false, false, false, false, false, false, false, false, false, false, false, false, false, false, false, false, false, false, false, false, false, false, false, false, false, false, false, false, false, false, false, false, false, false, false, false, false, false, false, false, false] (by kernel_rfl) rfl rfl ((cT HB.out Ab)) (fun hHeld => ?_); refine with_tabW garnerref23_Rows.tab4 garnerref23_Rows.bits4 (fun HT_ HW_ => ?_)
    generalize wr.drew = w19 at HB Ar Ag Ah Ai Aj Ak Al An Ao Ap Aq hHeld ⊢
    refine pui 0 10 49 1 HT_ ?_
    refine zp 1 (h := zp 2 (h := zp 3 (h := ?_)))
    refine take_ (i := 4) (N := some 14) (v := ?_) (a' := ?_) (bw 49 31) rfl rfl (take_ofW HT_.out HW_.out (by kernel_rfl)) (fun _ _ _ h => h) (Or.inl ⟨by rfl, ?_⟩) hHeld ?_ ?_
    rotate_left
    ·intro w' s0
     go_simp
     with_reducible rfl
    rotate_left
    ·exact za
    refine onei 5 15 49 63 HT_ (fun K hK => ?_)
    refine goes_ Try.func51 (by kernel_rfl) rfl #[.int .i64 ((rd_T54 l0 Aa).f0)] (by rfl) rfl rfl pL ?_
    with_reducible refine (garnerref23_counts.calls ((rd_T54 l0 Aa).f0) false _ A4.out).mono ?_
    rintro e w' ⟨rfl, ⟨nd, rfl⟩⟩
    refine ⟨_, rfl, ?_⟩
    refine hK.out _ _ ((cT HB.out Ab)) (fun hHeld => ?_)
    clear hK K
    refine norm_ (a' := ?_) ?_ ?_
    rotate_left
    ·show Act.put _ (some 15) _ = _
     simp only [Act.put, List.setIfInBounds_toArray, List.set_cons_zero, List.set_cons_succ, i64_w, i32_w]
     rfl
    refine pui 6 16 49 127 HT_ ?_
    refine zp 7 (h := zq 8 (h := zq 9 (h := zq 10 (h := zq 11 (h := zq 12 (h := zq 13 (h := zq 14 (h := zp 15 (h := zp 16 (h := zq 17 (h := zq 18 (h := zq 19 (h := zq 20 (h := zq 21 (h := zq 22 (h := zq 23 (h := zq 24 (h := zq 25 (h := zq 26 (h := zq 27 (h := zq 28 (h := zq 29 (h := zq 30 (h := zq 31 (h := zq 32 (h := zq 33 (h := zq 34 (h := zq 35 (h := zq 36 (h := zq 37 (h := zq 38 (h := zq 39 (h := zq 40 (h := zq 41 (h := zq 42 (h := zq 43 (h := zq 44 (h := zq 45 (h := zq 46 (h := zq 47 (h := zp 48 (h := ?_))))))))))))))))))))))))))))))))))))))))))
    refine done_ (done_of HT_.out (by kernel_rfl)) ?_
    try go_wp2
    go_ret
    exact ⟨pX, pB HB.out⟩
   subst c5
   rw [if_pos rfl] at H
   obtain ⟨t320, A6, H⟩ := zb H
   by_cases c7 : t320 = true
   rotate_left
   ·replace c7 := Bool.eq_false_iff.mpr c7
    subst c7
    rw [if_neg zF] at H
    obtain rfl := Option.some.inj H
    try go_wp2
    replace HB := bDa HB
    have p317 : 0 ≤ (Aa : Int) := of_decide_eq_true pS
    have q317 : Aa < (l0.length : Int) := of_decide_eq_true pS
    obtain ⟨Af, Bm, c317_5, e317, Ag, Ah, Ai, Aj, Ak, Al, An, Ao, Ap, Aq, Ad, Ae, Ab, Ac, Ax, Ay, Az, A1, A2, A3, A5, A7⟩ := at_T54w HR0.out Aa p317 q317 HB.out
    cases e317
    have Ar := Am Ae
    have A8 := Am Ad
    clear Ae Ad
    replace p317 := eq_true p317
    replace q317 := eq_true q317
    refine start_ (n := 49) (S := fun w' => w'.cell? (Af.add ((Aa).toNat * 10)) = some (.int .i64 ((rd_T54 l0 Aa).f0)) ∧ cA w' (Af.add ((Aa).toNat * 10)) 1 (.int .i64 ((rd_T54 l0 Aa).f1))) (ds := []) #[false, false, false, false, false, false, false, false, false, false, false, false, false, false, false, false, false, false, false, false, false, false, false, false, false, false, false, false, false, false, false, false, false, false, false, false, false, false, false, false, false, false, false, false, false, false, false, false, false] (by kernel_rfl) rfl rfl ⟨(cT HB.out Ab), (cT HB.out Ac)⟩ (fun hHeld => ?_); refine with_tabW garnerref23_Rows.tab4 garnerref23_Rows.bits4 (fun HT_ HW_ => ?_)
    generalize wr.drew = w18 at HB Ar Ag Ah Ai Aj Ak Al An Ao Ap Aq hHeld ⊢
    refine pui 0 10 49 1 HT_ ?_
    refine zp 1 (h := zp 2 (h := zp 3 (h := zw 4 (h := ?_))))
    refine onei 5 15 49 63 HT_ (fun K hK => ?_)
    refine goes_ Try.func51 (by kernel_rfl) rfl #[.int .i64 ((rd_T54 l0 Aa).f0)] (by rfl) rfl rfl pL ?_
    with_reducible refine (garnerref23_counts.calls ((rd_T54 l0 Aa).f0) true _ A4.out).mono ?_
    rintro e w' ⟨rfl, ⟨nd, rfl⟩⟩
    refine ⟨_, rfl, ?_⟩
    refine hK.out _ _ ⟨(cT HB.out Ab), (cT HB.out Ac)⟩ (fun hHeld => ?_)
    clear hK K
    refine norm_ (a' := ?_) ?_ ?_
    rotate_left
    ·show Act.put _ (some 15) _ = _
     simp only [Act.put, List.setIfInBounds_toArray, List.set_cons_zero, List.set_cons_succ, i64_w, i32_w]
     rfl
    refine pui 6 16 49 127 HT_ ?_
    refine zp 7 (h := zp 8 (h := zp 9 (h := zp 10 (h := zp 11 (h := zw 12 (h := ?_))))))
    refine onei 13 23 49 16383 HT_ (fun K hK => ?_)
    refine goes_ Try.func51 (by kernel_rfl) rfl #[.int .i64 ((rd_T54 l0 Aa).f1)] (by rfl) rfl rfl pL ?_
    with_reducible refine (garnerref23_counts.calls ((rd_T54 l0 Aa).f1) false _ A6.out).mono ?_
    rintro e w' ⟨rfl, ⟨nd, rfl⟩⟩
    refine ⟨_, rfl, ?_⟩
    refine hK.out _ _ ⟨(cT HB.out Ab), (cT HB.out Ac)⟩ (fun hHeld => ?_)
    clear hK K
    refine norm_ (a' := ?_) ?_ ?_
    rotate_left
    ·show Act.put _ (some 23) _ = _
     simp only [Act.put, List.setIfInBounds_toArray, List.set_cons_zero, List.set_cons_succ, i64_w, i32_w]
     rfl
    refine pui 14 24 49 32767 HT_ ?_
    refine zp 15 (h := zp 16 (h := zq 17 (h := zq 18 (h := zq 19 (h := zq 20 (h := zq 21 (h := zq 22 (h := zq 23 (h := zq 24 (h := zq 25 (h := zq 26 (h := zq 27 (h := zq 28 (h := zq 29 (h := zq 30 (h := zq 31 (h := zq 32 (h := zq 33 (h := zq 34 (h := zq 35 (h := zq 36 (h := zq 37 (h := zq 38 (h := zq 39 (h := zq 40 (h := zq 41 (h := zq 42 (h := zq 43 (h := zq 44 (h := zq 45 (h := zq 46 (h := zq 47 (h := zp 48 (h := ?_))))))))))))))))))))))))))))))))))
    refine done_ (done_of HT_.out (by kernel_rfl)) ?_
    try go_wp2
    go_ret
    exact ⟨pX, pB HB.out⟩
   subst c7
   rw [if_pos rfl] at H
   by_cases c8 : Aa > 0
   rotate_left
   ·rw [if_neg c8] at H
    have c8b0 : decide (0 < Aa) = false := decide_eq_false c8
    clear c8
    have H' := Am H
    clear H
    try go_wp2
    replace HB := bDa HB
    have p317 : 0 ≤ (Aa : Int) := of_decide_eq_true pS
    have q317 : Aa < (l0.length : Int) := of_decide_eq_true pS
    obtain ⟨Af, Bm, c317_5, e317, Ag, Ah, Ai, Aj, Ak, Al, An, Ao, Ap, Aq, Ad, Ae, Ab, Ac, Ax, Ay, Az, A1, A2, A3, A5, A7⟩ := at_T54w HR0.out Aa p317 q317 HB.out
    cases e317
    have Ar := Am Ae
    have A8 := Am Ad
    clear Ae Ad
    replace p317 := eq_true p317
    replace q317 := eq_true q317
    refine start_ (n := 49) (S := fun w' => w'.cell? (Af.add ((Aa).toNat * 10)) = some (.int .i64 ((rd_T54 l0 Aa).f0)) ∧ cA w' (Af.add ((Aa).toNat * 10)) 1 (.int .i64 ((rd_T54 l0 Aa).f1))) (ds := []) #[false, false, false, false, false, false, false, false, false, false, false, false, false, false, false, false, false, false, false, false, false, false, false, false, false, false, false, false, false, false, false, false, false, false, false, false, false, false, false, false, false, false, false, false, false, false, false, false, false] (by kernel_rfl) rfl rfl ⟨(cT HB.out Ab), (cT HB.out Ac)⟩ (fun hHeld => ?_); refine with_tabW garnerref23_Rows.tab4 garnerref23_Rows.bits4 (fun HT_ HW_ => ?_)
    generalize wr.drew = w17 at HB Ar Ag Ah Ai Aj Ak Al An Ao Ap Aq hHeld ⊢
    refine pui 0 10 49 1 HT_ ?_
    refine zp 1 (h := zp 2 (h := zp 3 (h := zw 4 (h := ?_))))
    refine onei 5 15 49 63 HT_ (fun K hK => ?_)
    refine goes_ Try.func51 (by kernel_rfl) rfl #[.int .i64 ((rd_T54 l0 Aa).f0)] (by rfl) rfl rfl pL ?_
    with_reducible refine (garnerref23_counts.calls ((rd_T54 l0 Aa).f0) true _ A4.out).mono ?_
    rintro e w' ⟨rfl, ⟨nd, rfl⟩⟩
    refine ⟨_, rfl, ?_⟩
    refine hK.out _ _ ⟨(cT HB.out Ab), (cT HB.out Ac)⟩ (fun hHeld => ?_)
    clear hK K
    refine norm_ (a' := ?_) ?_ ?_
    rotate_left
    ·show Act.put _ (some 15) _ = _
     simp only [Act.put, List.setIfInBounds_toArray, List.set_cons_zero, List.set_cons_succ, i64_w, i32_w]
     rfl
    refine pui 6 16 49 127 HT_ ?_
    refine zp 7 (h := zp 8 (h := zp 9 (h := zp 10 (h := zp 11 (h := zw 12 (h := ?_))))))
    refine onei 13 23 49 16383 HT_ (fun K hK => ?_)
    refine goes_ Try.func51 (by kernel_rfl) rfl #[.int .i64 ((rd_T54 l0 Aa).f1)] (by rfl) rfl rfl pL ?_
    with_reducible refine (garnerref23_counts.calls ((rd_T54 l0 Aa).f1) true _ A6.out).mono ?_
    rintro e w' ⟨rfl, ⟨nd, rfl⟩⟩
    refine ⟨_, rfl, ?_⟩
    refine hK.out _ _ ⟨(cT HB.out Ab), (cT HB.out Ac)⟩ (fun hHeld => ?_)
    clear hK K
    refine norm_ (a' := ?_) ?_ ?_
    rotate_left
    ·show Act.put _ (some 23) _ = _
     simp only [Act.put, List.setIfInBounds_toArray, List.set_cons_zero, List.set_cons_succ, i64_w, i32_w]
     rfl
    refine pui 14 24 49 32767 HT_ ?_
    refine zp 15 (h := zp 16 (h := zp 17 (h := zp 18 (h := zp 19 (h := zq 20 (h := zq 21 (h := zq 22 (h := zq 23 (h := zq 24 (h := zq 25 (h := zq 26 (h := zq 27 (h := zq 28 (h := zq 29 (h := zq 30 (h := zq 31 (h := zq 32 (h := zq 33 (h := zq 34 (h := zq 35 (h := zq 36 (h := zq 37 (h := zq 38 (h := zq 39 (h := zq 40 (h := zq 41 (h := zq 42 (h := zq 43 (h := zq 44 (h := zq 45 (h := zq 46 (h := zp 47 (h := zp 48 (h := ?_))))))))))))))))))))))))))))))))))
    refine done_ (done_of HT_.out (by kernel_rfl)) ?_
    try go_wp2
    go_roundg k1
    case measure => have := HK1.out; omega
    case rel => exact ⟨(wrap64 (Aa + 1)), zr, H', ⟨by have := HK1.out; omega⟩, ⟨pB HB.out⟩⟩
   rw [if_pos c8] at H
   have c8b0 : decide (0 < Aa) = true := decide_eq_true c8
   clear c8
   obtain ⟨ji9, hji9⟩ : ∃ j_ : Int, (wrap64 (Aa - 1)) = j_ := ⟨_, rfl⟩
   replace H : (if 0 ≤ (ji9) then (if (ji9) < (l0.length : Int) then (if (wrap64 (((rd_T54 l0 Aa).f0) - 1)) = ((rd_T54 l0 (ji9)).f0) then (if ((rd_T54 l0 Aa).f1) < ((rd_T54 l0 (ji9)).f1) then (some false) else (garnerref23_Rows.l0 k1 l0 (wrap64 (Aa + 1)))) else (some false)) else (none)) else (none)) = some r := by first | (rw [hji9] at H; exact H) | (simp only [hji9] at H ⊢; exact H)
   (try rw [hji9] at A4)
   (try rw [hji9] at A6)
   have hji9w : (IntKind.i64.wrap (Aa - 1)) = ji9 := (i64_w _).trans hji9
   obtain ⟨c10, H⟩ := zI H
   have c10b0 := decide_eq_true c10
   clear c10
   obtain ⟨c11, H⟩ := zI H
   have c11b0 := decide_eq_true c11
   clear c11
   by_cases c12 : (wrap64 (((rd_T54 l0 Aa).f0) - 1)) = ((rd_T54 l0 (ji9)).f0)
   rotate_left
   ·rw [if_neg c12] at H
    obtain ⟨c12b0, c12b1⟩ := zk c12
    obtain rfl := Option.some.inj H
    try go_wp2
    replace HB := bDa HB
    have p317 : 0 ≤ (Aa : Int) := of_decide_eq_true pS
    have q317 : Aa < (l0.length : Int) := of_decide_eq_true pS
    obtain ⟨Af, Bm, c317_5, e317, Ag, Ah, Ai, Aj, Ak, Al, An, Ao, Ap, Aq, Ad, Ae, Ab, Ac, Ax, Ay, Az, A1, A2, A3, A5, A7⟩ := at_T54w HR0.out Aa p317 q317 HB.out
    cases e317
    have Ar := Am Ae
    have A8 := Am Ad
    clear Ae Ad
    replace p317 := eq_true p317
    replace q317 := eq_true q317
    have p322 : 0 ≤ ((ji9) : Int) := of_decide_eq_true pS
    have q322 : (ji9) < (l0.length : Int) := of_decide_eq_true pS
    obtain ⟨Bx, B9, c322_5, e322, A9, Ba, Bb, Bc, Bd, Av, Be, Bf, Bg, Bh, At, Au, As, By, Bz, B0, B1, B2, B3, B4, B5, B6⟩ := at_T54w HR0.out (ji9) p322 q322 HB.out
    obtain rfl : Af = Bx := (by injection e322)
    have Bi := Am Au
    have B7 := Am At
    clear Au At
    replace p322 := eq_true p322
    replace q322 := eq_true q322
    refine start_ (n := 49) (S := fun w' => w'.cell? (Af.add ((Aa).toNat * 10)) = some (.int .i64 ((rd_T54 l0 Aa).f0)) ∧ cA w' (Af.add ((Aa).toNat * 10)) 1 (.int .i64 ((rd_T54 l0 Aa).f1)) ∧ w'.cell? (Af.add (((ji9)).toNat * 10)) = some (.int .i64 ((rd_T54 l0 (ji9)).f0))) (ds := []) #[false, false, false, false, false, false, false, false, false, false, false, false, false, false, false, false, false, false, false, false, false, false, false, false, false, false, false, false, false, false, false, false, false, false, false, false, false, false, false, false, false, false, false, false, false, false, false, false, false] (by kernel_rfl) rfl rfl ⟨(cT HB.out Ab), (cT HB.out Ac), (cT HB.out As)⟩ (fun hHeld => ?_); refine with_tabW garnerref23_Rows.tab4 garnerref23_Rows.bits4 (fun HT_ HW_ => ?_)
    generalize wr.drew = w16 at HB Ar Bi Ag Ah Ai Aj Ak Al An Ao Ap Aq A9 Ba Bb Bc Bd Av Be Bf Bg Bh hHeld ⊢
    refine pui 0 10 49 1 HT_ ?_
    refine zp 1 (h := zp 2 (h := zp 3 (h := zw 4 (h := ?_))))
    refine onei 5 15 49 63 HT_ (fun K hK => ?_)
    refine goes_ Try.func51 (by kernel_rfl) rfl #[.int .i64 ((rd_T54 l0 Aa).f0)] (by rfl) rfl rfl pL ?_
    with_reducible refine (garnerref23_counts.calls ((rd_T54 l0 Aa).f0) true _ A4.out).mono ?_
    rintro e w' ⟨rfl, ⟨nd, rfl⟩⟩
    refine ⟨_, rfl, ?_⟩
    refine hK.out _ _ ⟨(cT HB.out Ab), (cT HB.out Ac), (cT HB.out As)⟩ (fun hHeld => ?_)
    clear hK K
    refine norm_ (a' := ?_) ?_ ?_
    rotate_left
    ·show Act.put _ (some 15) _ = _
     simp only [Act.put, List.setIfInBounds_toArray, List.set_cons_zero, List.set_cons_succ, i64_w, i32_w]
     rfl
    refine pui 6 16 49 127 HT_ ?_
    refine zp 7 (h := zp 8 (h := zp 9 (h := zp 10 (h := zp 11 (h := zw 12 (h := ?_))))))
    refine onei 13 23 49 16383 HT_ (fun K hK => ?_)
    refine goes_ Try.func51 (by kernel_rfl) rfl #[.int .i64 ((rd_T54 l0 Aa).f1)] (by rfl) rfl rfl pL ?_
    with_reducible refine (garnerref23_counts.calls ((rd_T54 l0 Aa).f1) true _ A6.out).mono ?_
    rintro e w' ⟨rfl, ⟨nd, rfl⟩⟩
    refine ⟨_, rfl, ?_⟩
    refine hK.out _ _ ⟨(cT HB.out Ab), (cT HB.out Ac), (cT HB.out As)⟩ (fun hHeld => ?_)
    clear hK K
    refine norm_ (a' := ?_) ?_ ?_
    rotate_left
    ·show Act.put _ (some 23) _ = _
     simp only [Act.put, List.setIfInBounds_toArray, List.set_cons_zero, List.set_cons_succ, i64_w, i32_w]
     rfl
    refine pui 14 24 49 32767 HT_ ?_
    refine zp 15 (h := zp 16 (h := zp 17 (h := zp 18 (h := zp 19 (h := zp 20 (h := zp 21 (h := zp 22 (h := zp 23 (h := zp 26 (h := zp 27 (h := zp 28 (h := zp 29 (h := zp 30 (h := zw 24 (h := zp 25 (h := zw 31 (h := zp 32 (h := zp 33 (h := zq 34 (h := zq 35 (h := zq 36 (h := zq 37 (h := zq 38 (h := zq 39 (h := zq 40 (h := zq 41 (h := zq 42 (h := zq 43 (h := zq 44 (h := zq 45 (h := zp 46 (h := zp 47 (h := zp 48 (h := ?_))))))))))))))))))))))))))))))))))
    refine done_ (done_of HT_.out (by kernel_rfl)) ?_
    try go_wp2
    go_ret
    exact ⟨by first | rfl | (simp [errW_none, errW_some] <;> rfl) | (simp only [← hji9]; first | rfl | (simp [errW_none, errW_some] <;> rfl)) | (simp [*, errW_none, errW_some] <;> rfl), pB HB.out⟩
   rw [if_pos c12] at H
   obtain ⟨c12b0, c12b1⟩ := zc c12
   clear c12
   by_cases c13 : ((rd_T54 l0 Aa).f1) < ((rd_T54 l0 (ji9)).f1)
   ·rw [if_pos c13] at H
    have c13b0 := decide_eq_true c13
    clear c13
    obtain rfl := Option.some.inj H
    try go_wp2
    replace HB := bDa HB
    have p317 : 0 ≤ (Aa : Int) := of_decide_eq_true pS
    have q317 : Aa < (l0.length : Int) := of_decide_eq_true pS
    obtain ⟨Af, Bm, c317_5, e317, Ag, Ah, Ai, Aj, Ak, Al, An, Ao, Ap, Aq, Ad, Ae, Ab, Ac, Ax, Ay, Az, A1, A2, A3, A5, A7⟩ := at_T54w HR0.out Aa p317 q317 HB.out
    cases e317
    have Ar := Am Ae
    have A8 := Am Ad
    clear Ae Ad
    replace p317 := eq_true p317
    replace q317 := eq_true q317
    have p322 : 0 ≤ ((ji9) : Int) := of_decide_eq_true pS
    have q322 : (ji9) < (l0.length : Int) := of_decide_eq_true pS
    obtain ⟨Bx, B9, c322_5, e322, A9, Ba, Bb, Bc, Bd, Av, Be, Bf, Bg, Bh, At, Au, As, By, Bz, B0, B1, B2, B3, B4, B5, B6⟩ := at_T54w HR0.out (ji9) p322 q322 HB.out
    obtain rfl : Af = Bx := (by injection e322)
    have Bi := Am Au
    have B7 := Am At
    clear Au At
    replace p322 := eq_true p322
    replace q322 := eq_true q322
    have p324 : 0 ≤ ((ji9) : Int) := of_decide_eq_true pS
    have q324 : (ji9) < (l0.length : Int) := of_decide_eq_true pS
    obtain ⟨B8, Ck, c324_5, e324, Bn, Bo, Bp, Bq, Br, Bj, Bs, Bt, Bu, Bv, Bk, Bl, Ca, Aw, Cb, Cc, Cd, Ce, Cf, Cg, Ch, Ci⟩ := at_T54w HR0.out (ji9) p324 q324 HB.out
    obtain rfl : Af = B8 := (by injection e324)
    have Bw := Am Bl
    have Cj := Am Bk
    clear Bl Bk
    replace p324 := eq_true p324
    replace q324 := eq_true q324
    have ea_ := Option.some.inj (Av.symm.trans Bj)
    injection ea_ with ea_ en_ ec_
    subst ea_
    subst ec_
    clear en_
    refine start_ (n := 49) (S := fun w' => w'.cell? (Af.add ((Aa).toNat * 10)) = some (.int .i64 ((rd_T54 l0 Aa).f0)) ∧ cA w' (Af.add ((Aa).toNat * 10)) 1 (.int .i64 ((rd_T54 l0 Aa).f1)) ∧ w'.cell? (Af.add (((ji9)).toNat * 10)) = some (.int .i64 ((rd_T54 l0 (ji9)).f0)) ∧ w'.cell? ⟨(Af.add (((ji9)).toNat * 10)).block, (Af.add (((ji9)).toNat * 10)).off + 1, none⟩ = some (.int .i64 ((rd_T54 l0 (ji9)).f1))) (ds := []) #[false, false, false, false, false, false, false, false, false, false, false, false, false, false, false, false, false, false, false, false, false, false, false, false, false, false, false, false, false, false, false, false, false, false, false, false, false, false, false, false, false, false, false, false, false, false, false, false, false] (by kernel_rfl) rfl rfl ⟨(cT HB.out Ab), (cT HB.out Ac), (cT HB.out As), (cT HB.out Aw)⟩ (fun hHeld => ?_); refine with_tabW garnerref23_Rows.tab4 garnerref23_Rows.bits4 (fun HT_ HW_ => ?_)
    generalize wr.drew = w14 at HB Ar Bi Bw Ag Ah Ai Aj Ak Al An Ao Ap Aq A9 Ba Bb Bc Bd Av Be Bf Bg Bh Bn Bo Bp Bq Br Bj Bs Bt Bu Bv hHeld ⊢
    refine pui 0 10 49 1 HT_ ?_
    refine zp 1 (h := zp 2 (h := zp 3 (h := zw 4 (h := ?_))))
    refine onei 5 15 49 63 HT_ (fun K hK => ?_)
    refine goes_ Try.func51 (by kernel_rfl) rfl #[.int .i64 ((rd_T54 l0 Aa).f0)] (by rfl) rfl rfl pL ?_
    with_reducible refine (garnerref23_counts.calls ((rd_T54 l0 Aa).f0) true _ A4.out).mono ?_
    rintro e w' ⟨rfl, ⟨nd, rfl⟩⟩
    refine ⟨_, rfl, ?_⟩
    refine hK.out _ _ ⟨(cT HB.out Ab), (cT HB.out Ac), (cT HB.out As), (cT HB.out Aw)⟩ (fun hHeld => ?_)
    clear hK K
    refine norm_ (a' := ?_) ?_ ?_
    rotate_left
    ·show Act.put _ (some 15) _ = _
     simp only [Act.put, List.setIfInBounds_toArray, List.set_cons_zero, List.set_cons_succ, i64_w, i32_w]
     rfl
    refine pui 6 16 49 127 HT_ ?_
    refine zp 7 (h := zp 8 (h := zp 9 (h := zp 10 (h := zp 11 (h := zw 12 (h := ?_))))))
    refine onei 13 23 49 16383 HT_ (fun K hK => ?_)
    refine goes_ Try.func51 (by kernel_rfl) rfl #[.int .i64 ((rd_T54 l0 Aa).f1)] (by rfl) rfl rfl pL ?_
    with_reducible refine (garnerref23_counts.calls ((rd_T54 l0 Aa).f1) true _ A6.out).mono ?_
    rintro e w' ⟨rfl, ⟨nd, rfl⟩⟩
    refine ⟨_, rfl, ?_⟩
    refine hK.out _ _ ⟨(cT HB.out Ab), (cT HB.out Ac), (cT HB.out As), (cT HB.out Aw)⟩ (fun hHeld => ?_)
    clear hK K
    refine norm_ (a' := ?_) ?_ ?_
    rotate_left
    ·show Act.put _ (some 23) _ = _
     simp only [Act.put, List.setIfInBounds_toArray, List.set_cons_zero, List.set_cons_succ, i64_w, i32_w]
     rfl
    refine pui 14 24 49 32767 HT_ ?_
    refine zp 15 (h := zp 16 (h := zp 17 (h := zp 18 (h := zp 19 (h := zp 20 (h := zp 21 (h := zp 22 (h := zp 23 (h := zp 26 (h := zp 27 (h := zp 28 (h := zp 29 (h := zp 30 (h := zw 24 (h := zp 25 (h := zw 31 (h := zp 32 (h := zp 33 (h := zp 34 (h := zp 35 (h := zp 36 (h := zp 37 (h := zp 39 (h := zp 40 (h := zp 41 (h := zp 42 (h := zp 43 (h := zw 38 (h := zw 44 (h := zp 45 (h := zp 46 (h := zp 47 (h := zp 48 (h := ?_))))))))))))))))))))))))))))))))))
    refine done_ (done_of HT_.out (by kernel_rfl)) ?_
    try go_wp2
    go_ret
    exact ⟨by first | rfl | (simp [errW_none, errW_some] <;> rfl) | (simp only [← hji9]; first | rfl | (simp [errW_none, errW_some] <;> rfl)) | (simp [*, errW_none, errW_some] <;> rfl), pB HB.out⟩
   rw [if_neg c13] at H
   have c13b0 := decide_eq_false c13
   clear c13
   have H' := Am H
   clear H
   try go_wp2
   replace HB := bDa HB
   have p317 : 0 ≤ (Aa : Int) := of_decide_eq_true pS
   have q317 : Aa < (l0.length : Int) := of_decide_eq_true pS
   obtain ⟨Af, Bm, c317_5, e317, Ag, Ah, Ai, Aj, Ak, Al, An, Ao, Ap, Aq, Ad, Ae, Ab, Ac, Ax, Ay, Az, A1, A2, A3, A5, A7⟩ := at_T54w HR0.out Aa p317 q317 HB.out
   cases e317
   have Ar := Am Ae
   have A8 := Am Ad
   clear Ae Ad
   replace p317 := eq_true p317
   replace q317 := eq_true q317
   have p322 : 0 ≤ ((ji9) : Int) := of_decide_eq_true pS
   have q322 : (ji9) < (l0.length : Int) := of_decide_eq_true pS
   obtain ⟨Bx, B9, c322_5, e322, A9, Ba, Bb, Bc, Bd, Av, Be, Bf, Bg, Bh, At, Au, As, By, Bz, B0, B1, B2, B3, B4, B5, B6⟩ := at_T54w HR0.out (ji9) p322 q322 HB.out
   obtain rfl : Af = Bx := (by injection e322)
   have Bi := Am Au
   have B7 := Am At
   clear Au At
   replace p322 := eq_true p322
   replace q322 := eq_true q322
   have p324 : 0 ≤ ((ji9) : Int) := of_decide_eq_true pS
   have q324 : (ji9) < (l0.length : Int) := of_decide_eq_true pS
   obtain ⟨B8, Ck, c324_5, e324, Bn, Bo, Bp, Bq, Br, Bj, Bs, Bt, Bu, Bv, Bk, Bl, Ca, Aw, Cb, Cc, Cd, Ce, Cf, Cg, Ch, Ci⟩ := at_T54w HR0.out (ji9) p324 q324 HB.out
   obtain rfl : Af = B8 := (by injection e324)
   have Bw := Am Bl
   have Cj := Am Bk
   clear Bl Bk
   replace p324 := eq_true p324
   replace q324 := eq_true q324
   have ea_ := Option.some.inj (Av.symm.trans Bj)
   injection ea_ with ea_ en_ ec_
   subst ea_
   subst ec_
   clear en_
   refine start_ (n := 49) (S := fun w' => w'.cell? (Af.add ((Aa).toNat * 10)) = some (.int .i64 ((rd_T54 l0 Aa).f0)) ∧ cA w' (Af.add ((Aa).toNat * 10)) 1 (.int .i64 ((rd_T54 l0 Aa).f1)) ∧ w'.cell? (Af.add (((ji9)).toNat * 10)) = some (.int .i64 ((rd_T54 l0 (ji9)).f0)) ∧ w'.cell? ⟨(Af.add (((ji9)).toNat * 10)).block, (Af.add (((ji9)).toNat * 10)).off + 1, none⟩ = some (.int .i64 ((rd_T54 l0 (ji9)).f1))) (ds := []) #[false, false, false, false, false, false, false, false, false, false, false, false, false, false, false, false, false, false, false, false, false, false, false, false, false, false, false, false, false, false, false, false, false, false, false, false, false, false, false, false, false, false, false, false, false, false, false, false, false] (by kernel_rfl) rfl rfl ⟨(cT HB.out Ab), (cT HB.out Ac), (cT HB.out As), (cT HB.out Aw)⟩ (fun hHeld => ?_); refine with_tabW garnerref23_Rows.tab4 garnerref23_Rows.bits4 (fun HT_ HW_ => ?_)
   generalize wr.drew = w15 at HB Ar Bi Bw Ag Ah Ai Aj Ak Al An Ao Ap Aq A9 Ba Bb Bc Bd Av Be Bf Bg Bh Bn Bo Bp Bq Br Bj Bs Bt Bu Bv hHeld ⊢
   refine pui 0 10 49 1 HT_ ?_
   refine zp 1 (h := zp 2 (h := zp 3 (h := zw 4 (h := ?_))))
   refine onei 5 15 49 63 HT_ (fun K hK => ?_)
   refine goes_ Try.func51 (by kernel_rfl) rfl #[.int .i64 ((rd_T54 l0 Aa).f0)] (by rfl) rfl rfl pL ?_
   with_reducible refine (garnerref23_counts.calls ((rd_T54 l0 Aa).f0) true _ A4.out).mono ?_
   rintro e w' ⟨rfl, ⟨nd, rfl⟩⟩
   refine ⟨_, rfl, ?_⟩
   refine hK.out _ _ ⟨(cT HB.out Ab), (cT HB.out Ac), (cT HB.out As), (cT HB.out Aw)⟩ (fun hHeld => ?_)
   clear hK K
   refine norm_ (a' := ?_) ?_ ?_
   rotate_left
   ·show Act.put _ (some 15) _ = _
    simp only [Act.put, List.setIfInBounds_toArray, List.set_cons_zero, List.set_cons_succ, i64_w, i32_w]
    rfl
   refine pui 6 16 49 127 HT_ ?_
   refine zp 7 (h := zp 8 (h := zp 9 (h := zp 10 (h := zp 11 (h := zw 12 (h := ?_))))))
   refine onei 13 23 49 16383 HT_ (fun K hK => ?_)
   refine goes_ Try.func51 (by kernel_rfl) rfl #[.int .i64 ((rd_T54 l0 Aa).f1)] (by rfl) rfl rfl pL ?_
   with_reducible refine (garnerref23_counts.calls ((rd_T54 l0 Aa).f1) true _ A6.out).mono ?_
   rintro e w' ⟨rfl, ⟨nd, rfl⟩⟩
   refine ⟨_, rfl, ?_⟩
   refine hK.out _ _ ⟨(cT HB.out Ab), (cT HB.out Ac), (cT HB.out As), (cT HB.out Aw)⟩ (fun hHeld => ?_)
   clear hK K
   refine norm_ (a' := ?_) ?_ ?_
   rotate_left
   ·show Act.put _ (some 23) _ = _
    simp only [Act.put, List.setIfInBounds_toArray, List.set_cons_zero, List.set_cons_succ, i64_w, i32_w]
    rfl
   refine pui 14 24 49 32767 HT_ ?_
   refine zp 15 (h := zp 16 (h := zp 17 (h := zp 18 (h := zp 19 (h := zp 20 (h := zp 21 (h := zp 22 (h := zp 23 (h := zp 26 (h := zp 27 (h := zp 28 (h := zp 29 (h := zp 30 (h := zw 24 (h := zp 25 (h := zw 31 (h := zp 32 (h := zp 33 (h := zp 34 (h := zp 35 (h := zp 36 (h := zp 37 (h := zp 39 (h := zp 40 (h := zp 41 (h := zp 42 (h := zp 43 (h := zw 38 (h := zw 44 (h := zp 45 (h := zp 46 (h := zp 47 (h := zp 48 (h := ?_))))))))))))))))))))))))))))))))))
   refine done_ (done_of HT_.out (by kernel_rfl)) ?_
   try go_wp2
   go_roundg k1
   case measure => have := HK1.out; omega
   case rel => exact ⟨(wrap64 (Aa + 1)), zr, H', ⟨by have := HK1.out; omega⟩, ⟨pB HB.out⟩⟩
end
section
attribute [local go_sem] max2_int min2_int max_two min_two max_three min_three max_four min_four
set_option maxHeartbeats 8000000
attribute [local go_sem] wrap64_l1 wrap64_l2 wrap64_l3 wrap64_l4 wrap64_l5
attribute [local go_sem high] eqA50
def garnerref23_May.j0 : Nat → Bool → Int → Int → List (S54) → Int → Int → Int → Int → Option (Bool)
 | 0, _, _, _, _, _, _, _, _ => none
 | k + 1, x47, x326000, x326001, x326002, x326003, x326004, x326005, x326006 => if x47 = true then (some false) else (if (x326002.length : Int) > 0 then (if 0 < (x326002.length : Int) then (if (wrap64 (((rd_T54 x326002 0).f0) - 1)) = x326000 then (if ((rd_T54 x326002 0).f1) < x326001 then (some false) else (if x326000 ≤ x326006 then (if x326006 ≤ x326005 then (some (decide (x326005 ≤ (wrap64 (x326000 + (x326002.length : Int)))))) else (some false)) else (some false))) else (some false)) else (none)) else (if x326000 ≤ x326006 then (if x326006 ≤ x326005 then (some (decide (x326005 ≤ (wrap64 (x326000 + (x326002.length : Int)))))) else (some false)) else (some false)))
def garnerref23_May.f (k : Nat) (a0_0 : Int) (a0_1 : Int) (l0_2 : List (S54)) (a0_3 : Int) (a0_4 : Int) (a0_5 : Int) (a0_6 : Int) : Option (Bool) := if a0_0 < 0 then (garnerref23_May.j0 k true a0_0 a0_1 l0_2 a0_3 a0_4 a0_5 a0_6) else (if a0_0 > 2147483647 then (garnerref23_May.j0 k true a0_0 a0_1 l0_2 a0_3 a0_4 a0_5 a0_6) else (if a0_1 < 0 then (garnerref23_May.j0 k true a0_0 a0_1 l0_2 a0_3 a0_4 a0_5 a0_6) else (if a0_1 > 2147483647 then (garnerref23_May.j0 k true a0_0 a0_1 l0_2 a0_3 a0_4 a0_5 a0_6) else (if ((a0_0 == 0) != (a0_1 == 0)) = true then (garnerref23_May.j0 k true a0_0 a0_1 l0_2 a0_3 a0_4 a0_5 a0_6) else (if (l0_2.length : Int) > 1000 then (garnerref23_May.j0 k true a0_0 a0_1 l0_2 a0_3 a0_4 a0_5 a0_6) else ((garnerref23_Rows.f k l0_2).bind fun t326 => (if t326 = true then ((garnerref22_May.f a0_3 a0_4 a0_5).bind fun t327 => (garnerref23_May.j0 k (!t327) a0_0 a0_1 l0_2 a0_3 a0_4 a0_5 a0_6)) else (garnerref23_May.j0 k true a0_0 a0_1 l0_2 a0_3 a0_4 a0_5 a0_6))))))))
theorem garnerref23_May.mono_l : ∀ k, (∀ y0 y1 y2 y3 y4 y5 y6 y7, LeO (garnerref23_May.j0 k y0 y1 y2 y3 y4 y5 y6 y7) (garnerref23_May.j0 (k + 1) y0 y1 y2 y3 y4 y5 y6 y7))
 | 0 => fun _ _ _ _ _ _ _ _ r h => by simp [garnerref23_May.j0] at h
 | k + 1 => by
  have ih0 := garnerref23_May.mono_l k
  ·intro y0 y1 y2 y3 y4 y5 y6 y7
   unfold garnerref23_May.j0
   repeat' (with_reducible first | exact ih0 .. | exact garnerref23_Rows.mono .. | exact LeO.refl .. | exact LeO.none .. | refine LeO.ite ?_ ?_ | refine LeO.bind ?_ (fun _ => ?_))
theorem garnerref23_May.mono : ∀ a0 a1 a2 a3 a4 a5 a6 k, LeO (garnerref23_May.f k a0 a1 a2 a3 a4 a5 a6) (garnerref23_May.f (k + 1) a0 a1 a2 a3 a4 a5 a6) := by
 intro a0 a1 a2 a3 a4 a5 a6 k
 have ih0 := garnerref23_May.mono_l k
 unfold garnerref23_May.f
 repeat' (with_reducible first | exact ih0 .. | exact garnerref23_Rows.mono .. | exact LeO.refl .. | exact LeO.none .. | refine LeO.ite ?_ ?_ | refine LeO.bind ?_ (fun _ => ?_))
set_option maxRecDepth 100000 in
theorem garnerref23_May.calls (k : Nat) (a0_0 : Int) (a0_1 : Int) (A0_2 : Option Addr) (c0_2 : Nat) (l0_2 : List (S54)) (a0_3 : Int) (a0_4 : Int) (a0_5 : Int) (a0_6 : Int) (r : Bool) (w : World) (hr0_2 : Kd.C k54 w A0_2 l0_2.length l0_2) (hc0_2 : l0_2.length ≤ c0_2) (h : garnerref23_May.f k a0_0 a0_1 l0_2 a0_3 a0_4 a0_5 a0_6 = some r) :
 Calls Try.prog 14 #[.agg #[.int .i64 a0_0, .int .i64 a0_1, .slice A0_2 l0_2.length c0_2, .int .i64 a0_3, .int .i64 a0_4, .int .i64 a0_5, .int .i64 a0_6]] w fun e w' => e = .returned (.bool r) ∧ Below w.heap.size w w' := by
 have hu26 := Try.underlying26
 have hu24 := Try.underlying24
 have Ag := Am hr0_2
 have Az := Am hc0_2
 clear hr0_2 hc0_2
 have HB := Am (Below.refl w.heap.size w)
 unfold garnerref23_May.f at h
 have H := h
 clear h
 have HC2 := Am H
 clear H
 go_enter Try.func14, Try.ntmps14
 go_upto_region 1 with (first | ((with_reducible refine zD 1 rfl ?_); (try (refine gate_guard (by rfl) ?_; dsimp only)); refine zE 1 #[.int .i64 a0_0, .int .i64 a0_1, .slice A0_2 l0_2.length c0_2, .int .i64 a0_3, .int .i64 a0_4, .int .i64 a0_5, .int .i64 a0_6] 26 ?_; intro A0 hg w3 hbox hb; have Aa := Am (hbox); have Br := zA hg HB; replace HB := zB HB hb; have Ab := Br; clear hb hbox hg))
 repeat (go_quiet (first | ((with_reducible refine zD 1 rfl ?_); (try (refine gate_guard (by rfl) ?_; dsimp only)); refine zE 1 #[.int .i64 a0_0, .int .i64 a0_1, .slice A0_2 l0_2.length c0_2, .int .i64 a0_3, .int .i64 a0_4, .int .i64 a0_5, .int .i64 a0_6] 26 ?_; intro A0 hg w3 hbox hb; have Aa := Am (hbox); have Br := zA hg HB; replace HB := zB HB hb; have Ab := Br; clear hb hbox hg)); go_upto_region 1 with (first | ((with_reducible refine zD 1 rfl ?_); (try (refine gate_guard (by rfl) ?_; dsimp only)); refine zE 1 #[.int .i64 a0_0, .int .i64 a0_1, .slice A0_2 l0_2.length c0_2, .int .i64 a0_3, .int .i64 a0_4, .int .i64 a0_5, .int .i64 a0_6] 26 ?_; intro A0 hg w3 hbox hb; have Aa := Am (hbox); have Br := zA hg HB; replace HB := zB HB hb; have Ab := Br; clear hb hbox hg)))
 (try simp only [Act.put, List.setIfInBounds_toArray, List.set_cons_zero, List.set_cons_succ])
 go_cut [47] (fun v47 wc => ∃ (kq : Nat) (Bt : Bool), v47 = .bool Bt ∧ Aside0 (garnerref23_May.j0 kq Bt a0_0 a0_1 l0_2 a0_3 a0_4 a0_5 a0_6 = some r) ∧ Aside0 (kq ≤ k) ∧ Aside0 (wc.heap[A0]? = some (.cells #[.int .i64 a0_0, .int .i64 a0_1, (.slice A0_2 l0_2.length c0_2), .int .i64 a0_3, .int .i64 a0_4, .int .i64 a0_5, .int .i64 a0_6] 26 (0, 0))) ∧ Aside0 (Below w.heap.size w wc))
 case first =>
  have H := HC2.out
  clear HC2
  by_cases c4 : a0_0 < 0
  ·rw [if_pos c4] at H
   have c4b0 := decide_eq_true c4
   clear c4
   (first | rw [c4b0] | (simp only [i64_w, i32_w]; rw [c4b0]) | skip)
   have H' := Am H
   clear H
   obtain ⟨Ds, Dt, Du, Dv, Dw, Dx, Dy⟩ := bc7 Aa.out
   obtain ⟨Dz, D0, D1, D2, D3, D4, D5⟩ := bf7 Aa.out
   go_wp2
   repeat (go_quiet (fail); try go_wp2)
   go_meet
   case rel => exact ⟨_, (true), zr, H', ⟨zo⟩, ⟨pK Aa.out⟩, ⟨pE HB.out Ab.out⟩⟩
  rw [if_neg c4] at H
  have c4b0 := decide_eq_false c4
  clear c4
  (first | rw [c4b0] | (simp only [i64_w, i32_w]; rw [c4b0]) | skip)
  by_cases c6 : a0_0 > 2147483647
  ·rw [if_pos c6] at H
   have c6b0 : decide (2147483647 < a0_0) = true := decide_eq_true c6
   clear c6
   have H' := Am H
   clear H
   obtain ⟨D6, D7, D8, D9, Ea, Eb, Ec⟩ := bc7 Aa.out
   obtain ⟨Ed, Ee, Ef, Eg, Eh, Ei, Ej⟩ := bf7 Aa.out
   go_wp2
   repeat (go_quiet (fail); try go_wp2)
   go_meet
   case rel => exact ⟨_, (true), zr, H', ⟨zo⟩, ⟨pK Aa.out⟩, ⟨pE HB.out Ab.out⟩⟩
  rw [if_neg c6] at H
  have c6b0 : decide (2147483647 < a0_0) = false := decide_eq_false c6
  clear c6
  by_cases c8 : a0_1 < 0
  ·rw [if_pos c8] at H
   have c8b0 := decide_eq_true c8
   clear c8
   have H' := Am H
   clear H
   obtain ⟨Ek, El, Em, En, Eo, Ep, Er⟩ := bc7 Aa.out
   obtain ⟨Es, Et, Eu, Ew, Ex, Ey, Ez⟩ := bf7 Aa.out
   go_wp2
   repeat (go_quiet (fail); try go_wp2)
   go_meet
   case rel => exact ⟨_, (true), zr, H', ⟨zo⟩, ⟨pK Aa.out⟩, ⟨pE HB.out Ab.out⟩⟩
  rw [if_neg c8] at H
  have c8b0 := decide_eq_false c8
  clear c8
  by_cases c10 : a0_1 > 2147483647
  ·rw [if_pos c10] at H
   have c10b0 : decide (2147483647 < a0_1) = true := decide_eq_true c10
   clear c10
   have H' := Am H
   clear H
   obtain ⟨Bu, Bv, Bw, Bx, By, Bz, B0⟩ := bc7 Aa.out
   obtain ⟨B1, B2, B3, B4, B5, B6, B7⟩ := bf7 Aa.out
   go_wp2
   repeat (go_quiet (fail); try go_wp2)
   go_meet
   case rel => exact ⟨_, (true), zr, H', ⟨zo⟩, ⟨pK Aa.out⟩, ⟨pE HB.out Ab.out⟩⟩
  rw [if_neg c10] at H
  have c10b0 : decide (2147483647 < a0_1) = false := decide_eq_false c10
  clear c10
  by_cases c12 : ((a0_0 == 0) != (a0_1 == 0)) = true
  ·rw [if_pos c12] at H
   have c12b0 : ((a0_0 == 0) != (a0_1 == 0)) = true := c12
   (try (have c12b1 : decide ((a0_0 == 0) = (a0_1 == 0)) = false := by simpa using c12))
   (try (have c12b2 : ((a0_0 == 0) == (a0_1 == 0)) = false := by simpa using c12))
   (try (have c12b3 : ¬ ((a0_0 == 0) = (a0_1 == 0)) := by simpa using c12))
   clear c12
   have H' := Am H
   clear H
   obtain ⟨B8, B9, Ca, Cb, Cc, Cd, Ce⟩ := bc7 Aa.out
   obtain ⟨Cf, Cg, Ch, Ci, Cj, Ck, Cl⟩ := bf7 Aa.out
   go_wp2
   repeat (go_quiet (fail); try go_wp2)
   go_meet
   case rel => exact ⟨_, (true), zr, H', ⟨zo⟩, ⟨pK Aa.out⟩, ⟨pE HB.out Ab.out⟩⟩
  rw [if_neg c12] at H
  have c12b0 : ((a0_0 == 0) != (a0_1 == 0)) = false := by simpa using c12
  (try (have c12b1 : decide ((a0_0 == 0) = (a0_1 == 0)) = true := by simpa using c12))
  (try (have c12b2 : ((a0_0 == 0) == (a0_1 == 0)) = true := by simpa using c12))
  clear c12
  by_cases c14 : (l0_2.length : Int) > 1000
  ·rw [if_pos c14] at H
   have c14b0 : decide (1000 < (l0_2.length : Int)) = true := decide_eq_true c14
   have c14b1 : decide (1000 < l0_2.length) = true := decide_eq_true (by omega)
   clear c14
   have H' := Am H
   clear H
   obtain ⟨Cm, Cn, Co, Cp, Cq, Cr, Cs⟩ := bc7 Aa.out
   obtain ⟨Ct, Cu, Cv, Cw, Cx, Cy, Cz⟩ := bf7 Aa.out
   go_wp2
   repeat (go_quiet (fail); try go_wp2)
   go_meet
   case rel => exact ⟨_, (true), zr, H', ⟨zo⟩, ⟨pK Aa.out⟩, ⟨pE HB.out Ab.out⟩⟩
  rw [if_neg c14] at H
  have c14b0 : decide (1000 < (l0_2.length : Int)) = false := decide_eq_false c14
  have c14b1 : decide (1000 < l0_2.length) = false := decide_eq_false (by omega)
  clear c14
  obtain ⟨t326, A16, H⟩ := zb H
  by_cases c17 : t326 = true
  rotate_left
  ·replace c17 := Bool.eq_false_iff.mpr c17
   subst c17
   rw [if_neg zF] at H
   have H' := Am H
   clear H
   obtain ⟨De, Df, Dg, Dh, Di, Dj, Dk⟩ := bc7 Aa.out
   obtain ⟨Dl, Dm, Dn, Do, Dp, Dq, Dr⟩ := bf7 Aa.out
   go_wp2_with (first | (go_at_call 31; (with_reducible refine (garnerref23_Rows.calls k _ _ l0_2 false _ ?Aj ?Ak A16.out).mono ?_); (case Aj => exact pC (Kd.C_below Ag.out HB.out)); (case Ak => exact Az.out); rintro e w24 ⟨rfl, hb⟩; replace Aa := kBa Aa hb; replace HB := zX1 HB Ab.out hb; (try clear hb)))
   repeat (go_quiet (first | (go_at_call 31; (with_reducible refine (garnerref23_Rows.calls k _ _ l0_2 false _ ?Aj ?Ak A16.out).mono ?_); (case Aj => exact pC (Kd.C_below Ag.out HB.out)); (case Ak => exact Az.out); rintro e w24 ⟨rfl, hb⟩; replace Aa := kBa Aa hb; replace HB := zX1 HB Ab.out hb; (try clear hb))); try go_wp2_with (first | (go_at_call 31; (with_reducible refine (garnerref23_Rows.calls k _ _ l0_2 false _ ?Aj ?Ak A16.out).mono ?_); (case Aj => exact pC (Kd.C_below Ag.out HB.out)); (case Ak => exact Az.out); rintro e w24 ⟨rfl, hb⟩; replace Aa := kBa Aa hb; replace HB := zX1 HB Ab.out hb; (try clear hb))))
   go_meet
   case rel => exact ⟨_, (true), zr, H', ⟨zo⟩, ⟨pK Aa.out⟩, ⟨pE HB.out Ab.out⟩⟩
  subst c17
  rw [if_pos rfl] at H
  obtain ⟨t327, A18, H⟩ := zb H
  have H' := Am H
  clear H
  obtain ⟨C0, C1, C2, C3, C4, C5, C6⟩ := bc7 Aa.out
  obtain ⟨C7, C8, C9, Da, Db, Dc, Dd⟩ := bf7 Aa.out
  go_wp2_with (first | (go_at_call 31; (with_reducible refine (garnerref23_Rows.calls k _ _ l0_2 true _ ?Aj ?Ak A16.out).mono ?_); (case Aj => exact pC (Kd.C_below Ag.out HB.out)); (case Ak => exact Az.out); rintro e w20 ⟨rfl, hb⟩; replace Aa := kBa Aa hb; replace HB := zX1 HB Ab.out hb; (try clear hb); obtain ⟨A2, A3, A4, A5, A6, A7, A8⟩ := bc7 Aa.out; obtain ⟨A9, Ba, Bb, Bc, Bd, Be, Bf⟩ := bf7 Aa.out) | (go_at_call 23; (with_reducible refine (garnerref22_May.calls a0_3 a0_4 a0_5 t327 _ A18.out).mono ?_); rintro e w22 ⟨rfl, hb⟩; replace Aa := kBa Aa hb; replace HB := zX1 HB Ab.out hb; (try clear hb)))
  repeat (go_quiet (first | (go_at_call 31; (with_reducible refine (garnerref23_Rows.calls k _ _ l0_2 true _ ?Aj ?Ak A16.out).mono ?_); (case Aj => exact pC (Kd.C_below Ag.out HB.out)); (case Ak => exact Az.out); rintro e w20 ⟨rfl, hb⟩; replace Aa := kBa Aa hb; replace HB := zX1 HB Ab.out hb; (try clear hb); obtain ⟨A2, A3, A4, A5, A6, A7, A8⟩ := bc7 Aa.out; obtain ⟨A9, Ba, Bb, Bc, Bd, Be, Bf⟩ := bf7 Aa.out) | (go_at_call 23; (with_reducible refine (garnerref22_May.calls a0_3 a0_4 a0_5 t327 _ A18.out).mono ?_); rintro e w22 ⟨rfl, hb⟩; replace Aa := kBa Aa hb; replace HB := zX1 HB Ab.out hb; (try clear hb))); try go_wp2_with (first | (go_at_call 31; (with_reducible refine (garnerref23_Rows.calls k _ _ l0_2 true _ ?Aj ?Ak A16.out).mono ?_); (case Aj => exact pC (Kd.C_below Ag.out HB.out)); (case Ak => exact Az.out); rintro e w20 ⟨rfl, hb⟩; replace Aa := kBa Aa hb; replace HB := zX1 HB Ab.out hb; (try clear hb); obtain ⟨A2, A3, A4, A5, A6, A7, A8⟩ := bc7 Aa.out; obtain ⟨A9, Ba, Bb, Bc, Bd, Be, Bf⟩ := bf7 Aa.out) | (go_at_call 23; (with_reducible refine (garnerref22_May.calls a0_3 a0_4 a0_5 t327 _ A18.out).mono ?_); rintro e w22 ⟨rfl, hb⟩; replace Aa := kBa Aa hb; replace HB := zX1 HB Ab.out hb; (try clear hb))))
  go_meet
  case rel => exact ⟨_, (!t327), zr, H', ⟨zo⟩, ⟨pK Aa.out⟩, ⟨pE HB.out Ab.out⟩⟩
 case rest =>
  clear HC2
  try clear c1
  try clear p2
  try clear c4
  try clear c4b0
  try clear c6
  try clear c6b0
  try clear c8
  try clear c8b0
  try clear c10
  try clear c10b0
  try clear c12
  try clear c12b0
  try clear c12b1
  try clear c12b2
  try clear c14
  try clear c14b0
  try clear c14b1
  try clear c17
  try clear Bu Bv Bw Bx By Bz B0
  try clear B8 B9 Ca Cb Cc Cd Ce
  try clear Cm Cn Co Cp Cq Cr Cs
  try clear C0 C1 C2 C3 C4 C5 C6
  try clear A2 A3 A4 A5 A6 A7 A8
  try clear De Df Dg Dh Di Dj Dk
  try clear Ds Dt Du Dv Dw Dx Dy
  try clear D6 D7 D8 D9 Ea Eb Ec
  try clear Ek El Em En Eo Ep Er
  try clear B1 B2 B3 B4 B5 B6 B7
  try clear Cf Cg Ch Ci Cj Ck Cl
  try clear Ct Cu Cv Cw Cx Cy Cz
  try clear C7 C8 C9 Da Db Dc Dd
  try clear A9 Ba Bb Bc Bd Be Bf
  try clear Dl Dm Dn Do Dp Dq Dr
  try clear Dz D0 D1 D2 D3 D4 D5
  try clear Ed Ee Ef Eg Eh Ei Ej
  try clear Es Et Eu Ew Ex Ey Ez
  obtain ⟨kq, Bt, rfl, HA, HJ1, Aa, HB⟩ := hcut
  cases kq with
  | zero => exact absurd HA.out (by simp [garnerref23_May.j0])
  | succ kj1 =>
   have H := HA.out
   clear HA
   simp only [garnerref23_May.j0] at H
   by_cases c25 : Bt = true
   ·subst c25
    rw [if_pos rfl] at H
    obtain rfl := Option.some.inj H
    go_wp2
    repeat (go_quiet (fail); try go_wp2)
    go_ret
    exact ⟨pX, pE HB.out Ab.out⟩
   replace c25 := Bool.eq_false_iff.mpr c25
   subst c25
   rw [if_neg zF] at H
   by_cases c26 : (l0_2.length : Int) > 0
   rotate_left
   ·rw [if_neg c26] at H
    have c26b0 : decide (0 < (l0_2.length : Int)) = false := decide_eq_false c26
    have c26b1 : decide (0 < l0_2.length) = false := decide_eq_false (by omega)
    clear c26
    by_cases c37 : a0_0 ≤ a0_6
    rotate_left
    ·rw [if_neg c37] at H
     have c37b0 := decide_eq_false c37
     clear c37
     obtain rfl := Option.some.inj H
     obtain ⟨_, _, _, _, _, _, _⟩ := bc7 Aa.out
     obtain ⟨_, _, _, _, _, _, _⟩ := bf7 Aa.out
     go_wp2
     repeat (go_quiet (fail); try go_wp2)
     go_ret
     exact ⟨pX, pE HB.out Ab.out⟩
    rw [if_pos c37] at H
    have c37b0 := decide_eq_true c37
    clear c37
    by_cases c38 : a0_6 ≤ a0_5
    ·rw [if_pos c38] at H
     have c38b0 := decide_eq_true c38
     clear c38
     obtain rfl := Option.some.inj H
     obtain ⟨_, _, _, _, _, _, _⟩ := bc7 Aa.out
     obtain ⟨_, _, _, _, _, _, _⟩ := bf7 Aa.out
     go_wp2
     repeat (go_quiet (fail); try go_wp2)
     go_ret
     exact ⟨pX, pE HB.out Ab.out⟩
    rw [if_neg c38] at H
    have c38b0 := decide_eq_false c38
    clear c38
    obtain rfl := Option.some.inj H
    obtain ⟨_, _, _, _, _, _, _⟩ := bc7 Aa.out
    obtain ⟨_, _, _, _, _, _, _⟩ := bf7 Aa.out
    go_wp2
    repeat (go_quiet (fail); try go_wp2)
    go_ret
    exact ⟨pX, pE HB.out Ab.out⟩
   rw [if_pos c26] at H
   have c26b0 : decide (0 < (l0_2.length : Int)) = true := decide_eq_true c26
   have c26b1 : decide (0 < l0_2.length) = true := decide_eq_true (by omega)
   clear c26
   obtain ⟨c27, H⟩ := zI H
   have c27b0 := decide_eq_true c27
   have c27b1 : decide (0 < l0_2.length) = true := decide_eq_true (by omega)
   clear c27
   by_cases c28 : (wrap64 (((rd_T54 l0_2 0).f0) - 1)) = a0_0
   rotate_left
   ·rw [if_neg c28] at H
    obtain ⟨c28b0, c28b1⟩ := zk c28
    obtain rfl := Option.some.inj H
    obtain ⟨_, _, _, _, _, _, _⟩ := bc7 Aa.out
    obtain ⟨_, _, _, _, _, _, _⟩ := bf7 Aa.out
    have p328 : 0 ≤ (0 : Int) := (by omega)
    have q328 : 0 < (l0_2.length : Int) := of_decide_eq_true pS
    obtain ⟨Al, A1, c328_5, e328, An, Ao, Ap, Aq, Ar, Ah, As, At, Au, Av, Ac, Ad⟩ := at_T54uz Ag.out p328 q328 HB.out
    cases e328
    have qi328 : (0 < l0_2.length) = True := eq_true (by omega)
    have Aw := Am Ad
    have Ax := Am Ac
    clear Ad Ac
    replace p328 := eq_true p328
    replace q328 := eq_true q328
    go_wp2
    repeat (go_quiet (fail); try go_wp2)
    go_ret
    exact ⟨pX, pE HB.out Ab.out⟩
   rw [if_pos c28] at H
   obtain ⟨c28b0, c28b1⟩ := zc c28
   clear c28
   by_cases c29 : ((rd_T54 l0_2 0).f1) < a0_1
   ·rw [if_pos c29] at H
    have c29b0 := decide_eq_true c29
    clear c29
    obtain rfl := Option.some.inj H
    obtain ⟨_, _, _, _, _, _, _⟩ := bc7 Aa.out
    obtain ⟨_, _, _, _, _, _, _⟩ := bf7 Aa.out
    have p328 : 0 ≤ (0 : Int) := (by omega)
    have q328 : 0 < (l0_2.length : Int) := of_decide_eq_true pS
    obtain ⟨Al, A1, c328_5, e328, An, Ao, Ap, Aq, Ar, Ah, As, At, Au, Av, Ac, Ad⟩ := at_T54uz Ag.out p328 q328 HB.out
    cases e328
    have qi328 : (0 < l0_2.length) = True := eq_true (by omega)
    have Aw := Am Ad
    have Ax := Am Ac
    clear Ad Ac
    replace p328 := eq_true p328
    replace q328 := eq_true q328
    have p329 : 0 ≤ (0 : Int) := (by omega)
    have q329 : 0 < (l0_2.length : Int) := of_decide_eq_true pS
    obtain ⟨Ay, Bs, c329_5, e329, Bg, Bh, Bi, Bj, Bk, Ai, Bl, Bm, Bn, Bo, Ae, Af⟩ := at_T54uz Ag.out p329 q329 HB.out
    obtain rfl : Al = Ay := (by injection e329)
    have qi329 : (0 < l0_2.length) = True := eq_true (by omega)
    have Bp := Am Af
    have Bq := Am Ae
    clear Af Ae
    replace p329 := eq_true p329
    replace q329 := eq_true q329
    have ea_ := Option.some.inj (Ah.symm.trans Ai)
    injection ea_ with ea_ en_ ec_
    subst ea_
    subst ec_
    clear en_
    go_wp2
    repeat (go_quiet (fail); try go_wp2)
    go_ret
    exact ⟨pX, pE HB.out Ab.out⟩
   rw [if_neg c29] at H
   have c29b0 := decide_eq_false c29
   clear c29
   by_cases c31 : a0_0 ≤ a0_6
   rotate_left
   ·rw [if_neg c31] at H
    have c31b0 := decide_eq_false c31
    clear c31
    obtain rfl := Option.some.inj H
    obtain ⟨_, _, _, _, _, _, _⟩ := bc7 Aa.out
    obtain ⟨_, _, _, _, _, _, _⟩ := bf7 Aa.out
    have p328 : 0 ≤ (0 : Int) := (by omega)
    have q328 : 0 < (l0_2.length : Int) := of_decide_eq_true pS
    obtain ⟨Al, A1, c328_5, e328, An, Ao, Ap, Aq, Ar, Ah, As, At, Au, Av, Ac, Ad⟩ := at_T54uz Ag.out p328 q328 HB.out
    cases e328
    have qi328 : (0 < l0_2.length) = True := eq_true (by omega)
    have Aw := Am Ad
    have Ax := Am Ac
    clear Ad Ac
    replace p328 := eq_true p328
    replace q328 := eq_true q328
    have p329 : 0 ≤ (0 : Int) := (by omega)
    have q329 : 0 < (l0_2.length : Int) := of_decide_eq_true pS
    obtain ⟨Ay, Bs, c329_5, e329, Bg, Bh, Bi, Bj, Bk, Ai, Bl, Bm, Bn, Bo, Ae, Af⟩ := at_T54uz Ag.out p329 q329 HB.out
    obtain rfl : Al = Ay := (by injection e329)
    have qi329 : (0 < l0_2.length) = True := eq_true (by omega)
    have Bp := Am Af
    have Bq := Am Ae
    clear Af Ae
    replace p329 := eq_true p329
    replace q329 := eq_true q329
    have ea_ := Option.some.inj (Ah.symm.trans Ai)
    injection ea_ with ea_ en_ ec_
    subst ea_
    subst ec_
    clear en_
    go_wp2
    repeat (go_quiet (fail); try go_wp2)
    go_ret
    exact ⟨pX, pE HB.out Ab.out⟩
   rw [if_pos c31] at H
   have c31b0 := decide_eq_true c31
   clear c31
   by_cases c32 : a0_6 ≤ a0_5
   ·rw [if_pos c32] at H
    have c32b0 := decide_eq_true c32
    clear c32
    obtain rfl := Option.some.inj H
    obtain ⟨_, _, _, _, _, _, _⟩ := bc7 Aa.out
    obtain ⟨_, _, _, _, _, _, _⟩ := bf7 Aa.out
    have p328 : 0 ≤ (0 : Int) := (by omega)
    have q328 : 0 < (l0_2.length : Int) := of_decide_eq_true pS
    obtain ⟨Al, A1, c328_5, e328, An, Ao, Ap, Aq, Ar, Ah, As, At, Au, Av, Ac, Ad⟩ := at_T54uz Ag.out p328 q328 HB.out
    cases e328
    have qi328 : (0 < l0_2.length) = True := eq_true (by omega)
    have Aw := Am Ad
    have Ax := Am Ac
    clear Ad Ac
    replace p328 := eq_true p328
    replace q328 := eq_true q328
    have p329 : 0 ≤ (0 : Int) := (by omega)
    have q329 : 0 < (l0_2.length : Int) := of_decide_eq_true pS
    obtain ⟨Ay, Bs, c329_5, e329, Bg, Bh, Bi, Bj, Bk, Ai, Bl, Bm, Bn, Bo, Ae, Af⟩ := at_T54uz Ag.out p329 q329 HB.out
    obtain rfl : Al = Ay := (by injection e329)
    have qi329 : (0 < l0_2.length) = True := eq_true (by omega)
    have Bp := Am Af
    have Bq := Am Ae
    clear Af Ae
    replace p329 := eq_true p329
    replace q329 := eq_true q329
    have ea_ := Option.some.inj (Ah.symm.trans Ai)
    injection ea_ with ea_ en_ ec_
    subst ea_
    subst ec_
    clear en_
    go_wp2
    repeat (go_quiet (fail); try go_wp2)
    go_ret
    exact ⟨pX, pE HB.out Ab.out⟩
   rw [if_neg c32] at H
   have c32b0 := decide_eq_false c32
   clear c32
   obtain rfl := Option.some.inj H
   obtain ⟨_, _, _, _, _, _, _⟩ := bc7 Aa.out
   obtain ⟨_, _, _, _, _, _, _⟩ := bf7 Aa.out
   have p328 : 0 ≤ (0 : Int) := (by omega)
   have q328 : 0 < (l0_2.length : Int) := of_decide_eq_true pS
   obtain ⟨Al, A1, c328_5, e328, An, Ao, Ap, Aq, Ar, Ah, As, At, Au, Av, Ac, Ad⟩ := at_T54uz Ag.out p328 q328 HB.out
   cases e328
   have qi328 : (0 < l0_2.length) = True := eq_true (by omega)
   have Aw := Am Ad
   have Ax := Am Ac
   clear Ad Ac
   replace p328 := eq_true p328
   replace q328 := eq_true q328
   have p329 : 0 ≤ (0 : Int) := (by omega)
   have q329 : 0 < (l0_2.length : Int) := of_decide_eq_true pS
   obtain ⟨Ay, Bs, c329_5, e329, Bg, Bh, Bi, Bj, Bk, Ai, Bl, Bm, Bn, Bo, Ae, Af⟩ := at_T54uz Ag.out p329 q329 HB.out
   obtain rfl : Al = Ay := (by injection e329)
   have qi329 : (0 < l0_2.length) = True := eq_true (by omega)
   have Bp := Am Af
   have Bq := Am Ae
   clear Af Ae
   replace p329 := eq_true p329
   replace q329 := eq_true q329
   have ea_ := Option.some.inj (Ah.symm.trans Ai)
   injection ea_ with ea_ en_ ec_
   subst ea_
   subst ec_
   clear en_
   go_wp2
   repeat (go_quiet (fail); try go_wp2)
   go_ret
   exact ⟨pX, pE HB.out Ab.out⟩
def garnerref24_Base.f (k : Nat) (a0_0 : Int) (a0_1 : Int) (l0_2 : List (S54)) (a0_3 : Int) (a0_4 : Int) (a0_5 : Int) (a0_6 : Int) : Option (Bool) := (garnerref23_May.f k a0_0 a0_1 l0_2 a0_3 a0_4 a0_5 a0_6).bind fun t331 => (if t331 = true then (some ((l0_2.length : Int) == 0)) else (some false))
theorem garnerref24_Base.mono : ∀ a0 a1 a2 a3 a4 a5 a6 k, LeO (garnerref24_Base.f k a0 a1 a2 a3 a4 a5 a6) (garnerref24_Base.f (k + 1) a0 a1 a2 a3 a4 a5 a6) := by
 intro a0 a1 a2 a3 a4 a5 a6 k
 unfold garnerref24_Base.f
 repeat' (with_reducible first | exact garnerref23_May.mono .. | exact LeO.refl .. | exact LeO.none .. | refine LeO.ite ?_ ?_ | refine LeO.bind ?_ (fun _ => ?_))
set_option maxRecDepth 100000 in
theorem garnerref24_Base.calls (k : Nat) (a0_0 : Int) (a0_1 : Int) (A0_2 : Option Addr) (c0_2 : Nat) (l0_2 : List (S54)) (a0_3 : Int) (a0_4 : Int) (a0_5 : Int) (a0_6 : Int) (r : Bool) (w : World) (hr0_2 : Kd.C k54 w A0_2 l0_2.length l0_2) (hc0_2 : l0_2.length ≤ c0_2) (h : garnerref24_Base.f k a0_0 a0_1 l0_2 a0_3 a0_4 a0_5 a0_6 = some r) :
 Calls Try.prog 9 #[.agg #[.int .i64 a0_0, .int .i64 a0_1, .slice A0_2 l0_2.length c0_2, .int .i64 a0_3, .int .i64 a0_4, .int .i64 a0_5, .int .i64 a0_6]] w fun e w' => e = .returned (.bool r) ∧ Below w.heap.size w w' := by
 have hu26 := Try.underlying26
 have Ag := Am hr0_2
 have Ah := Am hc0_2
 clear hr0_2 hc0_2
 have HB := Am (Below.refl w.heap.size w)
 unfold garnerref24_Base.f at h
 have H := h
 clear h
 obtain ⟨t331, A2, H⟩ := zb H
 by_cases c3 : t331 = true
 ·subst c3
  rw [if_pos rfl] at H
  obtain rfl := Option.some.inj H
  go_enter Try.func9, Try.ntmps9
  go_wp2_with (first | ((with_reducible refine zD 1 rfl ?_); (try (refine gate_guard (by rfl) ?_; dsimp only)); refine zE 1 #[.int .i64 a0_0, .int .i64 a0_1, .slice A0_2 l0_2.length c0_2, .int .i64 a0_3, .int .i64 a0_4, .int .i64 a0_5, .int .i64 a0_6] 26 ?_; intro Ac hg w4 hbox hb; have Aa := Am (hbox); have Ad := zA hg HB; replace HB := zB HB hb; have Ab := Ad; clear hb hbox hg; obtain ⟨_, _, _, _, _, _, _⟩ := bc7 Aa.out; obtain ⟨_, _, _, _, _, _, _⟩ := bf7 Aa.out) | ((with_reducible refine zC 14 rfl ?_); refine zL (some 4) Try.func14 #[.agg #[.int .i64 a0_0, .int .i64 a0_1, .slice A0_2 l0_2.length c0_2, .int .i64 a0_3, .int .i64 a0_4, .int .i64 a0_5, .int .i64 a0_6]] ?_; (with_reducible refine (garnerref23_May.calls k a0_0 a0_1 _ _ l0_2 a0_3 a0_4 a0_5 a0_6 true _ ?Ae ?Af A2.out).mono ?_); (case Ae => exact pC (Kd.C_below Ag.out HB.out)); (case Af => exact Ah.out); rintro e w6 ⟨rfl, hb⟩; refine ⟨_, rfl, ?_⟩; replace Aa := kBa Aa hb; replace HB := zX1 HB Ab.out hb; (try clear hb); obtain ⟨_, _, _, _, _, _, _⟩ := bc7 Aa.out; obtain ⟨_, _, _, _, _, _, _⟩ := bf7 Aa.out))
  go_ret
  exact ⟨pX, pE HB.out Ab.out⟩
 replace c3 := Bool.eq_false_iff.mpr c3
 subst c3
 rw [if_neg zF] at H
 obtain rfl := Option.some.inj H
 go_enter Try.func9, Try.ntmps9
 go_wp2_with (first | ((with_reducible refine zD 1 rfl ?_); (try (refine gate_guard (by rfl) ?_; dsimp only)); refine zE 1 #[.int .i64 a0_0, .int .i64 a0_1, .slice A0_2 l0_2.length c0_2, .int .i64 a0_3, .int .i64 a0_4, .int .i64 a0_5, .int .i64 a0_6] 26 ?_; intro Ac hg w8 hbox hb; have Aa := Am (hbox); have Ad := zA hg HB; replace HB := zB HB hb; have Ab := Ad; clear hb hbox hg; obtain ⟨_, _, _, _, _, _, _⟩ := bc7 Aa.out; obtain ⟨_, _, _, _, _, _, _⟩ := bf7 Aa.out) | ((with_reducible refine zC 14 rfl ?_); refine zL (some 4) Try.func14 #[.agg #[.int .i64 a0_0, .int .i64 a0_1, .slice A0_2 l0_2.length c0_2, .int .i64 a0_3, .int .i64 a0_4, .int .i64 a0_5, .int .i64 a0_6]] ?_; (with_reducible refine (garnerref23_May.calls k a0_0 a0_1 _ _ l0_2 a0_3 a0_4 a0_5 a0_6 false _ ?Ae ?Af A2.out).mono ?_); (case Ae => exact pC (Kd.C_below Ag.out HB.out)); (case Af => exact Ah.out); rintro e w10 ⟨rfl, hb⟩; refine ⟨_, rfl, ?_⟩; replace Aa := kBa Aa hb; replace HB := zX1 HB Ab.out hb; (try clear hb)))
 go_ret
 exact ⟨pX, pE HB.out Ab.out⟩
def garnerref04_May.f (a0_0 : Int) (a0_1 : Int) (a0_2 : Int) (a0_3 : Int) : Option (Bool) := if a0_0 ≥ 1 then (if a0_0 ≤ 2147483647 then (if a0_1 ≥ 0 then (if a0_1 ≤ 2147483647 then (if a0_2 ≥ 0 then (some (decide (a0_2 ≤ 4096))) else (some false)) else (some false)) else (some false)) else (some false)) else (some false)
set_option maxRecDepth 100000 in
theorem garnerref04_May.calls (a0_0 : Int) (a0_1 : Int) (a0_2 : Int) (a0_3 : Int) (r : Bool) (w : World) (h : garnerref04_May.f a0_0 a0_1 a0_2 a0_3 = some r) :
 Calls Try.prog 57 #[.agg #[.int .i64 a0_0, .int .i64 a0_1, .int .i64 a0_2, .int .u32 a0_3]] w fun e w' => e = .returned (.bool r) ∧ Below w.heap.size w w' := by
 have hu50 := Try.underlying50
 have HB := Am (Below.refl w.heap.size w)
 unfold garnerref04_May.f at h
 have H := h
 clear h
 by_cases c2 : a0_0 ≥ 1
 rotate_left
 ·rw [if_neg c2] at H
  have c2b0 : decide (1 ≤ a0_0) = false := decide_eq_false c2
  clear c2
  obtain rfl := Option.some.inj H
  go_enter Try.func57, Try.ntmps57
  go_wp2_with (first | ((with_reducible refine zD 1 rfl ?_); refine zE 1 #[.int .i64 a0_0, .int .i64 a0_1, .int .i64 a0_2, .int .u32 a0_3] 50 ?_; intro Ab hg w17 hbox hb; have Aa := Am (hbox); have Ac := zA hg HB; replace HB := zB HB hb; have Ad := Ac; clear hb hbox hg; obtain ⟨_, _, _, _⟩ := bc4 Aa.out; obtain ⟨_, _, _, _⟩ := bf4 Aa.out))
  go_ret
  exact ⟨pX, pE HB.out Ad.out⟩
 rw [if_pos c2] at H
 have c2b0 : decide (1 ≤ a0_0) = true := decide_eq_true c2
 clear c2
 by_cases c3 : a0_0 ≤ 2147483647
 rotate_left
 ·rw [if_neg c3] at H
  have c3b0 := decide_eq_false c3
  clear c3
  obtain rfl := Option.some.inj H
  go_enter Try.func57, Try.ntmps57
  go_wp2_with (first | ((with_reducible refine zD 1 rfl ?_); refine zE 1 #[.int .i64 a0_0, .int .i64 a0_1, .int .i64 a0_2, .int .u32 a0_3] 50 ?_; intro Ab hg w15 hbox hb; have Aa := Am (hbox); have Ac := zA hg HB; replace HB := zB HB hb; have Ad := Ac; clear hb hbox hg; obtain ⟨_, _, _, _⟩ := bc4 Aa.out; obtain ⟨_, _, _, _⟩ := bf4 Aa.out))
  go_ret
  exact ⟨pX, pE HB.out Ad.out⟩
 rw [if_pos c3] at H
 have c3b0 := decide_eq_true c3
 clear c3
 by_cases c4 : a0_1 ≥ 0
 rotate_left
 ·rw [if_neg c4] at H
  have c4b0 : decide (0 ≤ a0_1) = false := decide_eq_false c4
  clear c4
  obtain rfl := Option.some.inj H
  go_enter Try.func57, Try.ntmps57
  go_wp2_with (first | ((with_reducible refine zD 1 rfl ?_); refine zE 1 #[.int .i64 a0_0, .int .i64 a0_1, .int .i64 a0_2, .int .u32 a0_3] 50 ?_; intro Ab hg w13 hbox hb; have Aa := Am (hbox); have Ac := zA hg HB; replace HB := zB HB hb; have Ad := Ac; clear hb hbox hg; obtain ⟨_, _, _, _⟩ := bc4 Aa.out; obtain ⟨_, _, _, _⟩ := bf4 Aa.out))
  go_ret
  exact ⟨pX, pE HB.out Ad.out⟩
 rw [if_pos c4] at H
 have c4b0 : decide (0 ≤ a0_1) = true := decide_eq_true c4
 clear c4
 by_cases c5 : a0_1 ≤ 2147483647
 rotate_left
 ·rw [if_neg c5] at H
  have c5b0 := decide_eq_false c5
  clear c5
  obtain rfl := Option.some.inj H
  go_enter Try.func57, Try.ntmps57
  go_wp2_with (first | ((with_reducible refine zD 1 rfl ?_); refine zE 1 #[.int .i64 a0_0, .int .i64 a0_1, .int .i64 a0_2, .int .u32 a0_3] 50 ?_; intro Ab hg w11 hbox hb; have Aa := Am (hbox); have Ac := zA hg HB; replace HB := zB HB hb; have Ad := Ac; clear hb hbox hg; obtain ⟨_, _, _, _⟩ := bc4 Aa.out; obtain ⟨_, _, _, _⟩ := bf4 Aa.out))
  go_ret
  exact ⟨pX, pE HB.out Ad.out⟩
 rw [if_pos c5] at H
 have c5b0 := decide_eq_true c5
 clear c5
 by_cases c6 : a0_2 ≥ 0
 ·rw [if_pos c6] at H
  have c6b0 : decide (0 ≤ a0_2) = true := decide_eq_true c6
  clear c6
  obtain rfl := Option.some.inj H
  go_enter Try.func57, Try.ntmps57
  go_wp2_with (first | ((with_reducible refine zD 1 rfl ?_); refine zE 1 #[.int .i64 a0_0, .int .i64 a0_1, .int .i64 a0_2, .int .u32 a0_3] 50 ?_; intro Ab hg w7 hbox hb; have Aa := Am (hbox); have Ac := zA hg HB; replace HB := zB HB hb; have Ad := Ac; clear hb hbox hg; obtain ⟨_, _, _, _⟩ := bc4 Aa.out; obtain ⟨_, _, _, _⟩ := bf4 Aa.out))
  go_ret
  exact ⟨pX, pE HB.out Ad.out⟩
 rw [if_neg c6] at H
 have c6b0 : decide (0 ≤ a0_2) = false := decide_eq_false c6
 clear c6
 obtain rfl := Option.some.inj H
 go_enter Try.func57, Try.ntmps57
 go_wp2_with (first | ((with_reducible refine zD 1 rfl ?_); refine zE 1 #[.int .i64 a0_0, .int .i64 a0_1, .int .i64 a0_2, .int .u32 a0_3] 50 ?_; intro Ab hg w9 hbox hb; have Aa := Am (hbox); have Ac := zA hg HB; replace HB := zB HB hb; have Ad := Ac; clear hb hbox hg; obtain ⟨_, _, _, _⟩ := bc4 Aa.out; obtain ⟨_, _, _, _⟩ := bf4 Aa.out))
 go_ret
 exact ⟨pX, pE HB.out Ad.out⟩
def garnerref05_May.f (a0_0 : Bool) (l0_1 : List Int) (a0_2 : Int) (a0_3 : Int) (a0_4 : Int) (a0_5 : Int) : Option (Bool) := if a0_0 = true then (if (l0_1.length : Int) = 0 then ((garnerref04_May.f a0_2 a0_3 a0_4 a0_5).bind fun t334 => (some t334)) else (some false)) else (if (l0_1.length : Int) ≤ 32 then (some (a0_2 == 0 && (a0_3 == 0 && (a0_4 == 0 && (a0_5 == 0))))) else (some false))
set_option maxRecDepth 100000 in
theorem garnerref05_May.calls (a0_0 : Bool) (A0_1 : Option Addr) (c0_1 : Nat) (l0_1 : List Int) (a0_2 : Int) (a0_3 : Int) (a0_4 : Int) (a0_5 : Int) (r : Bool) (w : World) (hr0_1 : Kd.C (Kd.int .u8) w A0_1 l0_1.length l0_1) (hc0_1 : l0_1.length ≤ c0_1) (h : garnerref05_May.f a0_0 l0_1 a0_2 a0_3 a0_4 a0_5 = some r) :
 Calls Try.prog 37 #[.agg #[.bool a0_0, .slice A0_1 l0_1.length c0_1, .int .i64 a0_2, .int .i64 a0_3, .int .i64 a0_4, .int .u32 a0_5]] w fun e w' => e = .returned (.bool r) ∧ Below w.heap.size w w' := by
 have hu52 := Try.underlying52
 have hu50 := Try.underlying50
 have HR0_1 := Am hr0_1
 have HC0_1 := Am hc0_1
 clear hr0_1 hc0_1
 have HB := Am (Below.refl w.heap.size w)
 unfold garnerref05_May.f at h
 have H := h
 clear h
 by_cases c2 : a0_0 = true
 rotate_left
 ·replace c2 := Bool.eq_false_iff.mpr c2
  subst c2
  rw [if_neg zF] at H
  by_cases c10 : (l0_1.length : Int) ≤ 32
  ·rw [if_pos c10] at H
   have c10b0 := decide_eq_true c10
   have c10b1 : decide (l0_1.length ≤ 32) = true := decide_eq_true (by omega)
   clear c10
   obtain rfl := Option.some.inj H
   go_enter Try.func37, Try.ntmps37
   go_wp2_with (first | ((with_reducible refine zD 1 rfl ?_); refine zE 1 #[.bool false, .slice A0_1 l0_1.length c0_1, .int .i64 a0_2, .int .i64 a0_3, .int .i64 a0_4, .int .u32 a0_5] 52 ?_; intro Ac hg w11 hbox hb; have Aa := Am (hbox); have Ad := zA hg HB; replace HB := zB HB hb; have Ab := Ad; clear hb hbox hg; obtain ⟨_, _, _, _, _, _⟩ := bc6 Aa.out; obtain ⟨_, _, _, _, _, _⟩ := bf6 Aa.out))
   go_ret
   exact ⟨pX, pE HB.out Ab.out⟩
  rw [if_neg c10] at H
  have c10b0 := decide_eq_false c10
  have c10b1 : decide (l0_1.length ≤ 32) = false := decide_eq_false (by omega)
  clear c10
  obtain rfl := Option.some.inj H
  go_enter Try.func37, Try.ntmps37
  go_wp2_with (first | ((with_reducible refine zD 1 rfl ?_); refine zE 1 #[.bool false, .slice A0_1 l0_1.length c0_1, .int .i64 a0_2, .int .i64 a0_3, .int .i64 a0_4, .int .u32 a0_5] 52 ?_; intro Ac hg w13 hbox hb; have Aa := Am (hbox); have Ad := zA hg HB; replace HB := zB HB hb; have Ab := Ad; clear hb hbox hg; obtain ⟨_, _, _, _, _, _⟩ := bc6 Aa.out; obtain ⟨_, _, _, _, _, _⟩ := bf6 Aa.out))
  go_ret
  exact ⟨pX, pE HB.out Ab.out⟩
 subst c2
 rw [if_pos rfl] at H
 by_cases c3 : (l0_1.length : Int) = 0
 rotate_left
 ·rw [if_neg c3] at H
  obtain ⟨c3b0, c3b1⟩ := zk c3
  have c3b2 : ¬ (l0_1 = []) := fun h_ => c3 (by rw [h_]; rfl)
  obtain rfl := Option.some.inj H
  go_enter Try.func37, Try.ntmps37
  go_wp2_with (first | ((with_reducible refine zD 1 rfl ?_); refine zE 1 #[.bool true, .slice A0_1 l0_1.length c0_1, .int .i64 a0_2, .int .i64 a0_3, .int .i64 a0_4, .int .u32 a0_5] 52 ?_; intro Ac hg w8 hbox hb; have Aa := Am (hbox); have Ad := zA hg HB; replace HB := zB HB hb; have Ab := Ad; clear hb hbox hg; obtain ⟨_, _, _, _, _, _⟩ := bc6 Aa.out; obtain ⟨_, _, _, _, _, _⟩ := bf6 Aa.out))
  go_ret
  exact ⟨pX, pE HB.out Ab.out⟩
 rw [if_pos c3] at H
 obtain ⟨c3b0, c3b1⟩ := zc c3
 clear c3
 obtain ⟨t334, A4, H⟩ := zb H
 obtain rfl := Option.some.inj H
 go_enter Try.func37, Try.ntmps37
 go_wp2_with (first | ((with_reducible refine zD 1 rfl ?_); refine zE 1 #[.bool true, .slice A0_1 l0_1.length c0_1, .int .i64 a0_2, .int .i64 a0_3, .int .i64 a0_4, .int .u32 a0_5] 52 ?_; intro Ac hg w5 hbox hb; have Aa := Am (hbox); have Ad := zA hg HB; replace HB := zB HB hb; have Ab := Ad; clear hb hbox hg; obtain ⟨_, _, _, _, _, _⟩ := bc6 Aa.out; obtain ⟨_, _, _, _, _, _⟩ := bf6 Aa.out) | (go_at_call 57; (with_reducible refine (garnerref04_May.calls a0_2 a0_3 a0_4 a0_5 t334 _ A4.out).mono ?_); rintro e w7 ⟨rfl, hb⟩; replace Aa := kBa Aa hb; replace HB := zX1 HB Ab.out hb; (try clear hb)))
 go_ret
 exact ⟨pX, pE HB.out Ab.out⟩
def garnerref02_same.l0 : Nat → List Int → List Int → Int → Option (Bool)
 | 0, _, _, _ => none
 | k + 1, x0, x1, x5 => if x5 < (x0.length : Int) then (if 0 ≤ x5 then (if x5 < (x1.length : Int) then (if (rd x0 x5) = (rd x1 x5) then (garnerref02_same.l0 k x0 x1 (wrap64 (x5 + 1))) else (some false)) else (none)) else (none)) else (some true)
def garnerref02_same.f (k : Nat) (l0 : List Int) (l1 : List Int) : Option (Bool) := if (l0.length : Int) = (l1.length : Int) then (garnerref02_same.l0 k l0 l1 0) else (some false)
theorem garnerref02_same.mono_l : ∀ k, (∀ y0 y1 y2, LeO (garnerref02_same.l0 k y0 y1 y2) (garnerref02_same.l0 (k + 1) y0 y1 y2))
 | 0 => fun _ _ _ r h => by simp [garnerref02_same.l0] at h
 | k + 1 => by
  have ih0 := garnerref02_same.mono_l k
  ·intro y0 y1 y2
   unfold garnerref02_same.l0
   repeat' (with_reducible first | exact ih0 .. | exact LeO.refl .. | exact LeO.none .. | refine LeO.ite ?_ ?_ | refine LeO.bind ?_ (fun _ => ?_))
theorem garnerref02_same.mono : ∀ a0 a1 k, LeO (garnerref02_same.f k a0 a1) (garnerref02_same.f (k + 1) a0 a1) := by
 intro a0 a1 k
 have ih0 := garnerref02_same.mono_l k
 unfold garnerref02_same.f
 repeat' (with_reducible first | exact ih0 .. | exact LeO.refl .. | exact LeO.none .. | refine LeO.ite ?_ ?_ | refine LeO.bind ?_ (fun _ => ?_))
set_option maxRecDepth 100000 in
theorem garnerref02_same.calls (k : Nat) (A0 : Option Addr) (c0 : Nat) (l0 : List Int) (A1 : Option Addr) (c1 : Nat) (l1 : List Int) (r : Bool) (w : World) (hr0 : Kd.C (Kd.int .u8) w A0 l0.length l0) (hc0 : l0.length ≤ c0) (hr1 : Kd.C (Kd.int .u8) w A1 l1.length l1) (hc1 : l1.length ≤ c1) (h : garnerref02_same.f k l0 l1 = some r) :
 Calls Try.prog 69 #[.slice A0 l0.length c0, .slice A1 l1.length c1] w fun e w' => e = .returned (.bool r) ∧ Drawn0 w w' := by
 have HR0 := Am hr0
 have HC0 := Am hc0
 clear hr0 hc0
 have HR1 := Am hr1
 have HC1 := Am hc1
 clear hr1 hc1
 unfold garnerref02_same.f at h
 have H := h
 clear h
 by_cases c3 : (l0.length : Int) = (l1.length : Int)
 rotate_left
 ·rw [if_neg c3] at H
  obtain ⟨c3b0, c3b1⟩ := zk c3
  have c3b2 : (l0.length == l1.length) = false := by first | simpa using c3 | (simp at c3 ⊢; omega)
  obtain rfl := Option.some.inj H
  go_enter Try.func69, Try.ntmps69
  go_wp2
  repeat (go_quiet (fail); try go_wp2)
  go_ret
  exact ⟨zr, zd⟩
 rw [if_pos c3] at H
 obtain ⟨c3b0, c3b1⟩ := zc c3
 have c3b2 : (l0.length == l1.length) = true := by first | simpa using c3 | (simp at c3 ⊢; omega)
 clear c3
 have H' := Am H
 clear H
 go_enter Try.func69, Try.ntmps69
 go_wp2
 repeat (go_quiet (fail); try go_wp2)
 go_loopg [5] k (fun kq v5 w' => ∃ (Aa : Int), v5 = .int .i64 Aa ∧ Aside0 (garnerref02_same.l0 kq l0 l1 Aa = some r) ∧ Aside0 (kq ≤ k) ∧ Drawn0 w w')
 case atStart => exact ⟨(0), zr, H', ⟨Nat.le_refl _⟩, zd⟩
 case round =>
  clear H'
  try clear c1
  try clear p2
  try clear c3
  try clear c3b0
  try clear c3b1
  try clear c3b2
  obtain ⟨Aa, rfl, HA, HK1, ⟨m1, rfl⟩⟩ := hrel
  cases gk with
  | zero => exact absurd HA.out (by simp [garnerref02_same.l0])
  | succ k1 =>
   have H := HA.out
   clear HA
   simp only [garnerref02_same.l0] at H
   by_cases c4 : Aa < (l0.length : Int)
   rotate_left
   ·rw [if_neg c4] at H
    have c4b0 := decide_eq_false c4
    clear c4
    obtain rfl := Option.some.inj H
    go_wp2
    repeat (go_quiet (fail); try go_wp2)
    go_ret
    exact ⟨zr, zd⟩
   rw [if_pos c4] at H
   have c4b0 := decide_eq_true c4
   clear c4
   obtain ⟨c5, H⟩ := zI H
   have c5b0 := decide_eq_true c5
   clear c5
   obtain ⟨c6, H⟩ := zI H
   have c6b0 := decide_eq_true c6
   clear c6
   by_cases c7 : (rd l0 Aa) = (rd l1 Aa)
   rotate_left
   ·rw [if_neg c7] at H
    obtain ⟨c7b0, c7b1⟩ := zk c7
    obtain rfl := Option.some.inj H
    have p335 : 0 ≤ (Aa : Int) := of_decide_eq_true pS
    have q335 : Aa < (l0.length : Int) := of_decide_eq_true pS
    obtain ⟨Ad, e335, Ab⟩ := Kd.at_int HR0.out Aa p335 q335
    cases e335
    replace p335 := eq_true p335
    replace q335 := eq_true q335
    have p336 : 0 ≤ (Aa : Int) := of_decide_eq_true pS
    have q336 : Aa < (l1.length : Int) := of_decide_eq_true pS
    obtain ⟨Ae, e336, Ac⟩ := Kd.at_int HR1.out Aa p336 q336
    cases e336
    replace p336 := eq_true p336
    replace q336 := eq_true q336
    go_wp2
    repeat (go_quiet (fail); try go_wp2)
    go_ret
    exact ⟨zr, zd⟩
   rw [if_pos c7] at H
   obtain ⟨c7b0, c7b1⟩ := zc c7
   clear c7
   have H' := Am H
   clear H
   have p335 : 0 ≤ (Aa : Int) := of_decide_eq_true pS
   have q335 : Aa < (l0.length : Int) := of_decide_eq_true pS
   obtain ⟨Ad, e335, Ab⟩ := Kd.at_int HR0.out Aa p335 q335
   cases e335
   replace p335 := eq_true p335
   replace q335 := eq_true q335
   have p336 : 0 ≤ (Aa : Int) := of_decide_eq_true pS
   have q336 : Aa < (l1.length : Int) := of_decide_eq_true pS
   obtain ⟨Ae, e336, Ac⟩ := Kd.at_int HR1.out Aa p336 q336
   cases e336
   replace p336 := eq_true p336
   replace q336 := eq_true q336
   go_wp2
   repeat (go_quiet (fail); try go_wp2)
   go_roundg k1
   case measure => have := HK1.out; omega
   case rel => exact ⟨(wrap64 (Aa + 1)), zr, H', ⟨by have := HK1.out; omega⟩, zd⟩
def garnerref02_Bytes.f (k : Nat) (l0 : List Int) (l1 : List Int) : Option (Bool) := (garnerref02_same.f k l0 l1).bind fun t337 => (some t337)
theorem garnerref02_Bytes.mono : ∀ a0 a1 k, LeO (garnerref02_Bytes.f k a0 a1) (garnerref02_Bytes.f (k + 1) a0 a1) := by
 intro a0 a1 k
 unfold garnerref02_Bytes.f
 repeat' (with_reducible first | exact garnerref02_same.mono .. | exact LeO.refl .. | exact LeO.none .. | refine LeO.ite ?_ ?_ | refine LeO.bind ?_ (fun _ => ?_))
set_option maxRecDepth 100000 in
theorem garnerref02_Bytes.calls (k : Nat) (A0 : Option Addr) (c0 : Nat) (l0 : List Int) (A1 : Option Addr) (c1 : Nat) (l1 : List Int) (r : Bool) (w : World) (hr0 : Kd.C (Kd.int .u8) w A0 l0.length l0) (hc0 : l0.length ≤ c0) (hr1 : Kd.C (Kd.int .u8) w A1 l1.length l1) (hc1 : l1.length ≤ c1) (h : garnerref02_Bytes.f k l0 l1 = some r) :
 Calls Try.prog 58 #[.slice A0 l0.length c0, .slice A1 l1.length c1] w fun e w' => e = .returned (.bool r) ∧ Drawn0 w w' := by
 have HR0 := Am hr0
 have HC0 := Am hc0
 clear hr0 hc0
 have HR1 := Am hr1
 have HC1 := Am hc1
 clear hr1 hc1
 unfold garnerref02_Bytes.f at h
 have H := h
 clear h
 obtain ⟨t337, A3, H⟩ := zb H
 obtain rfl := Option.some.inj H
 go_enter Try.func58, Try.ntmps58
 go_wp2_with (first | ((with_reducible refine zC 69 rfl ?_); refine zL (some 7) Try.func69 #[.slice A0 l0.length c0, .slice A1 l1.length c1] ?_; (with_reducible refine (garnerref02_same.calls k _ _ l0 _ _ l1 t337 _ ?side1 ?side2 ?side3 ?side4 A3.out).mono ?_); (case side1 => repeat (first | exact HR0.out | (with_reducible refine Kd.C_alloc ?_ _) | (with_reducible refine Kd.C_drewN ?_ _) | (with_reducible refine Kd.C_drew ?_))); (case side2 => exact HC0.out); (case side3 => repeat (first | exact HR1.out | (with_reducible refine Kd.C_alloc ?_ _) | (with_reducible refine Kd.C_drewN ?_ _) | (with_reducible refine Kd.C_drew ?_))); (case side4 => exact HC1.out); rintro e w' ⟨rfl, ⟨nd, rfl⟩⟩; refine ⟨_, rfl, ?_⟩))
 go_ret
 exact ⟨zr, zd⟩
end
section
attribute [local go_sem] max2_int min2_int max_two min_two max_three min_three max_four min_four
set_option maxHeartbeats 8000000
attribute [local go_sem] wrap64_l1 wrap64_l2 wrap64_l3 wrap64_l4 wrap64_l5
attribute [local go_sem high] eqA50
def garnerref05_Same.f (k : Nat) (a0_0 : Bool) (l0_1 : List Int) (a0_2 : Int) (a0_3 : Int) (a0_4 : Int) (a0_5 : Int) (a1_0 : Bool) (l1_1 : List Int) (a1_2 : Int) (a1_3 : Int) (a1_4 : Int) (a1_5 : Int) : Option (Bool) := if (a0_0 == a1_0) = true then (if (a0_2 == a1_2 && (a0_3 == a1_3 && (a0_4 == a1_4 && (a0_5 == a1_5)))) = true then ((garnerref02_Bytes.f k l0_1 l1_1).bind fun t340 => (some t340)) else (some false)) else (some false)
theorem garnerref05_Same.mono : ∀ a0 a1 a2 a3 a4 a5 a6 a7 a8 a9 a10 a11 k, LeO (garnerref05_Same.f k a0 a1 a2 a3 a4 a5 a6 a7 a8 a9 a10 a11) (garnerref05_Same.f (k + 1) a0 a1 a2 a3 a4 a5 a6 a7 a8 a9 a10 a11) := by
 intro a0 a1 a2 a3 a4 a5 a6 a7 a8 a9 a10 a11 k
 unfold garnerref05_Same.f
 repeat' (with_reducible first | exact garnerref02_Bytes.mono .. | exact LeO.refl .. | exact LeO.none .. | refine LeO.ite ?_ ?_ | refine LeO.bind ?_ (fun _ => ?_))
set_option maxRecDepth 100000 in
theorem garnerref05_Same.calls (k : Nat) (a0_0 : Bool) (A0_1 : Option Addr) (c0_1 : Nat) (l0_1 : List Int) (a0_2 : Int) (a0_3 : Int) (a0_4 : Int) (a0_5 : Int) (a1_0 : Bool) (A1_1 : Option Addr) (c1_1 : Nat) (l1_1 : List Int) (a1_2 : Int) (a1_3 : Int) (a1_4 : Int) (a1_5 : Int) (r : Bool) (w : World) (hr0_1 : Kd.C (Kd.int .u8) w A0_1 l0_1.length l0_1) (hc0_1 : l0_1.length ≤ c0_1) (hr1_1 : Kd.C (Kd.int .u8) w A1_1 l1_1.length l1_1) (hc1_1 : l1_1.length ≤ c1_1) (h : garnerref05_Same.f k a0_0 l0_1 a0_2 a0_3 a0_4 a0_5 a1_0 l1_1 a1_2 a1_3 a1_4 a1_5 = some r) :
 Calls Try.prog 38 #[.agg #[.bool a0_0, .slice A0_1 l0_1.length c0_1, .int .i64 a0_2, .int .i64 a0_3, .int .i64 a0_4, .int .u32 a0_5], .agg #[.bool a1_0, .slice A1_1 l1_1.length c1_1, .int .i64 a1_2, .int .i64 a1_3, .int .i64 a1_4, .int .u32 a1_5]] w fun e w' => e = .returned (.bool r) ∧ Below w.heap.size w w' := by
 have hu52 := Try.underlying52
 have hu50 := Try.underlying50
 have Ak := Am hr0_1
 have Al := Am hc0_1
 clear hr0_1 hc0_1
 have An := Am hr1_1
 have Ao := Am hc1_1
 clear hr1_1 hc1_1
 have HB := Am (Below.refl w.heap.size w)
 unfold garnerref05_Same.f at h
 have H := h
 clear h
 by_cases c3 : (a0_0 == a1_0) = true
 rotate_left
 ·rw [if_neg c3] at H
  have c3b0 : (a0_0 == a1_0) = false := by simpa using c3
  (try (have c3b1 : decide (a0_0 = a1_0) = false := by simpa using c3))
  (try (have c3b2 : (a0_0 == a1_0) = false := by simpa using c3))
  (try (have c3b3 : ¬ (a0_0 = a1_0) := by simpa using c3))
  clear c3
  obtain rfl := Option.some.inj H
  go_enter Try.func38, Try.ntmps38
  go_wp2_with (first | ((with_reducible refine zD 2 rfl ?_); refine zE 2 #[.bool a0_0, .slice A0_1 l0_1.length c0_1, .int .i64 a0_2, .int .i64 a0_3, .int .i64 a0_4, .int .u32 a0_5] 52 ?_; intro Ad hg w16 hbox hb; have Aa := Am (hbox); have Ah := zA hg HB; replace HB := zB HB hb; have Ae := Ah; clear hb hbox hg) | ((with_reducible refine zD 3 rfl ?_); refine zE 3 #[.bool a1_0, .slice A1_1 l1_1.length c1_1, .int .i64 a1_2, .int .i64 a1_3, .int .i64 a1_4, .int .u32 a1_5] 52 ?_; intro Af hg w17 hbox hb; have Ag := Am (hbox); have Ai := zY1 hg HB Ae.out; replace HB := zX1 HB Ae.out hb; have Aj := Ai; have Ab := Am (zN hg (kL Aa.out)); have Ac := Am (zM hg (kL Aa.out)); replace Aa := kBa Aa hb; clear hb hbox hg; have hnb18 := Ab.out; have hnc18 := Ac.out; obtain ⟨_, _, _, _, _, _⟩ := bc6 Aa.out; obtain ⟨_, _, _, _, _, _⟩ := bf6 Aa.out; obtain ⟨_, _, _, _, _, _⟩ := bc6 Ag.out; obtain ⟨_, _, _, _, _, _⟩ := bf6 Ag.out))
  go_ret
  exact ⟨pX, pE2 HB.out Ae.out Aj.out⟩
 rw [if_pos c3] at H
 have c3b0 : (a0_0 == a1_0) = true := c3
 (try (have c3b1 : decide (a0_0 = a1_0) = true := by simpa using c3))
 (try (have c3b2 : (a0_0 == a1_0) = true := by simpa using c3))
 clear c3
 by_cases c4 : (a0_2 == a1_2 && (a0_3 == a1_3 && (a0_4 == a1_4 && (a0_5 == a1_5)))) = true
 rotate_left
 ·rw [if_neg c4] at H
  have c4b0 : (a0_2 == a1_2 && (a0_3 == a1_3 && (a0_4 == a1_4 && (a0_5 == a1_5)))) = false := by simpa using c4
  (try (have c4b1 : decide (a0_2 = a1_2 && (a0_3 == a1_3 && (a0_4 == a1_4 && (a0_5 == a1_5)))) = false := by simpa using c4))
  (try (have c4b2 : (a0_2 == a1_2 && (a0_3 == a1_3 && (a0_4 == a1_4 && (a0_5 == a1_5)))) = false := by simpa using c4))
  (try (have c4b3 : ¬ (a0_2 = a1_2 && (a0_3 == a1_3 && (a0_4 == a1_4 && (a0_5 == a1_5)))) := by simpa using c4))
  clear c4
  obtain rfl := Option.some.inj H
  go_enter Try.func38, Try.ntmps38
  go_wp2_with (first | ((with_reducible refine zD 2 rfl ?_); refine zE 2 #[.bool a0_0, .slice A0_1 l0_1.length c0_1, .int .i64 a0_2, .int .i64 a0_3, .int .i64 a0_4, .int .u32 a0_5] 52 ?_; intro Ad hg w11 hbox hb; have Aa := Am (hbox); have Ah := zA hg HB; replace HB := zB HB hb; have Ae := Ah; clear hb hbox hg) | ((with_reducible refine zD 3 rfl ?_); refine zE 3 #[.bool a1_0, .slice A1_1 l1_1.length c1_1, .int .i64 a1_2, .int .i64 a1_3, .int .i64 a1_4, .int .u32 a1_5] 52 ?_; intro Af hg w12 hbox hb; have Ag := Am (hbox); have Ai := zY1 hg HB Ae.out; replace HB := zX1 HB Ae.out hb; have Aj := Ai; have Ab := Am (zN hg (kL Aa.out)); have Ac := Am (zM hg (kL Aa.out)); replace Aa := kBa Aa hb; clear hb hbox hg; have hnb13 := Ab.out; have hnc13 := Ac.out; obtain ⟨_, _, _, _, _, _⟩ := bc6 Aa.out; obtain ⟨_, _, _, _, _, _⟩ := bf6 Aa.out; obtain ⟨_, _, _, _, _, _⟩ := bc6 Ag.out; obtain ⟨_, _, _, _, _, _⟩ := bf6 Ag.out))
  go_ret
  exact ⟨pX, pE2 HB.out Ae.out Aj.out⟩
 rw [if_pos c4] at H
 have c4b0 : (a0_2 == a1_2 && (a0_3 == a1_3 && (a0_4 == a1_4 && (a0_5 == a1_5)))) = true := c4
 (try (have c4b1 : decide (a0_2 = a1_2 && (a0_3 == a1_3 && (a0_4 == a1_4 && (a0_5 == a1_5)))) = true := by simpa using c4))
 (try (have c4b2 : (a0_2 == a1_2 && (a0_3 == a1_3 && (a0_4 == a1_4 && (a0_5 == a1_5)))) = true := by simpa using c4))
 clear c4
 obtain ⟨t340, A5, H⟩ := zb H
 obtain rfl := Option.some.inj H
 go_enter Try.func38, Try.ntmps38
 go_wp2_with (first | ((with_reducible refine zD 2 rfl ?_); refine zE 2 #[.bool a0_0, .slice A0_1 l0_1.length c0_1, .int .i64 a0_2, .int .i64 a0_3, .int .i64 a0_4, .int .u32 a0_5] 52 ?_; intro Ad hg w6 hbox hb; have Aa := Am (hbox); have Ah := zA hg HB; replace HB := zB HB hb; have Ae := Ah; clear hb hbox hg) | ((with_reducible refine zD 3 rfl ?_); refine zE 3 #[.bool a1_0, .slice A1_1 l1_1.length c1_1, .int .i64 a1_2, .int .i64 a1_3, .int .i64 a1_4, .int .u32 a1_5] 52 ?_; intro Af hg w7 hbox hb; have Ag := Am (hbox); have Ai := zY1 hg HB Ae.out; replace HB := zX1 HB Ae.out hb; have Aj := Ai; have Ab := Am (zN hg (kL Aa.out)); have Ac := Am (zM hg (kL Aa.out)); replace Aa := kBa Aa hb; clear hb hbox hg; have hnb8 := Ab.out; have hnc8 := Ac.out; obtain ⟨_, _, _, _, _, _⟩ := bc6 Aa.out; obtain ⟨_, _, _, _, _, _⟩ := bf6 Aa.out; obtain ⟨_, _, _, _, _, _⟩ := bc6 Ag.out; obtain ⟨_, _, _, _, _, _⟩ := bf6 Ag.out) | (go_at_call 58; (with_reducible refine (garnerref02_Bytes.calls k _ _ l0_1 _ _ l1_1 t340 _ ?Ap ?Aq ?Ar ?As A5.out).mono ?_); (case Ap => exact pC (Kd.C_below Ak.out HB.out)); (case Aq => exact Al.out); (case Ar => exact pC (Kd.C_below An.out HB.out)); (case As => exact Ao.out); rintro e w' ⟨rfl, ⟨nd, rfl⟩⟩))
 go_ret
 exact ⟨pX, pE2 HB.out Ae.out Aj.out⟩
def garnerref06_May.j0 : Nat → Bool → Int → Int → Int → ByteArray → Bool → List Int → Int → Int → Int → Int → Option (Bool)
 | 0, _, _, _, _, _, _, _, _, _, _, _ => none
 | k + 1, x32, x342000, x342001, x342002, x342003, x342004, x342005, x342006, x342007, x342008, x342009 => if x32 = true then (some false) else (if x342002 = 0 then (some (x342003.toList == ([] : List UInt8))) else (if x342002 = 2 then (if x342003.toList = ([] : List UInt8) then (some false) else ((garnerref05_Same.f k x342004 x342005 x342006 x342007 x342008 x342009 false ([] : List Int) 0 0 0 0).bind fun t343 => (some t343))) else (if x342002 = 1 then (some (x342003.toList != ([] : List UInt8))) else (some false))))
def garnerref06_May.f (k : Nat) (a0_0 : Int) (a0_1 : Int) (a0_2 : Int) (a0_3 : ByteArray) (a0_4 : Bool) (l0_5 : List Int) (a0_6 : Int) (a0_7 : Int) (a0_8 : Int) (a0_9 : Int) : Option (Bool) := if a0_0 < 1 then (garnerref06_May.j0 k true a0_0 a0_1 a0_2 a0_3 a0_4 l0_5 a0_6 a0_7 a0_8 a0_9) else (if a0_0 > 2147483647 then (garnerref06_May.j0 k true a0_0 a0_1 a0_2 a0_3 a0_4 l0_5 a0_6 a0_7 a0_8 a0_9) else (if a0_1 < 1 then (garnerref06_May.j0 k true a0_0 a0_1 a0_2 a0_3 a0_4 l0_5 a0_6 a0_7 a0_8 a0_9) else (if a0_1 > 2147483647 then (garnerref06_May.j0 k true a0_0 a0_1 a0_2 a0_3 a0_4 l0_5 a0_6 a0_7 a0_8 a0_9) else ((garnerref05_May.f a0_4 l0_5 a0_6 a0_7 a0_8 a0_9).bind fun t342 => (if t342 = true then (garnerref06_May.j0 k (decide ((a0_3.size : Int) > 64)) a0_0 a0_1 a0_2 a0_3 a0_4 l0_5 a0_6 a0_7 a0_8 a0_9) else (garnerref06_May.j0 k true a0_0 a0_1 a0_2 a0_3 a0_4 l0_5 a0_6 a0_7 a0_8 a0_9))))))
theorem garnerref06_May.mono_l : ∀ k, (∀ y0 y1 y2 y3 y4 y5 y6 y7 y8 y9 y10, LeO (garnerref06_May.j0 k y0 y1 y2 y3 y4 y5 y6 y7 y8 y9 y10) (garnerref06_May.j0 (k + 1) y0 y1 y2 y3 y4 y5 y6 y7 y8 y9 y10))
 | 0 => fun _ _ _ _ _ _ _ _ _ _ _ r h => by simp [garnerref06_May.j0] at h
 | k + 1 => by
  have ih0 := garnerref06_May.mono_l k
  ·intro y0 y1 y2 y3 y4 y5 y6 y7 y8 y9 y10
   unfold garnerref06_May.j0
   repeat' (with_reducible first | exact ih0 .. | exact garnerref05_Same.mono .. | exact LeO.refl .. | exact LeO.none .. | refine LeO.ite ?_ ?_ | refine LeO.bind ?_ (fun _ => ?_))
theorem garnerref06_May.mono : ∀ a0 a1 a2 a3 a4 a5 a6 a7 a8 a9 k, LeO (garnerref06_May.f k a0 a1 a2 a3 a4 a5 a6 a7 a8 a9) (garnerref06_May.f (k + 1) a0 a1 a2 a3 a4 a5 a6 a7 a8 a9) := by
 intro a0 a1 a2 a3 a4 a5 a6 a7 a8 a9 k
 have ih0 := garnerref06_May.mono_l k
 unfold garnerref06_May.f
 repeat' (with_reducible first | exact ih0 .. | exact garnerref05_Same.mono .. | exact LeO.refl .. | exact LeO.none .. | refine LeO.ite ?_ ?_ | refine LeO.bind ?_ (fun _ => ?_))
set_option maxRecDepth 100000 in
theorem garnerref06_May.calls (k : Nat) (a0_0 : Int) (a0_1 : Int) (a0_2 : Int) (a0_3 : ByteArray) (a0_4 : Bool) (A0_5 : Option Addr) (c0_5 : Nat) (l0_5 : List Int) (a0_6 : Int) (a0_7 : Int) (a0_8 : Int) (a0_9 : Int) (r : Bool) (w : World) (hr0_5 : Kd.C (Kd.int .u8) w A0_5 l0_5.length l0_5) (hc0_5 : l0_5.length ≤ c0_5) (h : garnerref06_May.f k a0_0 a0_1 a0_2 a0_3 a0_4 l0_5 a0_6 a0_7 a0_8 a0_9 = some r) :
 Calls Try.prog 18 #[.agg #[.int .i64 a0_0, .int .i64 a0_1, .int .i64 a0_2, .string a0_3, .bool a0_4, .slice A0_5 l0_5.length c0_5, .int .i64 a0_6, .int .i64 a0_7, .int .i64 a0_8, .int .u32 a0_9]] w fun e w' => e = .returned (.bool r) ∧ Below w.heap.size w w' := by
 have hu54 := Try.underlying54
 have hu52 := Try.underlying52
 have Af := Am hr0_5
 have Ag := Am hc0_5
 clear hr0_5 hc0_5
 have HB := Am (Below.refl w.heap.size w)
 unfold garnerref06_May.f at h
 have H := h
 clear h
 have HC2 := Am H
 clear H
 go_enter Try.func18, Try.ntmps18
 go_upto_region 1 with (first | ((with_reducible refine zD 1 rfl ?_); (try (refine gate_guard (by rfl) ?_; dsimp only)); refine zE 1 #[.int .i64 a0_0, .int .i64 a0_1, .int .i64 a0_2, .string a0_3, .bool a0_4, .slice A0_5 l0_5.length c0_5, .int .i64 a0_6, .int .i64 a0_7, .int .i64 a0_8, .int .u32 a0_9] 54 ?_; intro Cq hg w3 hbox hb; have Aa := Am (hbox); have Ef := zA hg HB; replace HB := zB HB hb; have Ab := Ef; clear hb hbox hg))
 (try simp only [Act.put, List.setIfInBounds_toArray, List.set_cons_zero, List.set_cons_succ])
 go_cut [32] (fun v32 wc => ∃ (kq : Nat) (Ae : Bool), v32 = .bool Ae ∧ Aside0 (garnerref06_May.j0 kq Ae a0_0 a0_1 a0_2 a0_3 a0_4 l0_5 a0_6 a0_7 a0_8 a0_9 = some r) ∧ Aside0 (kq ≤ k) ∧ Aside0 (wc.heap[Cq]? = some (.cells #[.int .i64 a0_0, .int .i64 a0_1, .int .i64 a0_2, .string a0_3, .bool a0_4, (.slice A0_5 l0_5.length c0_5), .int .i64 a0_6, .int .i64 a0_7, .int .i64 a0_8, .int .u32 a0_9] 54 (0, 0))) ∧ Aside0 (Below w.heap.size w wc))
 case first =>
  have H := HC2.out
  clear HC2
  by_cases c4 : a0_0 < 1
  ·rw [if_pos c4] at H
   have c4b0 := decide_eq_true c4
   clear c4
   (first | rw [c4b0] | (simp only [i64_w, i32_w]; rw [c4b0]) | skip)
   have H' := Am H
   clear H
   obtain ⟨Cr, Cs, Ct, Cu, Cv, Cw, Cx, Cy, Cz, C0⟩ := bc10 Aa.out
   obtain ⟨C1, C2, C3, C4, C5, C6, C7, C8, C9, Da⟩ := bf10 Aa.out
   go_wp2
   go_meet
   case rel => exact ⟨_, (true), zr, H', ⟨zo⟩, ⟨pK Aa.out⟩, ⟨pE HB.out Ab.out⟩⟩
  rw [if_neg c4] at H
  have c4b0 := decide_eq_false c4
  clear c4
  (first | rw [c4b0] | (simp only [i64_w, i32_w]; rw [c4b0]) | skip)
  by_cases c6 : a0_0 > 2147483647
  ·rw [if_pos c6] at H
   have c6b0 : decide (2147483647 < a0_0) = true := decide_eq_true c6
   clear c6
   have H' := Am H
   clear H
   obtain ⟨Db, Dc, Dd, De, Df, Dg, Dh, Di, Dj, Dk⟩ := bc10 Aa.out
   obtain ⟨Dl, Dm, Dn, Do, Dp, Dq, Dr, Ds, Dt, Du⟩ := bf10 Aa.out
   go_wp2
   go_meet
   case rel => exact ⟨_, (true), zr, H', ⟨zo⟩, ⟨pK Aa.out⟩, ⟨pE HB.out Ab.out⟩⟩
  rw [if_neg c6] at H
  have c6b0 : decide (2147483647 < a0_0) = false := decide_eq_false c6
  clear c6
  by_cases c8 : a0_1 < 1
  ·rw [if_pos c8] at H
   have c8b0 := decide_eq_true c8
   clear c8
   have H' := Am H
   clear H
   obtain ⟨Dv, Dw, Dx, Dy, Dz, D0, D1, D2, D3, D4⟩ := bc10 Aa.out
   obtain ⟨D5, D6, D7, D8, D9, Ea, Eb, Ec, Ed, Ee⟩ := bf10 Aa.out
   go_wp2
   go_meet
   case rel => exact ⟨_, (true), zr, H', ⟨zo⟩, ⟨pK Aa.out⟩, ⟨pE HB.out Ab.out⟩⟩
  rw [if_neg c8] at H
  have c8b0 := decide_eq_false c8
  clear c8
  by_cases c10 : a0_1 > 2147483647
  ·rw [if_pos c10] at H
   have c10b0 : decide (2147483647 < a0_1) = true := decide_eq_true c10
   clear c10
   have H' := Am H
   clear H
   obtain ⟨Ah, Ai, Aj, Ak, Al, An, Ao, Ap, Aq, Ar⟩ := bc10 Aa.out
   obtain ⟨As, At, Au, Av, Aw, Ax, Ay, Az, A0, A1⟩ := bf10 Aa.out
   go_wp2
   go_meet
   case rel => exact ⟨_, (true), zr, H', ⟨zo⟩, ⟨pK Aa.out⟩, ⟨pE HB.out Ab.out⟩⟩
  rw [if_neg c10] at H
  have c10b0 : decide (2147483647 < a0_1) = false := decide_eq_false c10
  clear c10
  obtain ⟨t342, A12, H⟩ := zb H
  by_cases c13 : t342 = true
  ·subst c13
   rw [if_pos rfl] at H
   have H' := Am H
   clear H
   obtain ⟨A2, A3, A4, A5, A6, A7, A8, A9, Ba, Bb⟩ := bc10 Aa.out
   obtain ⟨Bc, Bd, Be, Bf, Bg, Bh, Bi, Bj, Bk, Bl⟩ := bf10 Aa.out
   go_wp2_with (first | (go_at_call 37; (with_reducible refine (garnerref05_May.calls a0_4 _ _ l0_5 a0_6 a0_7 a0_8 a0_9 true _ ?Ac ?Ad A12.out).mono ?_); (case Ac => exact pC (Kd.C_below Af.out HB.out)); (case Ad => exact Ag.out); rintro e w15 ⟨rfl, hb⟩; replace Aa := kBa Aa hb; replace HB := zX1 HB Ab.out hb; (try clear hb); obtain ⟨Bm, Bn, Bo, Bp, Bq, Br, Bs, Bt, Bu, Bv⟩ := bc10 Aa.out; obtain ⟨Bw, Bx, By, Bz, B0, B1, B2, B3, B4, B5⟩ := bf10 Aa.out))
   go_meet
   case rel => exact ⟨_, (decide ((a0_3.size : Int) > 64)), zr, H', ⟨zo⟩, ⟨pK Aa.out⟩, ⟨pE HB.out Ab.out⟩⟩
  replace c13 := Bool.eq_false_iff.mpr c13
  subst c13
  rw [if_neg zF] at H
  have H' := Am H
  clear H
  obtain ⟨B6, B7, B8, B9, Ca, Cb, Cc, Cd, Ce, Cf⟩ := bc10 Aa.out
  obtain ⟨Cg, Ch, Ci, Cj, Ck, Cl, Cm, Cn, Co, Cp⟩ := bf10 Aa.out
  go_wp2_with (first | (go_at_call 37; (with_reducible refine (garnerref05_May.calls a0_4 _ _ l0_5 a0_6 a0_7 a0_8 a0_9 false _ ?Ac ?Ad A12.out).mono ?_); (case Ac => exact pC (Kd.C_below Af.out HB.out)); (case Ad => exact Ag.out); rintro e w18 ⟨rfl, hb⟩; replace Aa := kBa Aa hb; replace HB := zX1 HB Ab.out hb; (try clear hb)))
  go_meet
  case rel => exact ⟨_, (true), zr, H', ⟨zo⟩, ⟨pK Aa.out⟩, ⟨pE HB.out Ab.out⟩⟩
 case rest =>
  clear HC2
  try clear c1
  try clear p2
  try clear c4
  try clear c4b0
  try clear c6
  try clear c6b0
  try clear c8
  try clear c8b0
  try clear c10
  try clear c10b0
  try clear c13
  try clear c18
  try clear Ah Ai Aj Ak Al An Ao Ap Aq Ar
  try clear A2 A3 A4 A5 A6 A7 A8 A9 Ba Bb
  try clear Bm Bn Bo Bp Bq Br Bs Bt Bu Bv
  try clear B6 B7 B8 B9 Ca Cb Cc Cd Ce Cf
  try clear Cr Cs Ct Cu Cv Cw Cx Cy Cz C0
  try clear Db Dc Dd De Df Dg Dh Di Dj Dk
  try clear Dv Dw Dx Dy Dz D0 D1 D2 D3 D4
  try clear As At Au Av Aw Ax Ay Az A0 A1
  try clear Bc Bd Be Bf Bg Bh Bi Bj Bk Bl
  try clear Bw Bx By Bz B0 B1 B2 B3 B4 B5
  try clear Cg Ch Ci Cj Ck Cl Cm Cn Co Cp
  try clear C1 C2 C3 C4 C5 C6 C7 C8 C9 Da
  try clear Dl Dm Dn Do Dp Dq Dr Ds Dt Du
  try clear D5 D6 D7 D8 D9 Ea Eb Ec Ed Ee
  obtain ⟨kq, Ae, rfl, HA, HJ1, Aa, HB⟩ := hcut
  cases kq with
  | zero => exact absurd HA.out (by simp [garnerref06_May.j0])
  | succ kj1 =>
   have H := HA.out
   clear HA
   simp only [garnerref06_May.j0] at H
   by_cases c19 : Ae = true
   ·subst c19
    rw [if_pos rfl] at H
    obtain rfl := Option.some.inj H
    go_wp2
    go_ret
    exact ⟨pX, pE HB.out Ab.out⟩
   replace c19 := Bool.eq_false_iff.mpr c19
   subst c19
   rw [if_neg zF] at H
   by_cases c20 : a0_2 = 0
   ·rw [if_pos c20] at H
    obtain ⟨c20b0, c20b1⟩ := zc c20
    clear c20
    obtain rfl := Option.some.inj H
    obtain ⟨_, _, _, _, _, _, _, _, _, _⟩ := bc10 Aa.out
    obtain ⟨_, _, _, _, _, _, _, _, _, _⟩ := bf10 Aa.out
    go_wp2
    go_ret
    exact ⟨pX, pE HB.out Ab.out⟩
   rw [if_neg c20] at H
   obtain ⟨c20b0, c20b1⟩ := zk c20
   by_cases c22 : a0_2 = 2
   rotate_left
   ·rw [if_neg c22] at H
    obtain ⟨c22b0, c22b1⟩ := zk c22
    by_cases c28 : a0_2 = 1
    ·rw [if_pos c28] at H
     obtain ⟨c28b0, c28b1⟩ := zc c28
     clear c28
     obtain rfl := Option.some.inj H
     obtain ⟨_, _, _, _, _, _, _, _, _, _⟩ := bc10 Aa.out
     obtain ⟨_, _, _, _, _, _, _, _, _, _⟩ := bf10 Aa.out
     go_wp2
     go_ret
     exact ⟨pX, pE HB.out Ab.out⟩
    rw [if_neg c28] at H
    obtain ⟨c28b0, c28b1⟩ := zk c28
    obtain rfl := Option.some.inj H
    obtain ⟨_, _, _, _, _, _, _, _, _, _⟩ := bc10 Aa.out
    obtain ⟨_, _, _, _, _, _, _, _, _, _⟩ := bf10 Aa.out
    go_wp2
    go_ret
    exact ⟨pX, pE HB.out Ab.out⟩
   rw [if_pos c22] at H
   obtain ⟨c22b0, c22b1⟩ := zc c22
   clear c22
   by_cases c23 : a0_3.toList = ([] : List UInt8)
   ·rw [if_pos c23] at H
    obtain ⟨c23b0, c23b1⟩ := zc c23
    clear c23
    obtain rfl := Option.some.inj H
    obtain ⟨_, _, _, _, _, _, _, _, _, _⟩ := bc10 Aa.out
    obtain ⟨_, _, _, _, _, _, _, _, _, _⟩ := bf10 Aa.out
    go_wp2
    go_ret
    exact ⟨pX, pE HB.out Ab.out⟩
   rw [if_neg c23] at H
   obtain ⟨c23b0, c23b1⟩ := zk c23
   obtain ⟨t343, A25, H⟩ := zb H
   obtain rfl := Option.some.inj H
   obtain ⟨_, _, _, _, _, _, _, _, _, _⟩ := bc10 Aa.out
   obtain ⟨_, _, _, _, _, _, _, _, _, _⟩ := bf10 Aa.out
   go_wp2_with (first | (go_at_call 38; (refine (garnerref05_Same.calls kj1 a0_4 _ _ l0_5 a0_6 a0_7 a0_8 a0_9 false _ _ ([] : List Int) 0 0 0 0 t343 _ ?Ac ?Ad ?Eg ?Eh A25.out).mono ?_); (case Ac => exact pC (Kd.C_below Af.out HB.out)); (case Ad => exact Ag.out); (case Eg => exact Kd.C_nil _ _); (case Eh => exact Nat.le_refl _); rintro e w27 ⟨rfl, hb⟩; replace Aa := kBa Aa hb; replace HB := zX1 HB Ab.out hb; (try clear hb)))
   go_ret
   exact ⟨pX, pE HB.out Ab.out⟩
end
section
attribute [local go_sem] max2_int min2_int max_two min_two max_three min_three max_four min_four
attribute [local go_sem] wrap64_l1 wrap64_l2 wrap64_l3 wrap64_l4 wrap64_l5
def garnerref06_Batch.l0 : Nat → List (S54) → Int → Option (Bool)
 | 0, _, _ => none
 | k + 1, x0, x3 => if x3 < (x0.length : Int) then (if 0 ≤ x3 then ((garnerref06_May.f k ((rd_T54 x0 x3).f0) ((rd_T54 x0 x3).f1) ((rd_T54 x0 x3).f2) ((rd_T54 x0 x3).f3) ((rd_T54 x0 x3).f4.f0) ((rd_T54 x0 x3).f4.f1) ((rd_T54 x0 x3).f4.f2.f0) ((rd_T54 x0 x3).f4.f2.f1) ((rd_T54 x0 x3).f4.f2.f2) ((rd_T54 x0 x3).f4.f2.f3)).bind fun t345 => (if t345 = true then (if x3 > 0 then (if 0 ≤ (wrap64 (x3 - 1)) then (if (wrap64 (x3 - 1)) < (x0.length : Int) then (if (wrap64 (((rd_T54 x0 x3).f0) - 1)) = ((rd_T54 x0 (wrap64 (x3 - 1))).f0) then (if ((rd_T54 x0 x3).f1) < ((rd_T54 x0 (wrap64 (x3 - 1))).f1) then (some false) else (garnerref06_Batch.l0 k x0 (wrap64 (x3 + 1)))) else (some false)) else (none)) else (none)) else (garnerref06_Batch.l0 k x0 (wrap64 (x3 + 1)))) else (some false))) else (none)) else (if (x0.length : Int) ≥ 1 then (some (decide ((x0.length : Int) ≤ 16))) else (some false))
def garnerref06_Batch.f (k : Nat) (l0 : List (S54)) : Option (Bool) := garnerref06_Batch.l0 k l0 0
theorem garnerref06_Batch.mono_l : ∀ k, (∀ y0 y1, LeO (garnerref06_Batch.l0 k y0 y1) (garnerref06_Batch.l0 (k + 1) y0 y1))
 | 0 => fun _ _ r h => by simp [garnerref06_Batch.l0] at h
 | k + 1 => by
  have ih0 := garnerref06_Batch.mono_l k
  ·intro y0 y1
   unfold garnerref06_Batch.l0
   repeat' (with_reducible first | exact ih0 .. | exact garnerref06_May.mono .. | exact LeO.refl .. | exact LeO.none .. | refine LeO.ite ?_ ?_ | refine LeO.bind ?_ (fun _ => ?_))
theorem garnerref06_Batch.mono : ∀ a0 k, LeO (garnerref06_Batch.f k a0) (garnerref06_Batch.f (k + 1) a0) := by
 intro a0 k
 have ih0 := garnerref06_Batch.mono_l k
 unfold garnerref06_Batch.f
 repeat' (with_reducible first | exact ih0 .. | exact garnerref06_May.mono .. | exact LeO.refl .. | exact LeO.none .. | refine LeO.ite ?_ ?_ | refine LeO.bind ?_ (fun _ => ?_))
def garnerref06_Batch.T4 : Bool × List (List Nat × List Nat) := (true, [([], []), ([], []), ([0, 1], [0, 1]), ([2], [2]), ([3], [3]), ([4], [4]), ([5, 4], [5]), ([6], [6]), ([7, 6], [6, 7]), ([8, 6, 6], [6, 8]), ([9], [9]), ([9], [9]), ([10, 11, 9], [9, 10, 11]), ([12, 9], [9, 12]), ([13, 9], [9, 13]), ([14, 9], [9, 14]), ([9], [9]), ([9], [9]), ([17, 9], [9, 17]), ([16, 18, 9], [9, 16, 18]), ([19, 9], [9, 19]), ([20, 9], [9, 20]), ([15, 21, 9], [9, 15, 21]), ([22, 9, 9], [9, 22]), ([23], [23]), ([23], [23]), ([24, 25, 23], [23, 24, 25]), ([26, 23], [23, 26]), ([27, 23], [23, 27]), ([23], [23]), ([23], [23]), ([30, 23], [23, 30]), ([29, 31, 23], [23, 29, 31]), ([32, 23], [23, 32]), ([33, 23], [23, 33]), ([28, 34, 23], [23, 28, 34]), ([23, 35, 9], [9, 23, 35]), ([9, 36, 6], [6, 9, 36]), ([6, 37], [6, 37])])
def garnerref06_Batch.B4 : List Nat := [0, 0, 3, 7, 15, 31, 63, 127, 255, 511, 1023, 1023, 4095, 8191, 16383, 32767, 1023, 1023, 132095, 459775, 984063, 2032639, 4194303, 8388607, 16777215, 16777215, 67108863, 134217727, 268435455, 16777215, 16777215, 1090519039, 3774873599, 8069840895, 16659775487, 34359738367, 68719476735, 137438953471, 274877906943]
theorem garnerref06_Batch.tab4 : rtab .any (opsOf Try.f22 4) = garnerref06_Batch.T4 := by kernel_rfl
theorem garnerref06_Batch.bits4 : waitsOk garnerref06_Batch.T4.2 garnerref06_Batch.B4 = true := by kernel_rfl
set_option maxHeartbeats 8000000 in
set_option maxRecDepth 100000 in
theorem garnerref06_Batch.calls (k : Nat) (A0 : Option Addr) (c0 : Nat) (l0 : List (S54)) (r : Bool) (w : World) (hr0 : Kd.C k54 w A0 l0.length l0) (hc0 : l0.length ≤ c0) (h : garnerref06_Batch.f k l0 = some r) :
 Calls Try.prog 22 #[.slice A0 l0.length c0] w fun e w' => e = .returned (.bool r) ∧ Below w.heap.size w w' := by
 have hu54 := Try.underlying54
 have HR0 := Am hr0
 have HC0 := Am hc0
 clear hr0 hc0
 have HB := Am (Below.refl w.heap.size w)
 unfold garnerref06_Batch.f at h
 have H := h
 clear h
 have H' := Am H
 clear H
 go_enter Try.func22, Try.ntmps22
 go_wp2
 go_loopg [3] k (fun kq v3 w' => ∃ (Aa : Int), v3 = .int .i64 Aa ∧ Aside0 (garnerref06_Batch.l0 kq l0 Aa = some r) ∧ Aside0 (kq ≤ k) ∧ Aside0 (Below w.heap.size w w'))
 case atStart => exact ⟨(0), zr, H', ⟨Nat.le_refl _⟩, ⟨pB HB.out⟩⟩
 case round =>
  clear H'
  obtain ⟨Aa, rfl, HA, HK1, HB⟩ := hrel
  cases gk with
  | zero => exact absurd HA.out (by simp [garnerref06_Batch.l0])
  | succ k1 =>
   have H := HA.out
   clear HA
   simp only [garnerref06_Batch.l0] at H
   by_cases c2 : Aa < (l0.length : Int)
   rotate_left
   ·rw [if_neg c2] at H
    have c2b0 := decide_eq_false c2
    clear c2
    by_cases c22 : (l0.length : Int) ≥ 1
    ·rw [if_pos c22] at H
     have c22b0 : decide (1 ≤ (l0.length : Int)) = true := decide_eq_true c22
     have c22b1 : decide (1 ≤ l0.length) = true := decide_eq_true (by omega)
     clear c22
     obtain rfl := Option.some.inj H
     go_wp2
     go_ret
     exact ⟨pX, pB HB.out⟩
    rw [if_neg c22] at H
    have c22b0 : decide (1 ≤ (l0.length : Int)) = false := decide_eq_false c22
    have c22b1 : decide (1 ≤ l0.length) = false := decide_eq_false (by omega)
    clear c22
    obtain rfl := Option.some.inj H
    go_wp2
    go_ret
    exact ⟨pX, pB HB.out⟩
   rw [if_pos c2] at H
   have c2b0 := decide_eq_true c2
   clear c2
   obtain ⟨c3, H⟩ := zI H
   have c3b0 := decide_eq_true c3
   clear c3
   obtain ⟨t345, A4, H⟩ := zb H
   by_cases c5 : t345 = true
   rotate_left
   ·replace c5 := Bool.eq_false_iff.mpr c5
    subst c5
    rw [if_neg zF] at H
    obtain rfl := Option.some.inj H
    try go_wp2
    replace HB := bDa HB
    have p344 : 0 ≤ (Aa : Int) := of_decide_eq_true pS
    have q344 : Aa < (l0.length : Int) := of_decide_eq_true pS
    obtain ⟨Ab, Aq, c344_5, e344, Ar, As, At, Au, Av, Aw, Ax, Ay, Az, A1, Ac, Ad, Ae, Af, Ag, Ah, Ai, Aj, Ak, Al, An, Ao⟩ := at_T54w HR0.out Aa p344 q344 HB.out
    cases e344
    have Ap := Am Ad
    have A2 := Am Ac
    clear Ad Ac
    replace p344 := eq_true p344
    replace q344 := eq_true q344
    refine start_ (n := 39) (S := fun w' => w'.cell? (Ab.add ((Aa).toNat * 10)) = some (.int .i64 ((rd_T54 l0 Aa).f0)) ∧ cA w' (Ab.add ((Aa).toNat * 10)) 1 (.int .i64 ((rd_T54 l0 Aa).f1)) ∧ cA w' (Ab.add ((Aa).toNat * 10)) 2 (.int .i64 ((rd_T54 l0 Aa).f2)) ∧ cA w' (Ab.add ((Aa).toNat * 10)) 3 (.string ((rd_T54 l0 Aa).f3)) ∧ cA w' (Ab.add ((Aa).toNat * 10)) 4 (.bool ((rd_T54 l0 Aa).f4.f0)) ∧ cA w' (Ab.add ((Aa).toNat * 10)) 5 (.slice Aq ((rd_T54 l0 Aa).f4.f1).length c344_5) ∧ cA w' (Ab.add ((Aa).toNat * 10)) 6 (.int .i64 ((rd_T54 l0 Aa).f4.f2.f0)) ∧ cA w' (Ab.add ((Aa).toNat * 10)) 7 (.int .i64 ((rd_T54 l0 Aa).f4.f2.f1)) ∧ cA w' (Ab.add ((Aa).toNat * 10)) 8 (.int .i64 ((rd_T54 l0 Aa).f4.f2.f2)) ∧ cA w' (Ab.add ((Aa).toNat * 10)) 9 (.int .u32 ((rd_T54 l0 Aa).f4.f2.f3))) (ds := []) #[false, false, false, false, false, false, false, false, false, false, false, false, false, false, false, false, false, false, false, false, false, false, false, false, false, false, false, false, false, false, false, false, false, false, false, false, false, false, false] (by kernel_rfl) rfl rfl ⟨(cT HB.out Ae), (cT HB.out Af), (cT HB.out Ag), (cT HB.out Ah), (cT HB.out Ai), (cT HB.out Aj), (cT HB.out Ak), (cT HB.out Al), (cT HB.out An), (cT HB.out Ao)⟩ (fun hHeld => ?_); refine with_tabW garnerref06_Batch.tab4 garnerref06_Batch.bits4 (fun HT_ HW_ => ?_)
    generalize wr.drew = w20 at HB Ap Ar As At Au Av Aw Ax Ay Az A1 hHeld ⊢
    refine pui 0 10 39 1 HT_ ?_
    refine zp 1 (h := zp 2 (h := zw 3 (h := ?_)))
    refine onei 4 14 39 31 HT_ (fun K hK => ?_)
    refine goes_ Try.func18 (by kernel_rfl) rfl #[.agg #[.int .i64 ((rd_T54 l0 Aa).f0), .int .i64 ((rd_T54 l0 Aa).f1), .int .i64 ((rd_T54 l0 Aa).f2), .string ((rd_T54 l0 Aa).f3), .bool ((rd_T54 l0 Aa).f4.f0), .slice Aq ((rd_T54 l0 Aa).f4.f1).length c344_5, .int .i64 ((rd_T54 l0 Aa).f4.f2.f0), .int .i64 ((rd_T54 l0 Aa).f4.f2.f1), .int .i64 ((rd_T54 l0 Aa).f4.f2.f2), .int .u32 ((rd_T54 l0 Aa).f4.f2.f3)]] (by rfl) rfl rfl pL ?_
    with_reducible refine (garnerref06_May.calls k1 ((rd_T54 l0 Aa).f0) ((rd_T54 l0 Aa).f1) ((rd_T54 l0 Aa).f2) ((rd_T54 l0 Aa).f3) ((rd_T54 l0 Aa).f4.f0) _ _ ((rd_T54 l0 Aa).f4.f1) ((rd_T54 l0 Aa).f4.f2.f0) ((rd_T54 l0 Aa).f4.f2.f1) ((rd_T54 l0 Aa).f4.f2.f2) ((rd_T54 l0 Aa).f4.f2.f3) false _ ?A8 ?A9 A4.out).mono ?_
    (case A8 => exact pC (Kd.C_below Ap.out HB.out))
    (case A9 => exact A2.out)
    rintro e w21 ⟨rfl, hb⟩
    refine ⟨_, rfl, ?_⟩
    replace HB := zB HB hb
    (try clear hb)
    (try clear hb2)
    (try clear hk)
    (try clear hi)
    refine hK.out _ _ ⟨(cT HB.out Ae), (cT HB.out Af), (cT HB.out Ag), (cT HB.out Ah), (cT HB.out Ai), (cT HB.out Aj), (cT HB.out Ak), (cT HB.out Al), (cT HB.out An), (cT HB.out Ao)⟩ (fun hHeld => ?_)
    clear hK K
    refine norm_ (a' := ?_) ?_ ?_
    rotate_left
    ·show Act.put _ (some 14) _ = _
     simp only [Act.put, List.setIfInBounds_toArray, List.set_cons_zero, List.set_cons_succ, i64_w, i32_w]
     rfl
    refine pui 5 15 39 63 HT_ ?_
    refine zp 6 (h := zq 7 (h := zq 8 (h := zq 9 (h := zq 10 (h := zq 11 (h := zq 12 (h := zq 13 (h := zq 14 (h := zq 15 (h := zq 16 (h := zq 17 (h := zq 18 (h := zq 19 (h := zq 20 (h := zq 21 (h := zq 22 (h := zq 23 (h := zq 24 (h := zq 25 (h := zq 26 (h := zq 27 (h := zq 28 (h := zq 29 (h := zq 30 (h := zq 31 (h := zq 32 (h := zq 33 (h := zq 34 (h := zq 35 (h := zq 36 (h := zq 37 (h := zp 38 (h := ?_)))))))))))))))))))))))))))))))))
    refine done_ (done_of HT_.out (by kernel_rfl)) ?_
    try go_wp2
    go_ret
    exact ⟨pX, pB HB.out⟩
   subst c5
   rw [if_pos rfl] at H
   by_cases c6 : Aa > 0
   rotate_left
   ·rw [if_neg c6] at H
    have c6b0 : decide (0 < Aa) = false := decide_eq_false c6
    clear c6
    have H' := Am H
    clear H
    try go_wp2
    replace HB := bDa HB
    have p344 : 0 ≤ (Aa : Int) := of_decide_eq_true pS
    have q344 : Aa < (l0.length : Int) := of_decide_eq_true pS
    obtain ⟨Ab, Aq, c344_5, e344, Ar, As, At, Au, Av, Aw, Ax, Ay, Az, A1, Ac, Ad, Ae, Af, Ag, Ah, Ai, Aj, Ak, Al, An, Ao⟩ := at_T54w HR0.out Aa p344 q344 HB.out
    cases e344
    have Ap := Am Ad
    have A2 := Am Ac
    clear Ad Ac
    replace p344 := eq_true p344
    replace q344 := eq_true q344
    refine start_ (n := 39) (S := fun w' => w'.cell? (Ab.add ((Aa).toNat * 10)) = some (.int .i64 ((rd_T54 l0 Aa).f0)) ∧ cA w' (Ab.add ((Aa).toNat * 10)) 1 (.int .i64 ((rd_T54 l0 Aa).f1)) ∧ cA w' (Ab.add ((Aa).toNat * 10)) 2 (.int .i64 ((rd_T54 l0 Aa).f2)) ∧ cA w' (Ab.add ((Aa).toNat * 10)) 3 (.string ((rd_T54 l0 Aa).f3)) ∧ cA w' (Ab.add ((Aa).toNat * 10)) 4 (.bool ((rd_T54 l0 Aa).f4.f0)) ∧ cA w' (Ab.add ((Aa).toNat * 10)) 5 (.slice Aq ((rd_T54 l0 Aa).f4.f1).length c344_5) ∧ cA w' (Ab.add ((Aa).toNat * 10)) 6 (.int .i64 ((rd_T54 l0 Aa).f4.f2.f0)) ∧ cA w' (Ab.add ((Aa).toNat * 10)) 7 (.int .i64 ((rd_T54 l0 Aa).f4.f2.f1)) ∧ cA w' (Ab.add ((Aa).toNat * 10)) 8 (.int .i64 ((rd_T54 l0 Aa).f4.f2.f2)) ∧ cA w' (Ab.add ((Aa).toNat * 10)) 9 (.int .u32 ((rd_T54 l0 Aa).f4.f2.f3))) (ds := []) #[false, false, false, false, false, false, false, false, false, false, false, false, false, false, false, false, false, false, false, false, false, false, false, false, false, false, false, false, false, false, false, false, false, false, false, false, false, false, false] (by kernel_rfl) rfl rfl ⟨(cT HB.out Ae), (cT HB.out Af), (cT HB.out Ag), (cT HB.out Ah), (cT HB.out Ai), (cT HB.out Aj), (cT HB.out Ak), (cT HB.out Al), (cT HB.out An), (cT HB.out Ao)⟩ (fun hHeld => ?_); refine with_tabW garnerref06_Batch.tab4 garnerref06_Batch.bits4 (fun HT_ HW_ => ?_)
    generalize wr.drew = w18 at HB Ap Ar As At Au Av Aw Ax Ay Az A1 hHeld ⊢
    refine pui 0 10 39 1 HT_ ?_
    refine zp 1 (h := zp 2 (h := zw 3 (h := ?_)))
    refine onei 4 14 39 31 HT_ (fun K hK => ?_)
    refine goes_ Try.func18 (by kernel_rfl) rfl #[.agg #[.int .i64 ((rd_T54 l0 Aa).f0), .int .i64 ((rd_T54 l0 Aa).f1), .int .i64 ((rd_T54 l0 Aa).f2), .string ((rd_T54 l0 Aa).f3), .bool ((rd_T54 l0 Aa).f4.f0), .slice Aq ((rd_T54 l0 Aa).f4.f1).length c344_5, .int .i64 ((rd_T54 l0 Aa).f4.f2.f0), .int .i64 ((rd_T54 l0 Aa).f4.f2.f1), .int .i64 ((rd_T54 l0 Aa).f4.f2.f2), .int .u32 ((rd_T54 l0 Aa).f4.f2.f3)]] (by rfl) rfl rfl pL ?_
    with_reducible refine (garnerref06_May.calls k1 ((rd_T54 l0 Aa).f0) ((rd_T54 l0 Aa).f1) ((rd_T54 l0 Aa).f2) ((rd_T54 l0 Aa).f3) ((rd_T54 l0 Aa).f4.f0) _ _ ((rd_T54 l0 Aa).f4.f1) ((rd_T54 l0 Aa).f4.f2.f0) ((rd_T54 l0 Aa).f4.f2.f1) ((rd_T54 l0 Aa).f4.f2.f2) ((rd_T54 l0 Aa).f4.f2.f3) true _ ?A8 ?A9 A4.out).mono ?_
    (case A8 => exact pC (Kd.C_below Ap.out HB.out))
    (case A9 => exact A2.out)
    rintro e w19 ⟨rfl, hb⟩
    refine ⟨_, rfl, ?_⟩
    replace HB := zB HB hb
    (try clear hb)
    (try clear hb2)
    (try clear hk)
    (try clear hi)
    refine hK.out _ _ ⟨(cT HB.out Ae), (cT HB.out Af), (cT HB.out Ag), (cT HB.out Ah), (cT HB.out Ai), (cT HB.out Aj), (cT HB.out Ak), (cT HB.out Al), (cT HB.out An), (cT HB.out Ao)⟩ (fun hHeld => ?_)
    clear hK K
    refine norm_ (a' := ?_) ?_ ?_
    rotate_left
    ·show Act.put _ (some 14) _ = _
     simp only [Act.put, List.setIfInBounds_toArray, List.set_cons_zero, List.set_cons_succ, i64_w, i32_w]
     rfl
    refine pui 5 15 39 63 HT_ ?_
    refine zp 6 (h := zp 7 (h := zp 8 (h := zp 9 (h := zq 10 (h := zq 11 (h := zq 12 (h := zq 13 (h := zq 14 (h := zq 15 (h := zq 16 (h := zq 17 (h := zq 18 (h := zq 19 (h := zq 20 (h := zq 21 (h := zq 22 (h := zq 23 (h := zq 24 (h := zq 25 (h := zq 26 (h := zq 27 (h := zq 28 (h := zq 29 (h := zq 30 (h := zq 31 (h := zq 32 (h := zq 33 (h := zq 34 (h := zq 35 (h := zq 36 (h := zp 37 (h := zp 38 (h := ?_)))))))))))))))))))))))))))))))))
    refine done_ (done_of HT_.out (by kernel_rfl)) ?_
    try go_wp2
    go_roundg k1
    case measure => have := HK1.out; omega
    case rel => exact ⟨(wrap64 (Aa + 1)), zr, H', ⟨by have := HK1.out; omega⟩, ⟨pB HB.out⟩⟩
   rw [if_pos c6] at H
   have c6b0 : decide (0 < Aa) = true := decide_eq_true c6
   clear c6
   obtain ⟨ji7, hji7⟩ : ∃ j_ : Int, (wrap64 (Aa - 1)) = j_ := ⟨_, rfl⟩
   replace H : (if 0 ≤ (ji7) then (if (ji7) < (l0.length : Int) then (if (wrap64 (((rd_T54 l0 Aa).f0) - 1)) = ((rd_T54 l0 (ji7)).f0) then (if ((rd_T54 l0 Aa).f1) < ((rd_T54 l0 (ji7)).f1) then (some false) else (garnerref06_Batch.l0 k1 l0 (wrap64 (Aa + 1)))) else (some false)) else (none)) else (none)) = some r := by first | (rw [hji7] at H; exact H) | (simp only [hji7] at H ⊢; exact H)
   (try rw [hji7] at A4)
   have hji7w : (IntKind.i64.wrap (Aa - 1)) = ji7 := (i64_w _).trans hji7
   obtain ⟨c8, H⟩ := zI H
   have c8b0 := decide_eq_true c8
   clear c8
   obtain ⟨c9, H⟩ := zI H
   have c9b0 := decide_eq_true c9
   clear c9
   by_cases c10 : (wrap64 (((rd_T54 l0 Aa).f0) - 1)) = ((rd_T54 l0 (ji7)).f0)
   rotate_left
   ·rw [if_neg c10] at H
    obtain ⟨c10b0, c10b1⟩ := zk c10
    obtain rfl := Option.some.inj H
    try go_wp2
    replace HB := bDa HB
    have p344 : 0 ≤ (Aa : Int) := of_decide_eq_true pS
    have q344 : Aa < (l0.length : Int) := of_decide_eq_true pS
    obtain ⟨Ab, Aq, c344_5, e344, Ar, As, At, Au, Av, Aw, Ax, Ay, Az, A1, Ac, Ad, Ae, Af, Ag, Ah, Ai, Aj, Ak, Al, An, Ao⟩ := at_T54w HR0.out Aa p344 q344 HB.out
    cases e344
    have Ap := Am Ad
    have A2 := Am Ac
    clear Ad Ac
    replace p344 := eq_true p344
    replace q344 := eq_true q344
    have p347 : 0 ≤ ((ji7) : Int) := of_decide_eq_true pS
    have q347 : (ji7) < (l0.length : Int) := of_decide_eq_true pS
    obtain ⟨By, Ca, c347_5, e347, Ba, Bb, Bc, Bd, Be, A7, Bf, Bg, Bh, Bi, A3, A5, A6, Bz, B0, B1, B2, B3, B4, B5, B6, B7⟩ := at_T54w HR0.out (ji7) p347 q347 HB.out
    obtain rfl : Ab = By := (by injection e347)
    have Bj := Am A5
    have B8 := Am A3
    clear A5 A3
    replace p347 := eq_true p347
    replace q347 := eq_true q347
    refine start_ (n := 39) (S := fun w' => w'.cell? (Ab.add ((Aa).toNat * 10)) = some (.int .i64 ((rd_T54 l0 Aa).f0)) ∧ cA w' (Ab.add ((Aa).toNat * 10)) 1 (.int .i64 ((rd_T54 l0 Aa).f1)) ∧ cA w' (Ab.add ((Aa).toNat * 10)) 2 (.int .i64 ((rd_T54 l0 Aa).f2)) ∧ cA w' (Ab.add ((Aa).toNat * 10)) 3 (.string ((rd_T54 l0 Aa).f3)) ∧ cA w' (Ab.add ((Aa).toNat * 10)) 4 (.bool ((rd_T54 l0 Aa).f4.f0)) ∧ cA w' (Ab.add ((Aa).toNat * 10)) 5 (.slice Aq ((rd_T54 l0 Aa).f4.f1).length c344_5) ∧ cA w' (Ab.add ((Aa).toNat * 10)) 6 (.int .i64 ((rd_T54 l0 Aa).f4.f2.f0)) ∧ cA w' (Ab.add ((Aa).toNat * 10)) 7 (.int .i64 ((rd_T54 l0 Aa).f4.f2.f1)) ∧ cA w' (Ab.add ((Aa).toNat * 10)) 8 (.int .i64 ((rd_T54 l0 Aa).f4.f2.f2)) ∧ cA w' (Ab.add ((Aa).toNat * 10)) 9 (.int .u32 ((rd_T54 l0 Aa).f4.f2.f3)) ∧ w'.cell? (Ab.add (((ji7)).toNat * 10)) = some (.int .i64 ((rd_T54 l0 (ji7)).f0))) (ds := []) #[false, false, false, false, false, false, false, false, false, false, false, false, false, false, false, false, false, false, false, false, false, false, false, false, false, false, false, false, false, false, false, false, false, false, false, false, false, false, false] (by kernel_rfl) rfl rfl ⟨(cT HB.out Ae), (cT HB.out Af), (cT HB.out Ag), (cT HB.out Ah), (cT HB.out Ai), (cT HB.out Aj), (cT HB.out Ak), (cT HB.out Al), (cT HB.out An), (cT HB.out Ao), (cT HB.out A6)⟩ (fun hHeld => ?_); refine with_tabW garnerref06_Batch.tab4 garnerref06_Batch.bits4 (fun HT_ HW_ => ?_)
    generalize wr.drew = w16 at HB Ap Bj Ar As At Au Av Aw Ax Ay Az A1 Ba Bb Bc Bd Be A7 Bf Bg Bh Bi hHeld ⊢
    refine pui 0 10 39 1 HT_ ?_
    refine zp 1 (h := zp 2 (h := zw 3 (h := ?_)))
    refine onei 4 14 39 31 HT_ (fun K hK => ?_)
    refine goes_ Try.func18 (by kernel_rfl) rfl #[.agg #[.int .i64 ((rd_T54 l0 Aa).f0), .int .i64 ((rd_T54 l0 Aa).f1), .int .i64 ((rd_T54 l0 Aa).f2), .string ((rd_T54 l0 Aa).f3), .bool ((rd_T54 l0 Aa).f4.f0), .slice Aq ((rd_T54 l0 Aa).f4.f1).length c344_5, .int .i64 ((rd_T54 l0 Aa).f4.f2.f0), .int .i64 ((rd_T54 l0 Aa).f4.f2.f1), .int .i64 ((rd_T54 l0 Aa).f4.f2.f2), .int .u32 ((rd_T54 l0 Aa).f4.f2.f3)]] (by rfl) rfl rfl pL ?_
    with_reducible refine (garnerref06_May.calls k1 ((rd_T54 l0 Aa).f0) ((rd_T54 l0 Aa).f1) ((rd_T54 l0 Aa).f2) ((rd_T54 l0 Aa).f3) ((rd_T54 l0 Aa).f4.f0) _ _ ((rd_T54 l0 Aa).f4.f1) ((rd_T54 l0 Aa).f4.f2.f0) ((rd_T54 l0 Aa).f4.f2.f1) ((rd_T54 l0 Aa).f4.f2.f2) ((rd_T54 l0 Aa).f4.f2.f3) true _ ?A8 ?A9 A4.out).mono ?_
    (case A8 => exact pC (Kd.C_below Ap.out HB.out))
    (case A9 => exact A2.out)
    rintro e w17 ⟨rfl, hb⟩
    refine ⟨_, rfl, ?_⟩
    replace HB := zB HB hb
    (try clear hb)
    (try clear hb2)
    (try clear hk)
    (try clear hi)
    refine hK.out _ _ ⟨(cT HB.out Ae), (cT HB.out Af), (cT HB.out Ag), (cT HB.out Ah), (cT HB.out Ai), (cT HB.out Aj), (cT HB.out Ak), (cT HB.out Al), (cT HB.out An), (cT HB.out Ao), (cT HB.out A6)⟩ (fun hHeld => ?_)
    clear hK K
    refine norm_ (a' := ?_) ?_ ?_
    rotate_left
    ·show Act.put _ (some 14) _ = _
     simp only [Act.put, List.setIfInBounds_toArray, List.set_cons_zero, List.set_cons_succ, i64_w, i32_w]
     rfl
    refine pui 5 15 39 63 HT_ ?_
    refine zp 6 (h := zp 7 (h := zp 8 (h := zp 9 (h := zp 10 (h := zp 11 (h := zp 12 (h := zp 13 (h := zp 16 (h := zp 17 (h := zp 18 (h := zp 19 (h := zp 20 (h := zw 14 (h := zp 15 (h := zw 21 (h := zp 22 (h := zp 23 (h := zq 24 (h := zq 25 (h := zq 26 (h := zq 27 (h := zq 28 (h := zq 29 (h := zq 30 (h := zq 31 (h := zq 32 (h := zq 33 (h := zq 34 (h := zq 35 (h := zp 36 (h := zp 37 (h := zp 38 (h := ?_)))))))))))))))))))))))))))))))))
    refine done_ (done_of HT_.out (by kernel_rfl)) ?_
    try go_wp2
    go_ret
    exact ⟨by first | rfl | (simp [errW_none, errW_some] <;> rfl) | (simp only [← hji7]; first | rfl | (simp [errW_none, errW_some] <;> rfl)) | (simp [*, errW_none, errW_some] <;> rfl), pB HB.out⟩
   rw [if_pos c10] at H
   obtain ⟨c10b0, c10b1⟩ := zc c10
   clear c10
   by_cases c11 : ((rd_T54 l0 Aa).f1) < ((rd_T54 l0 (ji7)).f1)
   ·rw [if_pos c11] at H
    have c11b0 := decide_eq_true c11
    clear c11
    obtain rfl := Option.some.inj H
    try go_wp2
    replace HB := bDa HB
    have p344 : 0 ≤ (Aa : Int) := of_decide_eq_true pS
    have q344 : Aa < (l0.length : Int) := of_decide_eq_true pS
    obtain ⟨Ab, Aq, c344_5, e344, Ar, As, At, Au, Av, Aw, Ax, Ay, Az, A1, Ac, Ad, Ae, Af, Ag, Ah, Ai, Aj, Ak, Al, An, Ao⟩ := at_T54w HR0.out Aa p344 q344 HB.out
    cases e344
    have Ap := Am Ad
    have A2 := Am Ac
    clear Ad Ac
    replace p344 := eq_true p344
    replace q344 := eq_true q344
    have p347 : 0 ≤ ((ji7) : Int) := of_decide_eq_true pS
    have q347 : (ji7) < (l0.length : Int) := of_decide_eq_true pS
    obtain ⟨By, Ca, c347_5, e347, Ba, Bb, Bc, Bd, Be, A7, Bf, Bg, Bh, Bi, A3, A5, A6, Bz, B0, B1, B2, B3, B4, B5, B6, B7⟩ := at_T54w HR0.out (ji7) p347 q347 HB.out
    obtain rfl : Ab = By := (by injection e347)
    have Bj := Am A5
    have B8 := Am A3
    clear A5 A3
    replace p347 := eq_true p347
    replace q347 := eq_true q347
    have p349 : 0 ≤ ((ji7) : Int) := of_decide_eq_true pS
    have q349 : (ji7) < (l0.length : Int) := of_decide_eq_true pS
    obtain ⟨B9, Cl, c349_5, e349, Bo, Bp, Bq, Br, Bs, Bk, Bt, Bu, Bv, Bw, Bl, Bm, Cb, Bn, Cc, Cd, Ce, Cf, Cg, Ch, Ci, Cj⟩ := at_T54w HR0.out (ji7) p349 q349 HB.out
    obtain rfl : Ab = B9 := (by injection e349)
    have Bx := Am Bm
    have Ck := Am Bl
    clear Bm Bl
    replace p349 := eq_true p349
    replace q349 := eq_true q349
    have ea_ := Option.some.inj (A7.symm.trans Bk)
    injection ea_ with ea_ en_ ec_
    subst ea_
    subst ec_
    clear en_
    refine start_ (n := 39) (S := fun w' => w'.cell? (Ab.add ((Aa).toNat * 10)) = some (.int .i64 ((rd_T54 l0 Aa).f0)) ∧ cA w' (Ab.add ((Aa).toNat * 10)) 1 (.int .i64 ((rd_T54 l0 Aa).f1)) ∧ cA w' (Ab.add ((Aa).toNat * 10)) 2 (.int .i64 ((rd_T54 l0 Aa).f2)) ∧ cA w' (Ab.add ((Aa).toNat * 10)) 3 (.string ((rd_T54 l0 Aa).f3)) ∧ cA w' (Ab.add ((Aa).toNat * 10)) 4 (.bool ((rd_T54 l0 Aa).f4.f0)) ∧ cA w' (Ab.add ((Aa).toNat * 10)) 5 (.slice Aq ((rd_T54 l0 Aa).f4.f1).length c344_5) ∧ cA w' (Ab.add ((Aa).toNat * 10)) 6 (.int .i64 ((rd_T54 l0 Aa).f4.f2.f0)) ∧ cA w' (Ab.add ((Aa).toNat * 10)) 7 (.int .i64 ((rd_T54 l0 Aa).f4.f2.f1)) ∧ cA w' (Ab.add ((Aa).toNat * 10)) 8 (.int .i64 ((rd_T54 l0 Aa).f4.f2.f2)) ∧ cA w' (Ab.add ((Aa).toNat * 10)) 9 (.int .u32 ((rd_T54 l0 Aa).f4.f2.f3)) ∧ w'.cell? (Ab.add (((ji7)).toNat * 10)) = some (.int .i64 ((rd_T54 l0 (ji7)).f0)) ∧ w'.cell? ⟨(Ab.add (((ji7)).toNat * 10)).block, (Ab.add (((ji7)).toNat * 10)).off + 1, none⟩ = some (.int .i64 ((rd_T54 l0 (ji7)).f1))) (ds := []) #[false, false, false, false, false, false, false, false, false, false, false, false, false, false, false, false, false, false, false, false, false, false, false, false, false, false, false, false, false, false, false, false, false, false, false, false, false, false, false] (by kernel_rfl) rfl rfl ⟨(cT HB.out Ae), (cT HB.out Af), (cT HB.out Ag), (cT HB.out Ah), (cT HB.out Ai), (cT HB.out Aj), (cT HB.out Ak), (cT HB.out Al), (cT HB.out An), (cT HB.out Ao), (cT HB.out A6), (cT HB.out Bn)⟩ (fun hHeld => ?_); refine with_tabW garnerref06_Batch.tab4 garnerref06_Batch.bits4 (fun HT_ HW_ => ?_)
    generalize wr.drew = w12 at HB Ap Bj Bx Ar As At Au Av Aw Ax Ay Az A1 Ba Bb Bc Bd Be A7 Bf Bg Bh Bi Bo Bp Bq Br Bs Bk Bt Bu Bv Bw hHeld ⊢
    refine pui 0 10 39 1 HT_ ?_
    refine zp 1 (h := zp 2 (h := zw 3 (h := ?_)))
    refine onei 4 14 39 31 HT_ (fun K hK => ?_)
    refine goes_ Try.func18 (by kernel_rfl) rfl #[.agg #[.int .i64 ((rd_T54 l0 Aa).f0), .int .i64 ((rd_T54 l0 Aa).f1), .int .i64 ((rd_T54 l0 Aa).f2), .string ((rd_T54 l0 Aa).f3), .bool ((rd_T54 l0 Aa).f4.f0), .slice Aq ((rd_T54 l0 Aa).f4.f1).length c344_5, .int .i64 ((rd_T54 l0 Aa).f4.f2.f0), .int .i64 ((rd_T54 l0 Aa).f4.f2.f1), .int .i64 ((rd_T54 l0 Aa).f4.f2.f2), .int .u32 ((rd_T54 l0 Aa).f4.f2.f3)]] (by rfl) rfl rfl pL ?_
    with_reducible refine (garnerref06_May.calls k1 ((rd_T54 l0 Aa).f0) ((rd_T54 l0 Aa).f1) ((rd_T54 l0 Aa).f2) ((rd_T54 l0 Aa).f3) ((rd_T54 l0 Aa).f4.f0) _ _ ((rd_T54 l0 Aa).f4.f1) ((rd_T54 l0 Aa).f4.f2.f0) ((rd_T54 l0 Aa).f4.f2.f1) ((rd_T54 l0 Aa).f4.f2.f2) ((rd_T54 l0 Aa).f4.f2.f3) true _ ?A8 ?A9 A4.out).mono ?_
    (case A8 => exact pC (Kd.C_below Ap.out HB.out))
    (case A9 => exact A2.out)
    rintro e w13 ⟨rfl, hb⟩
    refine ⟨_, rfl, ?_⟩
    replace HB := zB HB hb
    (try clear hb)
    (try clear hb2)
    (try clear hk)
    (try clear hi)
    refine hK.out _ _ ⟨(cT HB.out Ae), (cT HB.out Af), (cT HB.out Ag), (cT HB.out Ah), (cT HB.out Ai), (cT HB.out Aj), (cT HB.out Ak), (cT HB.out Al), (cT HB.out An), (cT HB.out Ao), (cT HB.out A6), (cT HB.out Bn)⟩ (fun hHeld => ?_)
    clear hK K
    refine norm_ (a' := ?_) ?_ ?_
    rotate_left
    ·show Act.put _ (some 14) _ = _
     simp only [Act.put, List.setIfInBounds_toArray, List.set_cons_zero, List.set_cons_succ, i64_w, i32_w]
     rfl
    refine pui 5 15 39 63 HT_ ?_
    refine zp 6 (h := zp 7 (h := zp 8 (h := zp 9 (h := zp 10 (h := zp 11 (h := zp 12 (h := zp 13 (h := zp 16 (h := zp 17 (h := zp 18 (h := zp 19 (h := zp 20 (h := zw 14 (h := zp 15 (h := zw 21 (h := zp 22 (h := zp 23 (h := zp 24 (h := zp 25 (h := zp 26 (h := zp 27 (h := zp 29 (h := zp 30 (h := zp 31 (h := zp 32 (h := zp 33 (h := zw 28 (h := zw 34 (h := zp 35 (h := zp 36 (h := zp 37 (h := zp 38 (h := ?_)))))))))))))))))))))))))))))))))
    refine done_ (done_of HT_.out (by kernel_rfl)) ?_
    try go_wp2
    go_ret
    exact ⟨by first | rfl | (simp [errW_none, errW_some] <;> rfl) | (simp only [← hji7]; first | rfl | (simp [errW_none, errW_some] <;> rfl)) | (simp [*, errW_none, errW_some] <;> rfl), pB HB.out⟩
   rw [if_neg c11] at H
   have c11b0 := decide_eq_false c11
   clear c11
   have H' := Am H
   clear H
   try go_wp2
   replace HB := bDa HB
   have p344 : 0 ≤ (Aa : Int) := of_decide_eq_true pS
   have q344 : Aa < (l0.length : Int) := of_decide_eq_true pS
   obtain ⟨Ab, Aq, c344_5, e344, Ar, As, At, Au, Av, Aw, Ax, Ay, Az, A1, Ac, Ad, Ae, Af, Ag, Ah, Ai, Aj, Ak, Al, An, Ao⟩ := at_T54w HR0.out Aa p344 q344 HB.out
   cases e344
   have Ap := Am Ad
   have A2 := Am Ac
   clear Ad Ac
   replace p344 := eq_true p344
   replace q344 := eq_true q344
   have p347 : 0 ≤ ((ji7) : Int) := of_decide_eq_true pS
   have q347 : (ji7) < (l0.length : Int) := of_decide_eq_true pS
   obtain ⟨By, Ca, c347_5, e347, Ba, Bb, Bc, Bd, Be, A7, Bf, Bg, Bh, Bi, A3, A5, A6, Bz, B0, B1, B2, B3, B4, B5, B6, B7⟩ := at_T54w HR0.out (ji7) p347 q347 HB.out
   obtain rfl : Ab = By := (by injection e347)
   have Bj := Am A5
   have B8 := Am A3
   clear A5 A3
   replace p347 := eq_true p347
   replace q347 := eq_true q347
   have p349 : 0 ≤ ((ji7) : Int) := of_decide_eq_true pS
   have q349 : (ji7) < (l0.length : Int) := of_decide_eq_true pS
   obtain ⟨B9, Cl, c349_5, e349, Bo, Bp, Bq, Br, Bs, Bk, Bt, Bu, Bv, Bw, Bl, Bm, Cb, Bn, Cc, Cd, Ce, Cf, Cg, Ch, Ci, Cj⟩ := at_T54w HR0.out (ji7) p349 q349 HB.out
   obtain rfl : Ab = B9 := (by injection e349)
   have Bx := Am Bm
   have Ck := Am Bl
   clear Bm Bl
   replace p349 := eq_true p349
   replace q349 := eq_true q349
   have ea_ := Option.some.inj (A7.symm.trans Bk)
   injection ea_ with ea_ en_ ec_
   subst ea_
   subst ec_
   clear en_
   refine start_ (n := 39) (S := fun w' => w'.cell? (Ab.add ((Aa).toNat * 10)) = some (.int .i64 ((rd_T54 l0 Aa).f0)) ∧ cA w' (Ab.add ((Aa).toNat * 10)) 1 (.int .i64 ((rd_T54 l0 Aa).f1)) ∧ cA w' (Ab.add ((Aa).toNat * 10)) 2 (.int .i64 ((rd_T54 l0 Aa).f2)) ∧ cA w' (Ab.add ((Aa).toNat * 10)) 3 (.string ((rd_T54 l0 Aa).f3)) ∧ cA w' (Ab.add ((Aa).toNat * 10)) 4 (.bool ((rd_T54 l0 Aa).f4.f0)) ∧ cA w' (Ab.add ((Aa).toNat * 10)) 5 (.slice Aq ((rd_T54 l0 Aa).f4.f1).length c344_5) ∧ cA w' (Ab.add ((Aa).toNat * 10)) 6 (.int .i64 ((rd_T54 l0 Aa).f4.f2.f0)) ∧ cA w' (Ab.add ((Aa).toNat * 10)) 7 (.int .i64 ((rd_T54 l0 Aa).f4.f2.f1)) ∧ cA w' (Ab.add ((Aa).toNat * 10)) 8 (.int .i64 ((rd_T54 l0 Aa).f4.f2.f2)) ∧ cA w' (Ab.add ((Aa).toNat * 10)) 9 (.int .u32 ((rd_T54 l0 Aa).f4.f2.f3)) ∧ w'.cell? (Ab.add (((ji7)).toNat * 10)) = some (.int .i64 ((rd_T54 l0 (ji7)).f0)) ∧ w'.cell? ⟨(Ab.add (((ji7)).toNat * 10)).block, (Ab.add (((ji7)).toNat * 10)).off + 1, none⟩ = some (.int .i64 ((rd_T54 l0 (ji7)).f1))) (ds := []) #[false, false, false, false, false, false, false, false, false, false, false, false, false, false, false, false, false, false, false, false, false, false, false, false, false, false, false, false, false, false, false, false, false, false, false, false, false, false, false] (by kernel_rfl) rfl rfl ⟨(cT HB.out Ae), (cT HB.out Af), (cT HB.out Ag), (cT HB.out Ah), (cT HB.out Ai), (cT HB.out Aj), (cT HB.out Ak), (cT HB.out Al), (cT HB.out An), (cT HB.out Ao), (cT HB.out A6), (cT HB.out Bn)⟩ (fun hHeld => ?_); refine with_tabW garnerref06_Batch.tab4 garnerref06_Batch.bits4 (fun HT_ HW_ => ?_)
   generalize wr.drew = w14 at HB Ap Bj Bx Ar As At Au Av Aw Ax Ay Az A1 Ba Bb Bc Bd Be A7 Bf Bg Bh Bi Bo Bp Bq Br Bs Bk Bt Bu Bv Bw hHeld ⊢
   refine pui 0 10 39 1 HT_ ?_
   refine zp 1 (h := zp 2 (h := zw 3 (h := ?_)))
   refine onei 4 14 39 31 HT_ (fun K hK => ?_)
   refine goes_ Try.func18 (by kernel_rfl) rfl #[.agg #[.int .i64 ((rd_T54 l0 Aa).f0), .int .i64 ((rd_T54 l0 Aa).f1), .int .i64 ((rd_T54 l0 Aa).f2), .string ((rd_T54 l0 Aa).f3), .bool ((rd_T54 l0 Aa).f4.f0), .slice Aq ((rd_T54 l0 Aa).f4.f1).length c344_5, .int .i64 ((rd_T54 l0 Aa).f4.f2.f0), .int .i64 ((rd_T54 l0 Aa).f4.f2.f1), .int .i64 ((rd_T54 l0 Aa).f4.f2.f2), .int .u32 ((rd_T54 l0 Aa).f4.f2.f3)]] (by rfl) rfl rfl pL ?_
   with_reducible refine (garnerref06_May.calls k1 ((rd_T54 l0 Aa).f0) ((rd_T54 l0 Aa).f1) ((rd_T54 l0 Aa).f2) ((rd_T54 l0 Aa).f3) ((rd_T54 l0 Aa).f4.f0) _ _ ((rd_T54 l0 Aa).f4.f1) ((rd_T54 l0 Aa).f4.f2.f0) ((rd_T54 l0 Aa).f4.f2.f1) ((rd_T54 l0 Aa).f4.f2.f2) ((rd_T54 l0 Aa).f4.f2.f3) true _ ?A8 ?A9 A4.out).mono ?_
   (case A8 => exact pC (Kd.C_below Ap.out HB.out))
   (case A9 => exact A2.out)
   rintro e w15 ⟨rfl, hb⟩
   refine ⟨_, rfl, ?_⟩
   replace HB := zB HB hb
   (try clear hb)
   (try clear hb2)
   (try clear hk)
   (try clear hi)
   refine hK.out _ _ ⟨(cT HB.out Ae), (cT HB.out Af), (cT HB.out Ag), (cT HB.out Ah), (cT HB.out Ai), (cT HB.out Aj), (cT HB.out Ak), (cT HB.out Al), (cT HB.out An), (cT HB.out Ao), (cT HB.out A6), (cT HB.out Bn)⟩ (fun hHeld => ?_)
   clear hK K
   refine norm_ (a' := ?_) ?_ ?_
   rotate_left
   ·show Act.put _ (some 14) _ = _
    simp only [Act.put, List.setIfInBounds_toArray, List.set_cons_zero, List.set_cons_succ, i64_w, i32_w]
    rfl
   refine pui 5 15 39 63 HT_ ?_
   refine zp 6 (h := zp 7 (h := zp 8 (h := zp 9 (h := zp 10 (h := zp 11 (h := zp 12 (h := zp 13 (h := zp 16 (h := zp 17 (h := zp 18 (h := zp 19 (h := zp 20 (h := zw 14 (h := zp 15 (h := zw 21 (h := zp 22 (h := zp 23 (h := zp 24 (h := zp 25 (h := zp 26 (h := zp 27 (h := zp 29 (h := zp 30 (h := zp 31 (h := zp 32 (h := zp 33 (h := zw 28 (h := zw 34 (h := zp 35 (h := zp 36 (h := zp 37 (h := zp 38 (h := ?_)))))))))))))))))))))))))))))))))
   refine done_ (done_of HT_.out (by kernel_rfl)) ?_
   try go_wp2
   go_roundg k1
   case measure => have := HK1.out; omega
   case rel => exact ⟨(wrap64 (Aa + 1)), zr, H', ⟨by have := HK1.out; omega⟩, ⟨pB HB.out⟩⟩
end
section
attribute [local go_sem] max2_int min2_int max_two min_two max_three min_three max_four min_four
attribute [local go_sem] wrap64_l1 wrap64_l2 wrap64_l3 wrap64_l4 wrap64_l5
attribute [local go_sem high] eqA24
def garnerref24_May.j0 : Nat → Bool → Int → List (S54) → Int → Int → Int → Int → Option (Bool)
 | 0, _, _, _, _, _, _, _ => none
 | k + 1, x32, x351000, x351001, x351002, x351003, x351004, x351005 => if x32 = true then (some false) else (if x351000 = 1 then ((garnerref06_Batch.f k x351001).bind fun t351 => (some t351)) else (if x351000 = 2 then ((garnerref22_May.f x351002 x351003 x351004).bind fun t352 => (some t352)) else (if x351000 = 3 then (if x351005 ≥ 1 then (some (decide (x351005 ≤ 2147483647))) else (some false)) else (some false))))
def garnerref24_May.f (k : Nat) (a0_0 : Int) (l0_1 : List (S54)) (a0_2 : Int) (a0_3 : Int) (a0_4 : Int) (a0_5 : Int) : Option (Bool) := if a0_0 = 1 then (if a0_0 = 2 then (if a0_0 = 3 then (garnerref24_May.j0 k false a0_0 l0_1 a0_2 a0_3 a0_4 a0_5) else (garnerref24_May.j0 k (a0_5 != 0) a0_0 l0_1 a0_2 a0_3 a0_4 a0_5)) else (if (!(a0_2 == 0) || (!(a0_3 == 0) || (!(a0_4 == 0)))) = true then (garnerref24_May.j0 k true a0_0 l0_1 a0_2 a0_3 a0_4 a0_5) else (if a0_0 = 3 then (garnerref24_May.j0 k false a0_0 l0_1 a0_2 a0_3 a0_4 a0_5) else (garnerref24_May.j0 k (a0_5 != 0) a0_0 l0_1 a0_2 a0_3 a0_4 a0_5)))) else (if (l0_1.length : Int) > 0 then (garnerref24_May.j0 k true a0_0 l0_1 a0_2 a0_3 a0_4 a0_5) else (if a0_0 = 2 then (if a0_0 = 3 then (garnerref24_May.j0 k false a0_0 l0_1 a0_2 a0_3 a0_4 a0_5) else (garnerref24_May.j0 k (a0_5 != 0) a0_0 l0_1 a0_2 a0_3 a0_4 a0_5)) else (if (!(a0_2 == 0) || (!(a0_3 == 0) || (!(a0_4 == 0)))) = true then (garnerref24_May.j0 k true a0_0 l0_1 a0_2 a0_3 a0_4 a0_5) else (if a0_0 = 3 then (garnerref24_May.j0 k false a0_0 l0_1 a0_2 a0_3 a0_4 a0_5) else (garnerref24_May.j0 k (a0_5 != 0) a0_0 l0_1 a0_2 a0_3 a0_4 a0_5)))))
theorem garnerref24_May.mono_l : ∀ k, (∀ y0 y1 y2 y3 y4 y5 y6, LeO (garnerref24_May.j0 k y0 y1 y2 y3 y4 y5 y6) (garnerref24_May.j0 (k + 1) y0 y1 y2 y3 y4 y5 y6))
 | 0 => fun _ _ _ _ _ _ _ r h => by simp [garnerref24_May.j0] at h
 | k + 1 => by
  have ih0 := garnerref24_May.mono_l k
  ·intro y0 y1 y2 y3 y4 y5 y6
   unfold garnerref24_May.j0
   repeat' (with_reducible first | exact ih0 .. | exact garnerref06_Batch.mono .. | exact LeO.refl .. | exact LeO.none .. | refine LeO.ite ?_ ?_ | refine LeO.bind ?_ (fun _ => ?_))
theorem garnerref24_May.mono : ∀ a0 a1 a2 a3 a4 a5 k, LeO (garnerref24_May.f k a0 a1 a2 a3 a4 a5) (garnerref24_May.f (k + 1) a0 a1 a2 a3 a4 a5) := by
 intro a0 a1 a2 a3 a4 a5 k
 have ih0 := garnerref24_May.mono_l k
 unfold garnerref24_May.f
 repeat' (with_reducible first | exact ih0 .. | exact garnerref06_Batch.mono .. | exact LeO.refl .. | exact LeO.none .. | refine LeO.ite ?_ ?_ | refine LeO.bind ?_ (fun _ => ?_))
set_option maxHeartbeats 8000000 in
set_option maxRecDepth 100000 in
theorem garnerref24_May.calls (k : Nat) (a0_0 : Int) (A0_1 : Option Addr) (c0_1 : Nat) (l0_1 : List (S54)) (a0_2 : Int) (a0_3 : Int) (a0_4 : Int) (a0_5 : Int) (r : Bool) (w : World) (hr0_1 : Kd.C k54 w A0_1 l0_1.length l0_1) (hc0_1 : l0_1.length ≤ c0_1) (h : garnerref24_May.f k a0_0 l0_1 a0_2 a0_3 a0_4 a0_5 = some r) :
 Calls Try.prog 10 #[.agg #[.int .i64 a0_0, .slice A0_1 l0_1.length c0_1, .int .i64 a0_2, .int .i64 a0_3, .int .i64 a0_4, .int .i64 a0_5]] w fun e w' => e = .returned (.bool r) ∧ Below w.heap.size w w' := by
 have hu34 := Try.underlying34
 have hu24 := Try.underlying24
 have D3 := Am hr0_1
 have D4 := Am hc0_1
 clear hr0_1 hc0_1
 have HB := Am (Below.refl w.heap.size w)
 unfold garnerref24_May.f at h
 have H := h
 clear h
 have HC2 := Am H
 clear H
 go_enter Try.func10, Try.ntmps10
 go_upto_region 1 with (first | ((with_reducible refine zD 1 rfl ?_); (try (refine gate_guard (by rfl) ?_; dsimp only)); refine zE 1 #[.int .i64 a0_0, .slice A0_1 l0_1.length c0_1, .int .i64 a0_2, .int .i64 a0_3, .int .i64 a0_4, .int .i64 a0_5] 34 ?_; intro De hg w3 hbox hb; have Aa := Am (hbox); have D5 := zA hg HB; replace HB := zB HB hb; have Ab := D5; clear hb hbox hg))
 (try simp only [Act.put, List.setIfInBounds_toArray, List.set_cons_zero, List.set_cons_succ])
 go_cut [32] (fun v32 wc => ∃ (kq : Nat) (Ac : Bool), v32 = .bool Ac ∧ Aside0 (garnerref24_May.j0 kq Ac a0_0 l0_1 a0_2 a0_3 a0_4 a0_5 = some r) ∧ Aside0 (kq ≤ k) ∧ Aside0 (wc.heap[De]? = some (.cells #[.int .i64 a0_0, (.slice A0_1 l0_1.length c0_1), .int .i64 a0_2, .int .i64 a0_3, .int .i64 a0_4, .int .i64 a0_5] 34 (0, 0))) ∧ Aside0 (Below w.heap.size w wc))
 case first =>
  have H := HC2.out
  clear HC2
  by_cases c4 : a0_0 = 1
  ·rw [if_pos c4] at H
   obtain ⟨c4b0, c4b1⟩ := zc c4
   clear c4
   (first | rw [c4b0] | (simp only [i64_w, i32_w]; rw [c4b0]) | skip)
   by_cases c5 : a0_0 = 2
   ·rw [if_pos c5] at H
    obtain ⟨c5b0, c5b1⟩ := zc c5
    clear c5
    by_cases c6 : a0_0 = 3
    rotate_left
    ·rw [if_neg c6] at H
     obtain ⟨c6b0, c6b1⟩ := zk c6
     have H' := Am H
     clear H
     obtain ⟨Dr, Ds, Dt, Du, Dv, Dw⟩ := bc6 Aa.out
     obtain ⟨Dx, Dy, Dz, D0, D1, D2⟩ := bf6 Aa.out
     go_wp2
     go_meet
     case rel => exact ⟨_, ((a0_5 != 0)), zr, H', ⟨zo⟩, ⟨pK Aa.out⟩, ⟨pE HB.out Ab.out⟩⟩
    rw [if_pos c6] at H
    obtain ⟨c6b0, c6b1⟩ := zc c6
    clear c6
    have H' := Am H
    clear H
    obtain ⟨Df, Dg, Dh, Di, Dj, Dk⟩ := bc6 Aa.out
    obtain ⟨Dl, Dm, Dn, Do, Dp, Dq⟩ := bf6 Aa.out
    go_wp2
    go_meet
    case rel => exact ⟨_, (false), zr, H', ⟨zo⟩, ⟨pK Aa.out⟩, ⟨pE HB.out Ab.out⟩⟩
   rw [if_neg c5] at H
   obtain ⟨c5b0, c5b1⟩ := zk c5
   by_cases c9 : (!(a0_2 == 0) || (!(a0_3 == 0) || (!(a0_4 == 0)))) = true
   ·rw [if_pos c9] at H
    have c9b0 : (!(a0_2 == 0) || (!(a0_3 == 0) || (!(a0_4 == 0)))) = true := c9
    clear c9
    have H' := Am H
    clear H
    obtain ⟨Ad, Ae, Af, Ag, Ah, Ai⟩ := bc6 Aa.out
    obtain ⟨Aj, Ak, Al, An, Ao, Ap⟩ := bf6 Aa.out
    go_wp2
    go_meet
    case rel => exact ⟨_, (true), zr, H', ⟨zo⟩, ⟨pK Aa.out⟩, ⟨pE HB.out Ab.out⟩⟩
   rw [if_neg c9] at H
   have c9b0 : (!(a0_2 == 0) || (!(a0_3 == 0) || (!(a0_4 == 0)))) = false := by simpa using c9
   clear c9
   by_cases c11 : a0_0 = 3
   rotate_left
   ·rw [if_neg c11] at H
    obtain ⟨c11b0, c11b1⟩ := zk c11
    have H' := Am H
    clear H
    obtain ⟨A2, A3, A4, A5, A6, A7⟩ := bc6 Aa.out
    obtain ⟨A8, A9, Ba, Bb, Bc, Bd⟩ := bf6 Aa.out
    go_wp2
    go_meet
    case rel => exact ⟨_, ((a0_5 != 0)), zr, H', ⟨zo⟩, ⟨pK Aa.out⟩, ⟨pE HB.out Ab.out⟩⟩
   rw [if_pos c11] at H
   obtain ⟨c11b0, c11b1⟩ := zc c11
   clear c11
   have H' := Am H
   clear H
   obtain ⟨Aq, Ar, As, At, Au, Av⟩ := bc6 Aa.out
   obtain ⟨Aw, Ax, Ay, Az, A0, A1⟩ := bf6 Aa.out
   go_wp2
   go_meet
   case rel => exact ⟨_, (false), zr, H', ⟨zo⟩, ⟨pK Aa.out⟩, ⟨pE HB.out Ab.out⟩⟩
  rw [if_neg c4] at H
  obtain ⟨c4b0, c4b1⟩ := zk c4
  (first | rw [c4b0] | (simp only [i64_w, i32_w]; rw [c4b0]) | skip)
  by_cases c14 : (l0_1.length : Int) > 0
  ·rw [if_pos c14] at H
   have c14b0 : decide (0 < (l0_1.length : Int)) = true := decide_eq_true c14
   have c14b1 : decide (0 < l0_1.length) = true := decide_eq_true (by omega)
   clear c14
   have H' := Am H
   clear H
   obtain ⟨Be, Bf, Bg, Bh, Bi, Bj⟩ := bc6 Aa.out
   obtain ⟨Bk, Bl, Bm, Bn, Bo, Bp⟩ := bf6 Aa.out
   go_wp2
   go_meet
   case rel => exact ⟨_, (true), zr, H', ⟨zo⟩, ⟨pK Aa.out⟩, ⟨pE HB.out Ab.out⟩⟩
  rw [if_neg c14] at H
  have c14b0 : decide (0 < (l0_1.length : Int)) = false := decide_eq_false c14
  have c14b1 : decide (0 < l0_1.length) = false := decide_eq_false (by omega)
  clear c14
  by_cases c16 : a0_0 = 2
  ·rw [if_pos c16] at H
   obtain ⟨c16b0, c16b1⟩ := zc c16
   clear c16
   by_cases c17 : a0_0 = 3
   rotate_left
   ·rw [if_neg c17] at H
    obtain ⟨c17b0, c17b1⟩ := zk c17
    have H' := Am H
    clear H
    obtain ⟨B2, B3, B4, B5, B6, B7⟩ := bc6 Aa.out
    obtain ⟨B8, B9, Ca, Cb, Cc, Cd⟩ := bf6 Aa.out
    go_wp2
    go_meet
    case rel => exact ⟨_, ((a0_5 != 0)), zr, H', ⟨zo⟩, ⟨pK Aa.out⟩, ⟨pE HB.out Ab.out⟩⟩
   rw [if_pos c17] at H
   obtain ⟨c17b0, c17b1⟩ := zc c17
   clear c17
   have H' := Am H
   clear H
   obtain ⟨Bq, Br, Bs, Bt, Bu, Bv⟩ := bc6 Aa.out
   obtain ⟨Bw, Bx, By, Bz, B0, B1⟩ := bf6 Aa.out
   go_wp2
   go_meet
   case rel => exact ⟨_, (false), zr, H', ⟨zo⟩, ⟨pK Aa.out⟩, ⟨pE HB.out Ab.out⟩⟩
  rw [if_neg c16] at H
  obtain ⟨c16b0, c16b1⟩ := zk c16
  by_cases c20 : (!(a0_2 == 0) || (!(a0_3 == 0) || (!(a0_4 == 0)))) = true
  ·rw [if_pos c20] at H
   have c20b0 : (!(a0_2 == 0) || (!(a0_3 == 0) || (!(a0_4 == 0)))) = true := c20
   clear c20
   have H' := Am H
   clear H
   obtain ⟨Ce, Cf, Cg, Ch, Ci, Cj⟩ := bc6 Aa.out
   obtain ⟨Ck, Cl, Cm, Cn, Co, Cp⟩ := bf6 Aa.out
   go_wp2
   go_meet
   case rel => exact ⟨_, (true), zr, H', ⟨zo⟩, ⟨pK Aa.out⟩, ⟨pE HB.out Ab.out⟩⟩
  rw [if_neg c20] at H
  have c20b0 : (!(a0_2 == 0) || (!(a0_3 == 0) || (!(a0_4 == 0)))) = false := by simpa using c20
  clear c20
  by_cases c22 : a0_0 = 3
  rotate_left
  ·rw [if_neg c22] at H
   obtain ⟨c22b0, c22b1⟩ := zk c22
   have H' := Am H
   clear H
   obtain ⟨C2, C3, C4, C5, C6, C7⟩ := bc6 Aa.out
   obtain ⟨C8, C9, Da, Db, Dc, Dd⟩ := bf6 Aa.out
   go_wp2
   go_meet
   case rel => exact ⟨_, ((a0_5 != 0)), zr, H', ⟨zo⟩, ⟨pK Aa.out⟩, ⟨pE HB.out Ab.out⟩⟩
  rw [if_pos c22] at H
  obtain ⟨c22b0, c22b1⟩ := zc c22
  clear c22
  have H' := Am H
  clear H
  obtain ⟨Cq, Cr, Cs, Ct, Cu, Cv⟩ := bc6 Aa.out
  obtain ⟨Cw, Cx, Cy, Cz, C0, C1⟩ := bf6 Aa.out
  go_wp2
  go_meet
  case rel => exact ⟨_, (false), zr, H', ⟨zo⟩, ⟨pK Aa.out⟩, ⟨pE HB.out Ab.out⟩⟩
 case rest =>
  clear HC2
  try clear c1
  try clear c2
  try clear p2
  try clear c4
  try clear c4b0
  try clear c4b1
  try clear c5
  try clear c5b0
  try clear c5b1
  try clear c6
  try clear c6b0
  try clear c6b1
  try clear c9
  try clear c9b0
  try clear c10
  try clear c11
  try clear c11b0
  try clear c11b1
  try clear c14
  try clear c14b0
  try clear c14b1
  try clear c16
  try clear c16b0
  try clear c16b1
  try clear c17
  try clear c17b0
  try clear c17b1
  try clear c20
  try clear c20b0
  try clear c22
  try clear c22b0
  try clear c22b1
  try clear Ad Ae Af Ag Ah Ai
  try clear Aq Ar As At Au Av
  try clear A2 A3 A4 A5 A6 A7
  try clear Be Bf Bg Bh Bi Bj
  try clear Bq Br Bs Bt Bu Bv
  try clear B2 B3 B4 B5 B6 B7
  try clear Ce Cf Cg Ch Ci Cj
  try clear Cq Cr Cs Ct Cu Cv
  try clear C2 C3 C4 C5 C6 C7
  try clear Df Dg Dh Di Dj Dk
  try clear Dr Ds Dt Du Dv Dw
  try clear Aj Ak Al An Ao Ap
  try clear Aw Ax Ay Az A0 A1
  try clear A8 A9 Ba Bb Bc Bd
  try clear Bk Bl Bm Bn Bo Bp
  try clear Bw Bx By Bz B0 B1
  try clear B8 B9 Ca Cb Cc Cd
  try clear Ck Cl Cm Cn Co Cp
  try clear Cw Cx Cy Cz C0 C1
  try clear C8 C9 Da Db Dc Dd
  try clear Dl Dm Dn Do Dp Dq
  try clear Dx Dy Dz D0 D1 D2
  obtain ⟨kq, Ac, rfl, HA, HJ1, Aa, HB⟩ := hcut
  cases kq with
  | zero => exact absurd HA.out (by simp [garnerref24_May.j0])
  | succ kj1 =>
   have H := HA.out
   clear HA
   simp only [garnerref24_May.j0] at H
   by_cases c25 : Ac = true
   ·subst c25
    rw [if_pos rfl] at H
    obtain rfl := Option.some.inj H
    go_wp2
    go_ret
    exact ⟨pX, pE HB.out Ab.out⟩
   replace c25 := Bool.eq_false_iff.mpr c25
   subst c25
   rw [if_neg zF] at H
   by_cases c26 : a0_0 = 1
   ·rw [if_pos c26] at H
    obtain ⟨c26b0, c26b1⟩ := zc c26
    clear c26
    obtain ⟨t351, A27, H⟩ := zb H
    obtain rfl := Option.some.inj H
    obtain ⟨_, _, _, _, _, _⟩ := bc6 Aa.out
    obtain ⟨_, _, _, _, _, _⟩ := bf6 Aa.out
    go_wp2_with (first | ((with_reducible refine zC 22 rfl ?_); refine zL (some 38) Try.func22 #[.slice A0_1 l0_1.length c0_1] ?_; (with_reducible refine (garnerref06_Batch.calls kj1 _ _ l0_1 t351 _ ?D6 ?D7 A27.out).mono ?_); (case D6 => exact pC (Kd.C_below D3.out HB.out)); (case D7 => exact D4.out); rintro e w29 ⟨rfl, hb⟩; refine ⟨_, rfl, ?_⟩; replace Aa := kBa Aa hb; replace HB := zX1 HB Ab.out hb; (try clear hb)))
    go_ret
    exact ⟨pX, pE HB.out Ab.out⟩
   rw [if_neg c26] at H
   obtain ⟨c26b0, c26b1⟩ := zk c26
   by_cases c30 : a0_0 = 2
   ·rw [if_pos c30] at H
    obtain ⟨c30b0, c30b1⟩ := zc c30
    clear c30
    obtain ⟨t352, A31, H⟩ := zb H
    obtain rfl := Option.some.inj H
    obtain ⟨_, _, _, _, _, _⟩ := bc6 Aa.out
    obtain ⟨_, _, _, _, _, _⟩ := bf6 Aa.out
    go_wp2_with (first | ((with_reducible refine zC 23 rfl ?_); refine zL (some 44) Try.func23 #[.agg #[.int .i64 a0_2, .int .i64 a0_3, .int .i64 a0_4]] ?_; (with_reducible refine (garnerref22_May.calls a0_2 a0_3 a0_4 t352 _ A31.out).mono ?_); rintro e w33 ⟨rfl, hb⟩; refine ⟨_, rfl, ?_⟩; replace Aa := kBa Aa hb; replace HB := zX1 HB Ab.out hb; (try clear hb)))
    go_ret
    exact ⟨pX, pE HB.out Ab.out⟩
   rw [if_neg c30] at H
   obtain ⟨c30b0, c30b1⟩ := zk c30
   by_cases c34 : a0_0 = 3
   rotate_left
   ·rw [if_neg c34] at H
    obtain ⟨c34b0, c34b1⟩ := zk c34
    obtain rfl := Option.some.inj H
    obtain ⟨_, _, _, _, _, _⟩ := bc6 Aa.out
    obtain ⟨_, _, _, _, _, _⟩ := bf6 Aa.out
    go_wp2
    go_ret
    exact ⟨pX, pE HB.out Ab.out⟩
   rw [if_pos c34] at H
   obtain ⟨c34b0, c34b1⟩ := zc c34
   clear c34
   by_cases c35 : a0_5 ≥ 1
   ·rw [if_pos c35] at H
    have c35b0 : decide (1 ≤ a0_5) = true := decide_eq_true c35
    clear c35
    obtain rfl := Option.some.inj H
    obtain ⟨_, _, _, _, _, _⟩ := bc6 Aa.out
    obtain ⟨_, _, _, _, _, _⟩ := bf6 Aa.out
    go_wp2
    go_ret
    exact ⟨pX, pE HB.out Ab.out⟩
   rw [if_neg c35] at H
   have c35b0 : decide (1 ≤ a0_5) = false := decide_eq_false c35
   clear c35
   obtain rfl := Option.some.inj H
   obtain ⟨_, _, _, _, _, _⟩ := bc6 Aa.out
   obtain ⟨_, _, _, _, _, _⟩ := bf6 Aa.out
   go_wp2
   go_ret
   exact ⟨pX, pE HB.out Ab.out⟩
end
end Go.Proofs.Ytmcijphmcobjlaa.PWalMakes
