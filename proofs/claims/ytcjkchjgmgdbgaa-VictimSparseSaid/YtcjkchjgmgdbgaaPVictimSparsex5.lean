/- What the law reaches, as plain Lean functions, and that the machine's calls answer just that. -/
import Derived.Test.YtcjkchjgmgdbgaaPVictimSparsex0
import Derived.Test.YtcjkchjgmgdbgaaPVictimSparsex2
import Derived.Test.YtcjkchjgmgdbgaaPVictimSparsex4
namespace Go.Proofs.Ytcjkchjgmgdbgaa.PVictimSparse
open Go.RowKit Go.Proofs.YtcjkchjgmgdbgaaW.PrintWords Go.Proofs.YtcjkchjgmgdbgaaW.PrintLast Go.Proofs.YtcjkchjgmgdbgaaW.PrintMore
attribute [local go_sem] max2_int min2_int max_two min_two max_three min_three max_four min_four
set_option linter.unusedVariables false
set_option linter.unusedSimpArgs false
attribute [local go_sem] wrap64_l1 wrap64_l2 wrap64_l3 wrap64_l4 wrap64_l5
def victim_part.f (k : Nat) (l0 : List Int) (l1 : List Int) (l2 : List (S132)) (a3 : Int) : Option (Int × Int) := if 0 ≤ a3 then (if a3 < (l1.length : Int) then (if (rd l1 a3) = 0 then (some (0, 1)) else (if a3 < (l0.length : Int) then ((tally_Get.f k l2 (rd l0 a3)).bind fun t147 => (some (t147, rd l1 a3))) else (none))) else (none)) else (none)
theorem victim_part.mono : ∀ a0 a1 a2 a3 k, LeO (victim_part.f k a0 a1 a2 a3) (victim_part.f (k + 1) a0 a1 a2 a3) := by
 intro a0 a1 a2 a3 k
 unfold victim_part.f
 repeat' first
   | (with_reducible exact tally_Get.mono _ _ _)
   | (with_reducible exact LeO.refl _)
   | (with_reducible exact LeO.none _)
   | (with_reducible refine LeO.ite ?_ ?_)
   | (with_reducible refine LeO.bind ?_ (fun _ => ?_))
   | exact tally_Get.mono _ _ _
   | exact LeO.none _
   | refine LeO.ite ?_ ?_
   | refine LeO.bind ?_ (fun _ => ?_)
def victim_part.T3 : Bool × List (List Nat × List Nat) := (true, [([], []), ([], []), ([], []), ([1, 2], [1, 2]), ([3], [3]), ([0, 4], [0, 4]), ([], []), ([], []), ([6, 7], [6, 7]), ([8], [8]), ([5, 5, 0, 1, 2, 3, 4, 5], [5]), ([9, 10, 0, 1, 2, 3, 4, 5, 6, 7, 8, 9, 10], [9])])
def victim_part.B3 : List Nat := [0, 0, 0, 6, 14, 31, 0, 0, 192, 448, 63, 2047]
theorem victim_part.tab3 : rtab .any (opsOf Try.f85 3) = victim_part.T3 := by kernel_rfl
theorem victim_part.bits3 : waitsOk victim_part.T3.2 victim_part.B3 = true := by kernel_rfl
set_option maxHeartbeats 8000000 in
set_option maxRecDepth 100000 in
theorem victim_part.calls (k : Nat) (A0 : Option Addr) (c0 : Nat) (l0 : List Int) (A1 : Option Addr) (c1 : Nat) (l1 : List Int) (A2 : Option Addr) (c2 : Nat) (l2 : List (S132)) (a3 : Int) (r1 : Int) (r2 : Int) (w : World) (hr0 : Kd.C (Kd.int .i64) w A0 l0.length l0) (hc0 : l0.length ≤ c0) (hr1 : Kd.C (Kd.int .i64) w A1 l1.length l1) (hc1 : l1.length ≤ c1) (hr2 : Kd.C k132 w A2 l2.length l2) (hc2 : l2.length ≤ c2) (h : victim_part.f k l0 l1 l2 a3 = some (r1, r2)) :
  Calls Try.prog 85 #[.slice A0 l0.length c0, .slice A1 l1.length c1, .slice A2 l2.length c2, .int .i64 a3] w fun e w' => e = .returned (.tuple #[.int .i64 r1, .int .i64 r2]) ∧ Below w.heap.size w w' := by
 have HR0 := Aside0.mk hr0
 have HC0 := Aside0.mk hc0
 clear hr0 hc0
 have HR1 := Aside0.mk hr1
 have HC1 := Aside0.mk hc1
 clear hr1 hc1
 have HR2 := Aside0.mk hr2
 have HC2 := Aside0.mk hc2
 clear hr2 hc2
 have HB := Aside0.mk (Below.refl w.heap.size w)
 have H : (if 0 ≤ a3 then (if a3 < (l1.length : Int) then (if (rd l1 a3) = 0 then (some (0, 1)) else (if a3 < (l0.length : Int) then ((tally_Get.f k l2 (rd l0 a3)).bind fun t147 => (some (t147, rd l1 a3))) else (none))) else (none)) else (none)) = some (r1, r2) := h
 clear h
 by_cases c5 : 0 ≤ a3
 ·rw [if_pos c5] at H
  have c5b0 : decide (0 ≤ a3) = true := decide_eq_true c5
  clear c5
  by_cases c6 : a3 < (l1.length : Int)
  ·rw [if_pos c6] at H
   have c6b0 : decide (a3 < (l1.length : Int)) = true := decide_eq_true c6
   clear c6
   by_cases c7 : (rd l1 a3) = 0
   ·rw [if_pos c7] at H
    have c7b0 : ((rd l1 a3) == 0) = true := beq_iff_eq.mpr c7
    have c7b1 : ((rd l1 a3) != 0) = false := bne_eq_false_iff_eq.mpr c7
    clear c7
    simp only [Option.some.injEq, Prod.mk.injEq] at H
    obtain ⟨rfl, rfl⟩ := H
    have p145 : 0 ≤ (a3 : Int) := of_decide_eq_true pS
    have q145 : a3 < (l1.length : Int) := of_decide_eq_true pS
    obtain ⟨ad145, e145, hx145_0⟩ := Kd.at_int HR1.out a3 p145 q145
    cases e145
    replace p145 := eq_true p145
    replace q145 := eq_true q145
    go_enter Try.func85, Try.ntmps85
    go_wp2
    go_ret2
    exact ⟨by first | rfl | (simp [errW_none, errW_some] <;> rfl) | (simp [*, errW_none, errW_some] <;> rfl), by repeat (first | (with_reducible first | exact HB.out | apply below_alloc | apply pw_below_drewN | apply below_drew1) | exact HB.out)⟩
   ·rw [if_neg c7] at H
    have c7b0 : ((rd l1 a3) == 0) = false := beq_eq_false_iff_ne.mpr c7
    have c7b1 : ((rd l1 a3) != 0) = true := bne_iff_ne.mpr c7
    by_cases c8 : a3 < (l0.length : Int)
    ·rw [if_pos c8] at H
     have c8b0 : decide (a3 < (l0.length : Int)) = true := decide_eq_true c8
     clear c8
     replace H := Option.bind_eq_some_iff.mp H
     obtain ⟨t147, A90, H⟩ := H
     replace H : (some (t147, rd l1 a3)) = some (r1, r2) := H
     have A9 := Aside0.mk A90
     clear A90
     simp only [Option.some.injEq, Prod.mk.injEq] at H
     obtain ⟨rfl, rfl⟩ := H
     have p145 : 0 ≤ (a3 : Int) := of_decide_eq_true pS
     have q145 : a3 < (l1.length : Int) := of_decide_eq_true pS
     obtain ⟨ad145, e145, hx145_0⟩ := Kd.at_int HR1.out a3 p145 q145
     cases e145
     replace p145 := eq_true p145
     replace q145 := eq_true q145
     go_enter Try.func85, Try.ntmps85
     try go_wp2
     have n0_ := Aside0.mk (below_drew1 HB.out)
     clear HB
     have HB := n0_
     clear n0_
     have p146 : 0 ≤ (a3 : Int) := of_decide_eq_true pS
     have q146 : a3 < (l0.length : Int) := of_decide_eq_true pS
     obtain ⟨ad146, e146, hx146_0⟩ := Kd.at_int HR0.out a3 p146 q146
     have hw146_0 := hx146_0
     cases e146
     replace hx146_0 := (HB.out.cell (World.block_lt_of_cell? w _ hx146_0)).trans hx146_0
     replace p146 := eq_true p146
     replace q146 := eq_true q146
     have p148 : 0 ≤ (a3 : Int) := of_decide_eq_true pS
     have q148 : a3 < (l1.length : Int) := of_decide_eq_true pS
     obtain ⟨ad148, e148, hx148_0⟩ := Kd.at_int HR1.out a3 p148 q148
     have hw148_0 := hx148_0
     obtain rfl : ad145 = ad148 := (by injection e148)
     replace hx148_0 := (HB.out.cell (World.block_lt_of_cell? w _ hx148_0)).trans hx148_0
     replace p148 := eq_true p148
     replace q148 := eq_true q148
     refine start_ (n := 12) (S := fun w' => w'.cell? (ad146.add (a3).toNat) = some (.int .i64 (rd l0 a3)) ∧ w'.cell? (ad145.add (a3).toNat) = some (.int .i64 (rd l1 a3))) (ds := []) #[false, false, false, false, false, false, false, false, false, false, false, false] (by kernel_rfl) rfl rfl ⟨((HB.out.cell (World.block_lt_of_cell? w _ hw146_0)).trans hw146_0), ((HB.out.cell (World.block_lt_of_cell? w _ hw148_0)).trans hw148_0)⟩ (fun hHeld => ?_); refine with_tabW victim_part.tab3 victim_part.bits3 (fun HT_ HW_ => ?_)
     generalize w.drew = w10 at HB hx146_0 hx148_0 hHeld ⊢
     refine pure_ (i := 0) (N := some 15) (v := ?_) (a' := ?_) #[true, false, false, false, false, false, false, false, false, false, false, false] rfl rfl (any_of HT_.out (by kernel_rfl)) (fun _ _ _ h => h) (Or.inl ⟨by rfl, ?_⟩) ?_ ?_
     rotate_left
     ·intro w'
      go_simp
      with_reducible rfl
     rotate_left
     ·simp only [Act.put, List.setIfInBounds_toArray, List.set_cons_zero, List.set_cons_succ, i64_w, i32_w]
      rfl
     refine pure_ (i := 1) (N := some 16) (v := ?_) (a' := ?_) #[true, true, false, false, false, false, false, false, false, false, false, false] rfl rfl (any_of HT_.out (by kernel_rfl)) (fun _ _ _ h => h) (Or.inl ⟨by rfl, ?_⟩) ?_ ?_
     rotate_left
     ·intro w'
      go_simp
      with_reducible rfl
     rotate_left
     ·simp only [Act.put, List.setIfInBounds_toArray, List.set_cons_zero, List.set_cons_succ, i64_w, i32_w]
      rfl
     refine pure_ (i := 2) (N := some 17) (v := ?_) (a' := ?_) #[true, true, true, false, false, false, false, false, false, false, false, false] rfl rfl (any_of HT_.out (by kernel_rfl)) (fun _ _ _ h => h) (Or.inl ⟨by rfl, ?_⟩) ?_ ?_
     rotate_left
     ·intro w'
      go_simp
      with_reducible rfl
     rotate_left
     ·simp only [Act.put, List.setIfInBounds_toArray, List.set_cons_zero, List.set_cons_succ, i64_w, i32_w]
      rfl
     refine pure_ (i := 3) (N := some 18) (v := ?_) (a' := ?_) #[true, true, true, true, false, false, false, false, false, false, false, false] rfl rfl (any_of HT_.out (by kernel_rfl)) (fun _ _ _ h => h) (Or.inl ⟨by rfl, ?_⟩) ?_ ?_
     rotate_left
     ·intro w'
      go_simp
      with_reducible rfl
     rotate_left
     ·simp only [Act.put, List.setIfInBounds_toArray, List.set_cons_zero, List.set_cons_succ, i64_w, i32_w]
      rfl
     refine pure_ (i := 6) (N := some 21) (v := ?_) (a' := ?_) #[true, true, true, true, false, false, true, false, false, false, false, false] rfl rfl (any_of HT_.out (by kernel_rfl)) (fun _ _ _ h => h) (Or.inl ⟨by rfl, ?_⟩) ?_ ?_
     rotate_left
     ·intro w'
      go_simp
      with_reducible rfl
     rotate_left
     ·simp only [Act.put, List.setIfInBounds_toArray, List.set_cons_zero, List.set_cons_succ, i64_w, i32_w]
      rfl
     refine pure_ (i := 7) (N := some 22) (v := ?_) (a' := ?_) #[true, true, true, true, false, false, true, true, false, false, false, false] rfl rfl (any_of HT_.out (by kernel_rfl)) (fun _ _ _ h => h) (Or.inl ⟨by rfl, ?_⟩) ?_ ?_
     rotate_left
     ·intro w'
      go_simp
      with_reducible rfl
     rotate_left
     ·simp only [Act.put, List.setIfInBounds_toArray, List.set_cons_zero, List.set_cons_succ, i64_w, i32_w]
      rfl
     refine pure_ (i := 8) (N := some 23) (v := ?_) (a' := ?_) #[true, true, true, true, false, false, true, true, true, false, false, false] rfl rfl (any_of HT_.out (by kernel_rfl)) (fun _ _ _ h => h) (Or.inl ⟨by rfl, ?_⟩) ?_ ?_
     rotate_left
     ·intro w'
      go_simp
      with_reducible rfl
     rotate_left
     ·simp only [Act.put, List.setIfInBounds_toArray, List.set_cons_zero, List.set_cons_succ, i64_w, i32_w]
      rfl
     refine take_ (i := 4) (N := some 19) (v := ?_) (a' := ?_) #[true, true, true, true, true, false, true, true, true, false, false, false] rfl rfl (take_ofW HT_.out HW_.out (by kernel_rfl)) (fun _ _ _ h => h) (Or.inl ⟨by rfl, ?_⟩) hHeld ?_ ?_
     rotate_left
     ·rintro w' ⟨s0, s1⟩
      go_simp
      with_reducible rfl
     rotate_left
     ·simp only [Act.put, List.setIfInBounds_toArray, List.set_cons_zero, List.set_cons_succ, i64_w, i32_w]
      rfl
     refine take_ (i := 9) (N := some 24) (v := ?_) (a' := ?_) #[true, true, true, true, true, false, true, true, true, true, false, false] rfl rfl (take_ofW HT_.out HW_.out (by kernel_rfl)) (fun _ _ _ h => h) (Or.inl ⟨by rfl, ?_⟩) hHeld ?_ ?_
     rotate_left
     ·rintro w' ⟨s0, s1⟩
      go_simp
      with_reducible rfl
     rotate_left
     ·simp only [Act.put, List.setIfInBounds_toArray, List.set_cons_zero, List.set_cons_succ, i64_w, i32_w]
      rfl
     refine one_ (i := 5) (N := some 20) #[true, true, true, true, true, true, true, true, true, true, false, false] rfl rfl (one_of HT_.out (by kernel_rfl)) (by decide) (fun K hK => ?_)
     refine goes_ Try.func43 (by kernel_rfl) rfl #[.slice A2 l2.length c2, .int .i64 (rd l0 a3)] (by rfl) rfl rfl pL ?_
     with_reducible refine (tally_Get.calls k _ _ l2 (rd l0 a3) t147 _ ?side1 ?side2 A9.out).mono ?_
     (case side1 => exact pC (Kd.C_below HR2.out HB.out))
     (case side2 => exact HC2.out)
     rintro e w11 ⟨rfl, hb⟩
     refine ⟨_, rfl, ?_⟩
     have n0_ := Aside0.mk (below_step (pB HB.out) hb)
     clear HB
     have HB := n0_
     clear n0_
     (try clear hb)
     (try clear hb2)
     (try clear hk)
     (try clear hi)
     refine hK.out _ _ ⟨((HB.out.cell (World.block_lt_of_cell? w _ hw146_0)).trans hw146_0), ((HB.out.cell (World.block_lt_of_cell? w _ hw148_0)).trans hw148_0)⟩ (fun hHeld => ?_)
     clear hK K
     refine norm_ (a' := ?_) ?_ ?_
     rotate_left
     ·show Act.put _ (some 20) _ = _
      simp only [Act.put, List.setIfInBounds_toArray, List.set_cons_zero, List.set_cons_succ, i64_w, i32_w]
      rfl
     refine pure_ (i := 10) (N := some 8) (v := ?_) (a' := ?_) #[true, true, true, true, true, true, true, true, true, true, true, false] rfl rfl (any_of HT_.out (by kernel_rfl)) (fun _ _ _ h => h) (Or.inl ⟨by rfl, ?_⟩) ?_ ?_
     rotate_left
     ·intro w'
      go_simp
      with_reducible rfl
     rotate_left
     ·simp only [Act.put, List.setIfInBounds_toArray, List.set_cons_zero, List.set_cons_succ, i64_w, i32_w]
      rfl
     refine pure_ (i := 11) (N := some 9) (v := ?_) (a' := ?_) #[true, true, true, true, true, true, true, true, true, true, true, true] rfl rfl (any_of HT_.out (by kernel_rfl)) (fun _ _ _ h => h) (Or.inl ⟨by rfl, ?_⟩) ?_ ?_
     rotate_left
     ·intro w'
      go_simp
      with_reducible rfl
     rotate_left
     ·simp only [Act.put, List.setIfInBounds_toArray, List.set_cons_zero, List.set_cons_succ, i64_w, i32_w]
      rfl
     refine done_ (done_of HT_.out (by kernel_rfl)) ?_
     try go_wp2
     go_ret2
     exact ⟨by first | rfl | (simp [errW_none, errW_some] <;> rfl) | (simp [*, errW_none, errW_some] <;> rfl), by repeat (first | (with_reducible first | exact HB.out | apply below_alloc | apply pw_below_drewN | apply below_drew1) | exact HB.out)⟩
    ·rw [if_neg c8] at H
     exact absurd H (by simp)
  ·rw [if_neg c6] at H
   exact absurd H (by simp)
 ·rw [if_neg c5] at H
  exact absurd H (by simp)
def victim_Pick.l0 : Nat → List Int → List Int → List (S132) → Int → List Int → Int → Int → Option (Int × Bool)
 | 0, _, _, _, _, _, _, _ => none
 | k + 1, x0, x1, x2, x11, x30, x31, x32 => if x32 < x31 then (if 0 ≤ x32 then (if x32 < (x30.length : Int) then ((victim_part.f k x0 x1 x2 (rd x30 x32)).bind fun bt159 => ((victim_part.f k x0 x1 x2 x11).bind fun bt161 => (if (wrap64 (bt159.1 * bt161.2)) < (wrap64 (bt161.1 * bt159.2)) then (victim_Pick.l0 k x0 x1 x2 (rd x30 x32) x30 x31 (wrap64 (x32 + 1))) else (victim_Pick.l0 k x0 x1 x2 x11 x30 x31 (wrap64 (x32 + 1)))))) else (none)) else (none)) else (if 0 ≤ x11 then (if x11 < (x0.length : Int) then (some (rd x0 x11, true)) else (none)) else (none))
def victim_Pick.f (k : Nat) (l0 : List Int) (l1 : List Int) (l2 : List (S132)) (a3 : Int) : Option (Int × Bool) := (victim_places.f k l0 l1 l2 a3).bind fun t149 => (if (t149.length : Int) = 0 then (some (0, false)) else (if 0 < (t149.length : Int) then (if 1 ≤ (t149.length : Int) then ((some (t149.drop 1 : List Int)).bind fun y153 => (victim_Pick.l0 k l0 l1 l2 (rd t149 0) y153 (y153.length : Int) 0)) else (none)) else (none)))
theorem victim_Pick.mono_l : ∀ k, (∀ y0 y1 y2 y3 y4 y5 y6, LeO (victim_Pick.l0 k y0 y1 y2 y3 y4 y5 y6) (victim_Pick.l0 (k + 1) y0 y1 y2 y3 y4 y5 y6))
 | 0 => fun _ _ _ _ _ _ _ r h => by simp [victim_Pick.l0] at h
 | k + 1 => by
  have ih0 := victim_Pick.mono_l k
  ·intro y0 y1 y2 y3 y4 y5 y6
   unfold victim_Pick.l0
   repeat' first
   | (with_reducible exact ih0 _ _ _ _ _ _ _)
   | (with_reducible exact victim_part.mono _ _ _ _ _)
   | (with_reducible exact victim_places.mono _ _ _ _ _)
   | (with_reducible exact LeO.refl _)
   | (with_reducible exact LeO.none _)
   | (with_reducible refine LeO.ite ?_ ?_)
   | (with_reducible refine LeO.bind ?_ (fun _ => ?_))
   | exact ih0 _ _ _ _ _ _ _
   | exact victim_part.mono _ _ _ _ _
   | exact victim_places.mono _ _ _ _ _
   | exact LeO.none _
   | refine LeO.ite ?_ ?_
   | refine LeO.bind ?_ (fun _ => ?_)
theorem victim_Pick.mono : ∀ a0 a1 a2 a3 k, LeO (victim_Pick.f k a0 a1 a2 a3) (victim_Pick.f (k + 1) a0 a1 a2 a3) := by
 intro a0 a1 a2 a3 k
 have ih0 := victim_Pick.mono_l k
 unfold victim_Pick.f
 repeat' first
   | (with_reducible exact ih0 _ _ _ _ _ _ _)
   | (with_reducible exact victim_part.mono _ _ _ _ _)
   | (with_reducible exact victim_places.mono _ _ _ _ _)
   | (with_reducible exact LeO.refl _)
   | (with_reducible exact LeO.none _)
   | (with_reducible refine LeO.ite ?_ ?_)
   | (with_reducible refine LeO.bind ?_ (fun _ => ?_))
   | exact ih0 _ _ _ _ _ _ _
   | exact victim_part.mono _ _ _ _ _
   | exact victim_places.mono _ _ _ _ _
   | exact LeO.none _
   | refine LeO.ite ?_ ?_
   | refine LeO.bind ?_ (fun _ => ?_)
set_option maxHeartbeats 8000000 in
set_option maxRecDepth 100000 in
theorem victim_Pick.calls (k : Nat) (A0 : Option Addr) (c0 : Nat) (l0 : List Int) (A1 : Option Addr) (c1 : Nat) (l1 : List Int) (A2 : Option Addr) (c2 : Nat) (l2 : List (S132)) (a3 : Int) (r1 : Int) (r2 : Bool) (w : World) (hr0 : Kd.C (Kd.int .i64) w A0 l0.length l0) (hc0 : l0.length ≤ c0) (hr1 : Kd.C (Kd.int .i64) w A1 l1.length l1) (hc1 : l1.length ≤ c1) (hr2 : Kd.C k132 w A2 l2.length l2) (hc2 : l2.length ≤ c2) (h : victim_Pick.f k l0 l1 l2 a3 = some (r1, r2)) :
  Calls Try.prog 34 #[.slice A0 l0.length c0, .slice A1 l1.length c1, .slice A2 l2.length c2, .int .i64 a3] w fun e w' => e = .returned (.tuple #[.int .i64 r1, .bool r2]) ∧ Below w.heap.size w w' := by
 have HR0 := Aside0.mk hr0
 have HC0 := Aside0.mk hc0
 clear hr0 hc0
 have HR1 := Aside0.mk hr1
 have HC1 := Aside0.mk hc1
 clear hr1 hc1
 have HR2 := Aside0.mk hr2
 have HC2 := Aside0.mk hc2
 clear hr2 hc2
 have HB := Aside0.mk (Below.refl w.heap.size w)
 have H : ((victim_places.f k l0 l1 l2 a3).bind fun t149 => (if (t149.length : Int) = 0 then (some (0, false)) else (if 0 < (t149.length : Int) then (if 1 ≤ (t149.length : Int) then ((some (t149.drop 1 : List Int)).bind fun y153 => (victim_Pick.l0 k l0 l1 l2 (rd t149 0) y153 (y153.length : Int) 0)) else (none)) else (none)))) = some (r1, r2) := h
 clear h
 replace H := Option.bind_eq_some_iff.mp H
 obtain ⟨t149, A50, H⟩ := H
 replace H : (if (t149.length : Int) = 0 then (some (0, false)) else (if 0 < (t149.length : Int) then (if 1 ≤ (t149.length : Int) then ((some (t149.drop 1 : List Int)).bind fun y153 => (victim_Pick.l0 k l0 l1 l2 (rd t149 0) y153 (y153.length : Int) 0)) else (none)) else (none))) = some (r1, r2) := H
 have A5 := Aside0.mk A50
 clear A50
 by_cases c6 : (t149.length : Int) = 0
 ·rw [if_pos c6] at H
  have c6b0 : ((t149.length : Int) == 0) = true := beq_iff_eq.mpr c6
  have c6b1 : ((t149.length : Int) != 0) = false := bne_eq_false_iff_eq.mpr c6
  clear c6
  simp only [Option.some.injEq, Prod.mk.injEq] at H
  obtain ⟨rfl, rfl⟩ := H
  go_enter Try.func34, Try.ntmps34
  go_wp2_with (first | ((with_reducible refine gate_callee (f := 84) rfl ?_); refine goesL_ (some 22) rfl rfl Try.func84 (by kernel_rfl) rfl #[.slice A0 l0.length c0, .slice A1 l1.length c1, .slice A2 l2.length c2, .int .i64 a3] rfl pL ?_; (with_reducible refine (victim_places.calls k _ _ l0 _ _ l1 _ _ l2 a3 t149 _ ?side1 ?side2 ?side3 ?side4 ?side5 ?side6 A5.out).mono ?_); (case side1 => repeat (first | exact HR0.out | (with_reducible refine Kd.C_alloc ?_ _) | (with_reducible refine Kd.C_drewN ?_ _) | (with_reducible refine Kd.C_drew ?_))); (case side2 => exact HC0.out); (case side3 => repeat (first | exact HR1.out | (with_reducible refine Kd.C_alloc ?_ _) | (with_reducible refine Kd.C_drewN ?_ _) | (with_reducible refine Kd.C_drew ?_))); (case side4 => exact HC1.out); (case side5 => repeat (first | exact HR2.out | (with_reducible refine Kd.C_alloc ?_ _) | (with_reducible refine Kd.C_drewN ?_ _) | (with_reducible refine Kd.C_drew ?_))); (case side6 => exact HC2.out); rintro e w7 ⟨v150, rfl, ho0, hb⟩; refine ⟨_, rfl, ?_⟩; have n0_ := Aside0.mk (Kd.R_lower ho0 (below_size (pB HB.out))); have n1_ := Aside0.mk (below_step (pB HB.out) hb); clear HB; have HO151 := n0_; have HB := n1_; clear n0_ n1_; (try clear hb); (try clear hb2); (try clear hk); (try clear hi); (try clear ho0); obtain ⟨Ao8, co8, eo8⟩ := Kd.R_slice HO151.out; subst eo8))
  go_ret2
  exact ⟨by first | rfl | (simp [errW_none, errW_some] <;> rfl) | (simp [*, errW_none, errW_some] <;> rfl), by repeat (first | (with_reducible first | exact HB.out | apply below_alloc | apply pw_below_drewN | apply below_drew1) | exact HB.out)⟩
 ·rw [if_neg c6] at H
  have c6b0 : ((t149.length : Int) == 0) = false := beq_eq_false_iff_ne.mpr c6
  have c6b1 : ((t149.length : Int) != 0) = true := bne_iff_ne.mpr c6
  have c6b2 : ¬ (t149 = []) := fun h_ => c6 (by rw [h_]; rfl)
  by_cases c9 : 0 < (t149.length : Int)
  ·rw [if_pos c9] at H
   have c9b0 : decide (0 < (t149.length : Int)) = true := decide_eq_true c9
   have c9b1 : decide (0 < t149.length) = true := decide_eq_true (by omega)
   clear c9
   by_cases c10 : 1 ≤ (t149.length : Int)
   ·rw [if_pos c10] at H
    have c10b0 := eq_true c10
    have c10b1 : decide (1 ≤ (t149.length : Int)) = true := decide_eq_true c10
    clear c10
    obtain ⟨y153, hy153⟩ : ∃ y_ : List Int, y_ = (t149.drop 1) := ⟨_, rfl⟩
    replace H : (victim_Pick.l0 k l0 l1 l2 (rd t149 0) y153 (y153.length : Int) 0) = some (r1, r2) := by first | (rw [hy153]; with_reducible exact H) | (have H2_ := (Option.bind_some _ _).symm.trans H; rw [hy153]; with_reducible exact H2_) | (have H2_ := (Option.bind_some _ _).symm.trans H; with_reducible exact H2_) | with_reducible exact H | (rw [hy153]; exact H) | exact H
    have Ny153 := Aside0.mk hy153
    clear hy153
    have H' := Aside0.mk H
    clear H
    go_enter Try.func34, Try.ntmps34
    go_wp2_with (first | ((with_reducible refine gate_callee (f := 84) rfl ?_); refine goesL_ (some 22) rfl rfl Try.func84 (by kernel_rfl) rfl #[.slice A0 l0.length c0, .slice A1 l1.length c1, .slice A2 l2.length c2, .int .i64 a3] rfl pL ?_; (with_reducible refine (victim_places.calls k _ _ l0 _ _ l1 _ _ l2 a3 t149 _ ?side1 ?side2 ?side3 ?side4 ?side5 ?side6 A5.out).mono ?_); (case side1 => repeat (first | exact HR0.out | (with_reducible refine Kd.C_alloc ?_ _) | (with_reducible refine Kd.C_drewN ?_ _) | (with_reducible refine Kd.C_drew ?_))); (case side2 => exact HC0.out); (case side3 => repeat (first | exact HR1.out | (with_reducible refine Kd.C_alloc ?_ _) | (with_reducible refine Kd.C_drewN ?_ _) | (with_reducible refine Kd.C_drew ?_))); (case side4 => exact HC1.out); (case side5 => repeat (first | exact HR2.out | (with_reducible refine Kd.C_alloc ?_ _) | (with_reducible refine Kd.C_drewN ?_ _) | (with_reducible refine Kd.C_drew ?_))); (case side6 => exact HC2.out); rintro e w11 ⟨v150, rfl, ho0, hb⟩; refine ⟨_, rfl, ?_⟩; have n0_ := Aside0.mk (Kd.R_lower ho0 (below_size (pB HB.out))); have n1_ := Aside0.mk (below_step (pB HB.out) hb); clear HB; have HO151 := n0_; have HB := n1_; clear n0_ n1_; (try clear hb); (try clear hb2); (try clear hk); (try clear hi); (try clear ho0); obtain ⟨Ao12, co12, eo12⟩ := Kd.R_slice HO151.out; subst eo12; have p152 : 0 ≤ (0 : Int) := (by omega); have q152 : 0 < (t149.length : Int) := of_decide_eq_true pS; obtain ⟨ad152, e152, hx152_0⟩ := Kd.at_int (Kd.R_reads' HO151.out).2.2 0 p152 q152; cases e152; have qi152 : (0 < t149.length) = True := eq_true (by omega); (try rw [show ((0 : Int)).toNat = 0 from rfl] at hx152_0); (try rw [Addr.add_zero'] at hx152_0); replace p152 := eq_true p152; replace q152 := eq_true q152; have q13 : (1 : Int) ≤ ((t149.length : Int) : Int) := of_decide_eq_true pS; obtain ⟨i013, hi013, _, hsz13, _⟩ := info_parts info3; have hroom13 : t149.length ≤ co12 := (Kd.R_reads' HO151.out).2.1; have hC13 : Kd.C (Kd.int .i64) _ (some ad152) t149.length t149 := (Kd.R_reads' HO151.out).2.2; have hcut13 := cut_from (P := Try.prog) 58 3 .i64 Try.underlying58 hi013 1 hsz13 (some ad152) t149.length co12 1 (by omega) q13; have hr13 := Kd.C_drop (m := (1 : Int).toNat) (c := co12) hC13 (by omega) hroom13; obtain ⟨A13, hA13⟩ : ∃ A1, A1 = (if co12 = (1 : Int).toNat then (some ad152) else ((some ad152) : Option Addr).map (·.add ((1 : Int).toNat * 1))) := ⟨_, rfl⟩; obtain ⟨c13, hc13⟩ : ∃ c1, c1 = co12 - (1 : Int).toNat := ⟨_, rfl⟩; have hy13 : y153.length = t149.length - (1 : Int).toNat := (by rw [Ny153.out, List.length_drop] <;> omega); rw [show (t149).drop (1 : Int).toNat = y153 from Ny153.out.symm] at hr13; replace hr13 : Kd.C (Kd.int .i64) _ A13 y153.length y153 := (by rw [hA13]; exact hr13); rw [← hy13, ← hA13, ← hc13] at hcut13; have HR156 := Aside0.mk hr13; have HC156 := Aside0.mk (show y153.length ≤ c13 from by rw [hy13, hc13]; exact Nat.sub_le_sub_right hroom13 _); clear hr13 hC13 hroom13 hi013 hsz13 hc13; have KY13 := Aside0.mk hy13; have KA13 := Aside0.mk hA13; clear hy13 hA13; have KL13 := Aside0.mk (show 1 ≤ t149.length from by omega); replace q13 := eq_true q13))
    go_loopg [11, 32] k (fun kq v11 v32 w' => ∃ (x11_1 : Int) (x32_1 : Int), v11 = .int .i64 x11_1 ∧ v32 = .int .i64 x32_1 ∧ Aside0 (victim_Pick.l0 kq l0 l1 l2 x11_1 y153 (y153.length : Int) x32_1 = some (r1, r2)) ∧ Aside0 (kq ≤ k) ∧ Aside0 (Kd.C (Kd.int .i64) w' A13 y153.length y153) ∧ Aside0 (Below w.heap.size w w'))
    case atStart => exact ⟨(rd t149 0), (0), (by first | rfl | (simp; done) | (simp [*]; done)), (by first | rfl | (simp; done) | (simp [*]; done)), H', ⟨Nat.le_refl _⟩, ⟨by repeat (first | (with_reducible exact HR156.out) | (with_reducible refine Kd.C_alloc ?_ _) | (with_reducible refine Kd.C_drewN ?_ _) | (with_reducible refine Kd.C_drew ?_) | exact HR156.out)⟩, ⟨by repeat (first | (with_reducible first | exact HB.out | apply below_alloc | apply pw_below_drewN | apply below_drew1) | exact HB.out)⟩⟩
    case round =>
     clear H'
     try clear c1
     try clear p1
     try clear q1
     try clear hx1
     try clear qi1
     try clear c2
     try clear p2
     try clear c3
     try clear c6
     try clear c6b0
     try clear c6b1
     try clear c6b2
     try clear c8
     try clear c9
     try clear c9b0
     try clear c9b1
     try clear c10
     try clear c10b0
     try clear c10b1
     try clear c13
     try clear q13
     try clear hx152_0
     try clear p152
     try clear q13
     try clear q152
     obtain ⟨x11_1, x32_1, rfl, rfl, HA, HK1, HR156, HB⟩ := hrel
     cases gk with
     | zero => exact absurd HA.out (by simp [victim_Pick.l0])
     | succ k1 =>
      have H := HA.out
      clear HA
      simp only [victim_Pick.l0] at H
      by_cases c14 : x32_1 < (y153.length : Int)
      ·rw [if_pos c14] at H
       have c14b0 : decide (x32_1 < (y153.length : Int)) = true := decide_eq_true c14
       clear c14
       by_cases c15 : 0 ≤ x32_1
       ·rw [if_pos c15] at H
        have c15b0 : decide (0 ≤ x32_1) = true := decide_eq_true c15
        clear c15
        by_cases c16 : x32_1 < (y153.length : Int)
        ·rw [if_pos c16] at H
         have c16b0 : decide (x32_1 < (y153.length : Int)) = true := decide_eq_true c16
         clear c16
         replace H := Option.bind_eq_some_iff.mp H
         obtain ⟨⟨t159, t160⟩, A170, H⟩ := H
         replace H : ((victim_part.f k1 l0 l1 l2 x11_1).bind fun bt161 => (if (wrap64 (t159 * bt161.2)) < (wrap64 (bt161.1 * t160)) then (victim_Pick.l0 k1 l0 l1 l2 (rd y153 x32_1) y153 (y153.length : Int) (wrap64 (x32_1 + 1))) else (victim_Pick.l0 k1 l0 l1 l2 x11_1 y153 (y153.length : Int) (wrap64 (x32_1 + 1))))) = some (r1, r2) := H
         have A17 := Aside0.mk A170
         clear A170
         replace H := Option.bind_eq_some_iff.mp H
         obtain ⟨⟨t161, t162⟩, A180, H⟩ := H
         replace H : (if (wrap64 (t159 * t162)) < (wrap64 (t161 * t160)) then (victim_Pick.l0 k1 l0 l1 l2 (rd y153 x32_1) y153 (y153.length : Int) (wrap64 (x32_1 + 1))) else (victim_Pick.l0 k1 l0 l1 l2 x11_1 y153 (y153.length : Int) (wrap64 (x32_1 + 1)))) = some (r1, r2) := H
         have A18 := Aside0.mk A180
         clear A180
         by_cases c19 : (wrap64 (t159 * t162)) < (wrap64 (t161 * t160))
         ·rw [if_pos c19] at H
          have c19b0 : decide ((wrap64 (t159 * t162)) < (wrap64 (t161 * t160))) = true := decide_eq_true c19
          clear c19
          have H' := Aside0.mk H
          clear H
          have p158 : 0 ≤ (x32_1 : Int) := of_decide_eq_true pS
          have q158 : x32_1 < (y153.length : Int) := of_decide_eq_true pS
          obtain ⟨ad158, e158, hx158_0⟩ := Kd.at_int HR156.out x32_1 p158 q158
          cases e158
          try replace hx158_0 := (HB.out.cell (World.block_lt_of_cell? w _ hx158_0)).trans hx158_0
          replace p158 := eq_true p158
          replace q158 := eq_true q158
          go_wp2_with (first | ((with_reducible refine gate_callee (f := 85) rfl ?_); refine goesL_ (some 41) rfl rfl Try.func85 (by kernel_rfl) rfl #[.slice A0 l0.length c0, .slice A1 l1.length c1, .slice A2 l2.length c2, .int .i64 (rd y153 x32_1)] rfl pL ?_; (with_reducible refine (victim_part.calls k1 _ _ l0 _ _ l1 _ _ l2 (rd y153 x32_1) t159 t160 _ ?side1 ?side2 ?side3 ?side4 ?side5 ?side6 A17.out).mono ?_); (case side1 => exact pC (Kd.C_below HR0.out HB.out)); (case side2 => exact HC0.out); (case side3 => exact pC (Kd.C_below HR1.out HB.out)); (case side4 => exact HC1.out); (case side5 => exact pC (Kd.C_below HR2.out HB.out)); (case side6 => exact HC2.out); rintro e w20 ⟨rfl, hb⟩; refine ⟨_, rfl, ?_⟩; have n0_ := Aside0.mk (Kd.C_below (by repeat (first | (with_reducible exact HR156.out) | (with_reducible refine Kd.C_alloc ?_ _) | (with_reducible refine Kd.C_drewN ?_ _) | (with_reducible refine Kd.C_drew ?_) | exact HR156.out)) hb); have n1_ := Aside0.mk (below_step (pB HB.out) hb); clear HR156 HB; have HR156 := n0_; have HB := n1_; clear n0_ n1_; (try clear hb); (try clear hb2); (try clear hk); (try clear hi)) | ((with_reducible refine gate_callee (f := 85) rfl ?_); refine goesL_ (some 49) rfl rfl Try.func85 (by kernel_rfl) rfl #[.slice A0 l0.length c0, .slice A1 l1.length c1, .slice A2 l2.length c2, .int .i64 x11_1] rfl pL ?_; (with_reducible refine (victim_part.calls k1 _ _ l0 _ _ l1 _ _ l2 x11_1 t161 t162 _ ?side1 ?side2 ?side3 ?side4 ?side5 ?side6 A18.out).mono ?_); (case side1 => exact pC (Kd.C_below HR0.out HB.out)); (case side2 => exact HC0.out); (case side3 => exact pC (Kd.C_below HR1.out HB.out)); (case side4 => exact HC1.out); (case side5 => exact pC (Kd.C_below HR2.out HB.out)); (case side6 => exact HC2.out); rintro e w21 ⟨rfl, hb⟩; refine ⟨_, rfl, ?_⟩; have n0_ := Aside0.mk (Kd.C_below (by repeat (first | (with_reducible exact HR156.out) | (with_reducible refine Kd.C_alloc ?_ _) | (with_reducible refine Kd.C_drewN ?_ _) | (with_reducible refine Kd.C_drew ?_) | exact HR156.out)) hb); have n1_ := Aside0.mk (below_step (pB HB.out) hb); clear HR156 HB; have HR156 := n0_; have HB := n1_; clear n0_ n1_; (try clear hb); (try clear hb2); (try clear hk); (try clear hi)))
          go_roundg k1
          case measure => have := HK1.out; omega
          case rel => exact ⟨(rd y153 x32_1), (wrap64 (x32_1 + 1)), (by first | rfl | (simp; done) | (simp [*]; done)), (by first | rfl | (simp; done) | (simp [*]; done)), H', ⟨by have := HK1.out; omega⟩, ⟨by repeat (first | (with_reducible exact HR156.out) | (with_reducible refine Kd.C_alloc ?_ _) | (with_reducible refine Kd.C_drewN ?_ _) | (with_reducible refine Kd.C_drew ?_) | exact HR156.out)⟩, ⟨by repeat (first | (with_reducible first | exact HB.out | apply below_alloc | apply pw_below_drewN | apply below_drew1) | exact HB.out)⟩⟩
         ·rw [if_neg c19] at H
          have c19b0 : decide ((wrap64 (t159 * t162)) < (wrap64 (t161 * t160))) = false := decide_eq_false c19
          clear c19
          have H' := Aside0.mk H
          clear H
          have p158 : 0 ≤ (x32_1 : Int) := of_decide_eq_true pS
          have q158 : x32_1 < (y153.length : Int) := of_decide_eq_true pS
          obtain ⟨ad158, e158, hx158_0⟩ := Kd.at_int HR156.out x32_1 p158 q158
          cases e158
          try replace hx158_0 := (HB.out.cell (World.block_lt_of_cell? w _ hx158_0)).trans hx158_0
          replace p158 := eq_true p158
          replace q158 := eq_true q158
          go_wp2_with (first | ((with_reducible refine gate_callee (f := 85) rfl ?_); refine goesL_ (some 41) rfl rfl Try.func85 (by kernel_rfl) rfl #[.slice A0 l0.length c0, .slice A1 l1.length c1, .slice A2 l2.length c2, .int .i64 (rd y153 x32_1)] rfl pL ?_; (with_reducible refine (victim_part.calls k1 _ _ l0 _ _ l1 _ _ l2 (rd y153 x32_1) t159 t160 _ ?side1 ?side2 ?side3 ?side4 ?side5 ?side6 A17.out).mono ?_); (case side1 => exact pC (Kd.C_below HR0.out HB.out)); (case side2 => exact HC0.out); (case side3 => exact pC (Kd.C_below HR1.out HB.out)); (case side4 => exact HC1.out); (case side5 => exact pC (Kd.C_below HR2.out HB.out)); (case side6 => exact HC2.out); rintro e w22 ⟨rfl, hb⟩; refine ⟨_, rfl, ?_⟩; have n0_ := Aside0.mk (Kd.C_below (by repeat (first | (with_reducible exact HR156.out) | (with_reducible refine Kd.C_alloc ?_ _) | (with_reducible refine Kd.C_drewN ?_ _) | (with_reducible refine Kd.C_drew ?_) | exact HR156.out)) hb); have n1_ := Aside0.mk (below_step (pB HB.out) hb); clear HR156 HB; have HR156 := n0_; have HB := n1_; clear n0_ n1_; (try clear hb); (try clear hb2); (try clear hk); (try clear hi)) | ((with_reducible refine gate_callee (f := 85) rfl ?_); refine goesL_ (some 49) rfl rfl Try.func85 (by kernel_rfl) rfl #[.slice A0 l0.length c0, .slice A1 l1.length c1, .slice A2 l2.length c2, .int .i64 x11_1] rfl pL ?_; (with_reducible refine (victim_part.calls k1 _ _ l0 _ _ l1 _ _ l2 x11_1 t161 t162 _ ?side1 ?side2 ?side3 ?side4 ?side5 ?side6 A18.out).mono ?_); (case side1 => exact pC (Kd.C_below HR0.out HB.out)); (case side2 => exact HC0.out); (case side3 => exact pC (Kd.C_below HR1.out HB.out)); (case side4 => exact HC1.out); (case side5 => exact pC (Kd.C_below HR2.out HB.out)); (case side6 => exact HC2.out); rintro e w23 ⟨rfl, hb⟩; refine ⟨_, rfl, ?_⟩; have n0_ := Aside0.mk (Kd.C_below (by repeat (first | (with_reducible exact HR156.out) | (with_reducible refine Kd.C_alloc ?_ _) | (with_reducible refine Kd.C_drewN ?_ _) | (with_reducible refine Kd.C_drew ?_) | exact HR156.out)) hb); have n1_ := Aside0.mk (below_step (pB HB.out) hb); clear HR156 HB; have HR156 := n0_; have HB := n1_; clear n0_ n1_; (try clear hb); (try clear hb2); (try clear hk); (try clear hi)))
          go_roundg k1
          case measure => have := HK1.out; omega
          case rel => exact ⟨(x11_1), (wrap64 (x32_1 + 1)), (by first | rfl | (simp; done) | (simp [*]; done)), (by first | rfl | (simp; done) | (simp [*]; done)), H', ⟨by have := HK1.out; omega⟩, ⟨by repeat (first | (with_reducible exact HR156.out) | (with_reducible refine Kd.C_alloc ?_ _) | (with_reducible refine Kd.C_drewN ?_ _) | (with_reducible refine Kd.C_drew ?_) | exact HR156.out)⟩, ⟨by repeat (first | (with_reducible first | exact HB.out | apply below_alloc | apply pw_below_drewN | apply below_drew1) | exact HB.out)⟩⟩
        ·rw [if_neg c16] at H
         exact absurd H (by simp)
       ·rw [if_neg c15] at H
        exact absurd H (by simp)
      ·rw [if_neg c14] at H
       have c14b0 : decide (x32_1 < (y153.length : Int)) = false := decide_eq_false c14
       clear c14
       by_cases c24 : 0 ≤ x11_1
       ·rw [if_pos c24] at H
        have c24b0 : decide (0 ≤ x11_1) = true := decide_eq_true c24
        clear c24
        by_cases c25 : x11_1 < (l0.length : Int)
        ·rw [if_pos c25] at H
         have c25b0 : decide (x11_1 < (l0.length : Int)) = true := decide_eq_true c25
         clear c25
         simp only [Option.some.injEq, Prod.mk.injEq] at H
         obtain ⟨rfl, rfl⟩ := H
         have p157 : 0 ≤ (x11_1 : Int) := of_decide_eq_true pS
         have q157 : x11_1 < (l0.length : Int) := of_decide_eq_true pS
         obtain ⟨ad157, e157, hx157_0⟩ := Kd.at_int HR0.out x11_1 p157 q157
         cases e157
         replace hx157_0 := (HB.out.cell (World.block_lt_of_cell? w _ hx157_0)).trans hx157_0
         replace p157 := eq_true p157
         replace q157 := eq_true q157
         go_wp2
         go_ret2
         exact ⟨by first | rfl | (simp [errW_none, errW_some] <;> rfl) | (simp [*, errW_none, errW_some] <;> rfl), by repeat (first | (with_reducible first | exact HB.out | apply below_alloc | apply pw_below_drewN | apply below_drew1) | exact HB.out)⟩
        ·rw [if_neg c25] at H
         exact absurd H (by simp)
       ·rw [if_neg c24] at H
        exact absurd H (by simp)
   ·rw [if_neg c10] at H
    exact absurd H (by simp)
  ·rw [if_neg c9] at H
   exact absurd H (by simp)
def garnerlaw29_awake.f (k : Nat)  : Option (Bool) := (victim_Pick.f k (([1, 2, 3] : List Int)) (([100, 100, 100] : List Int)) (([(⟨1, 10⟩ : S132), (⟨2, 5⟩ : S132)] : List (S132))) 50).bind fun bt172 => (if bt172.2 = true then (some (bt172.1 == 2)) else (some false))
theorem garnerlaw29_awake.mono : ∀ k, LeO (garnerlaw29_awake.f k ) (garnerlaw29_awake.f (k + 1) ) := by
 intro  k
 unfold garnerlaw29_awake.f
 repeat' first
   | (with_reducible exact victim_Pick.mono _ _ _ _ _)
   | (with_reducible exact LeO.refl _)
   | (with_reducible exact LeO.none _)
   | (with_reducible refine LeO.ite ?_ ?_)
   | (with_reducible refine LeO.bind ?_ (fun _ => ?_))
   | exact victim_Pick.mono _ _ _ _ _
   | exact LeO.none _
   | refine LeO.ite ?_ ?_
   | refine LeO.bind ?_ (fun _ => ?_)
set_option maxHeartbeats 8000000 in
set_option maxRecDepth 100000 in
theorem garnerlaw29_awake.calls (k : Nat)  (r : Bool) (w : World) (h : garnerlaw29_awake.f k  = some r) :
  Calls Try.prog 33 #[] w fun e w' => e = .returned (.bool r) ∧ Below w.heap.size w w' := by
 have hu132 := Try.underlying132
 have HB := Aside0.mk (Below.refl w.heap.size w)
 have H : ((victim_Pick.f k (([1, 2, 3] : List Int)) (([100, 100, 100] : List Int)) (([(⟨1, 10⟩ : S132), (⟨2, 5⟩ : S132)] : List (S132))) 50).bind fun bt172 => (if bt172.2 = true then (some (bt172.1 == 2)) else (some false))) = some r := h
 clear h
 obtain ⟨y163, hy163⟩ : ∃ y_ : List Int, y_ = (([1, 2, 3] : List Int)) := ⟨_, rfl⟩
 replace H : ((victim_Pick.f k y163 (([100, 100, 100] : List Int)) (([(⟨1, 10⟩ : S132), (⟨2, 5⟩ : S132)] : List (S132))) 50).bind fun bt172 => (if bt172.2 = true then (some (bt172.1 == 2)) else (some false))) = some r := by first | (rw [hy163]; with_reducible exact H) | (have H2_ := (Option.bind_some _ _).symm.trans H; rw [hy163]; with_reducible exact H2_) | (have H2_ := (Option.bind_some _ _).symm.trans H; with_reducible exact H2_) | with_reducible exact H | (rw [hy163]; exact H) | exact H
 have Ny163 := Aside0.mk hy163
 clear hy163
 obtain ⟨y166, hy166⟩ : ∃ y_ : List Int, y_ = (([100, 100, 100] : List Int)) := ⟨_, rfl⟩
 replace H : ((victim_Pick.f k y163 y166 (([(⟨1, 10⟩ : S132), (⟨2, 5⟩ : S132)] : List (S132))) 50).bind fun bt172 => (if bt172.2 = true then (some (bt172.1 == 2)) else (some false))) = some r := by first | (rw [hy166]; with_reducible exact H) | (have H2_ := (Option.bind_some _ _).symm.trans H; rw [hy166]; with_reducible exact H2_) | (have H2_ := (Option.bind_some _ _).symm.trans H; with_reducible exact H2_) | with_reducible exact H | (rw [hy166]; exact H) | exact H
 have Ny166 := Aside0.mk hy166
 clear hy166
 obtain ⟨y169, hy169⟩ : ∃ y_ : List (S132), y_ = (([(⟨1, 10⟩ : S132), (⟨2, 5⟩ : S132)] : List (S132))) := ⟨_, rfl⟩
 replace H : ((victim_Pick.f k y163 y166 y169 50).bind fun bt172 => (if bt172.2 = true then (some (bt172.1 == 2)) else (some false))) = some r := by first | (rw [hy169]; with_reducible exact H) | (have H2_ := (Option.bind_some _ _).symm.trans H; rw [hy169]; with_reducible exact H2_) | (have H2_ := (Option.bind_some _ _).symm.trans H; with_reducible exact H2_) | with_reducible exact H | (rw [hy169]; exact H) | exact H
 have Ny169 := Aside0.mk hy169
 clear hy169
 replace H := Option.bind_eq_some_iff.mp H
 obtain ⟨⟨t172, t173⟩, A10, H⟩ := H
 replace H : (if t173 = true then (some (t172 == 2)) else (some false)) = some r := H
 have A1 := Aside0.mk A10
 clear A10
 by_cases c2 : t173 = true
 ·subst c2
  have H1 : (some (t172 == 2)) = some r := by rw [if_pos rfl] at H; exact H
  clear H
  have H := H1
  clear H1
  obtain rfl := Option.some.inj H
  go_enter Try.func33, Try.ntmps33
  go_wp2_with (first | ((with_reducible refine gate_dst (N := 4) rfl ?_); refine Kd.R_lit (Kd.int .i64) _ 3 ?hg (N := 4) ?hd (xs := ([1, 2, 3] : List Int)) (inner := [.int .i64 1, .int .i64 2, .int .i64 3]) (ok := fun _ => True) (okp := fun _ => True) ?hr ?hp (fun _ hk => hk) trivial (Below.refl _ _) (Nat.le_refl _) (by simp) ?_; (case hd => rfl); (case hg => rfl); (case hr => first | (go_simp; done) | (go_simp; rfl)); (case hp => exact (Reps.one (show Kd.M (Kd.int .i64) _ _ _ 1 [.int .i64 1] from rfl) (Reps.one (show Kd.M (Kd.int .i64) _ _ _ 2 [.int .i64 2] from rfl) (Reps.one (show Kd.M (Kd.int .i64) _ _ _ 3 [.int .i64 3] from rfl) (Reps.none _ _))))); intro v164 w3 ho4 hb hg_ hnew_; clear hg_ hnew_; (first | rw [← Ny163.out] at ho4 | (simp only [Int.reduceToNat] at ho4; rw [← Ny163.out] at ho4)); have n0_ := Aside0.mk (Kd.R_lower ho4 (below_size (pB HB.out))); have n1_ := Aside0.mk (below_step (pB HB.out) hb); clear HB; have HO165 := n0_; have HB := n1_; clear n0_ n1_ hb ho4) | ((with_reducible refine gate_dst (N := 5) rfl ?_); refine Kd.R_lit (Kd.int .i64) _ 3 ?hg (N := 5) ?hd (xs := ([100, 100, 100] : List Int)) (inner := [.int .i64 100, .int .i64 100, .int .i64 100]) (ok := fun _ => True) (okp := fun _ => True) ?hr ?hp (fun _ hk => hk) trivial (Below.refl _ _) (Nat.le_refl _) (by simp) ?_; (case hd => rfl); (case hg => rfl); (case hr => first | (go_simp; done) | (go_simp; rfl)); (case hp => exact (Reps.one (show Kd.M (Kd.int .i64) _ _ _ 100 [.int .i64 100] from rfl) (Reps.one (show Kd.M (Kd.int .i64) _ _ _ 100 [.int .i64 100] from rfl) (Reps.one (show Kd.M (Kd.int .i64) _ _ _ 100 [.int .i64 100] from rfl) (Reps.none _ _))))); intro v167 w5 ho6 hb hg_ hnew_; clear hg_ hnew_; (first | rw [← Ny166.out] at ho6 | (simp only [Int.reduceToNat] at ho6; rw [← Ny166.out] at ho6)); have n0_ := Aside0.mk (Kd.R_elder' (pR HO165.out) (Kd.R_base ho6) hb); have n1_ := Aside0.mk (Kd.R_lower (Kd.R_new' ho6 (Kd.R_lt (pR HO165.out))) (below_size (pB HB.out))); have n2_ := Aside0.mk (below_step (pB HB.out) hb); clear HO165 HB; have HO165 := n0_; have HO168 := n1_; have HB := n2_; clear n0_ n1_ n2_ hb ho6) | ((with_reducible refine gate_dst (N := 8) rfl ?_); refine Kd.R_lit k132 _ 132 ?hg (N := 8) ?hd (xs := ([(⟨1, 10⟩ : S132), (⟨2, 5⟩ : S132)] : List (S132))) (inner := [.int .i64 1, .int .i64 10, .int .i64 2, .int .i64 5]) (ok := fun _ => True) (okp := fun _ => True) ?hr ?hp (fun _ hk => hk) trivial (Below.refl _ _) (Nat.le_refl _) (by simp) ?_; (case hd => rfl); (case hg => rfl); (case hr => first | (go_simp; done) | (go_simp; rfl)); (case hp => exact (Reps.c2 (show Kd.M k132 _ _ _ (⟨1, 10⟩ : S132) [.int .i64 1, .int .i64 10] from (k132_mkM _ _ _ (⟨1, 10⟩ : S132) )) (Reps.c2 (show Kd.M k132 _ _ _ (⟨2, 5⟩ : S132) [.int .i64 2, .int .i64 5] from (k132_mkM _ _ _ (⟨2, 5⟩ : S132) )) (Reps.none _ _)))); intro v170 w7 ho8 hb hg_ hnew_; clear hg_ hnew_; (first | rw [← Ny169.out] at ho8 | (simp only [Int.reduceToNat] at ho8; rw [← Ny169.out] at ho8)); have n0_ := Aside0.mk (Kd.R_below (pR HO165.out) hb); have n1_ := Aside0.mk (Kd.R_below (pR HO168.out) hb); have n2_ := Aside0.mk (Kd.R_lower ho8 (below_size (pB HB.out))); have n3_ := Aside0.mk (below_step (pB HB.out) hb); clear HO165 HO168 HB; have HO165 := n0_; have HO168 := n1_; have HO171 := n2_; have HB := n3_; clear n0_ n1_ n2_ n3_ hb ho8; obtain ⟨Ao9, co9, eo9⟩ := Kd.R_slice HO165.out; subst eo9; obtain ⟨Ao10, co10, eo10⟩ := Kd.R_slice HO168.out; subst eo10; obtain ⟨Ao11, co11, eo11⟩ := Kd.R_slice HO171.out; subst eo11) | ((with_reducible refine gate_callee (f := 34) rfl ?_); refine goesL_ (some 9) rfl rfl Try.func34 (by kernel_rfl) rfl #[.slice Ao9 y163.length co9, .slice Ao10 y166.length co10, .slice Ao11 y169.length co11, .int .i64 50] rfl pL ?_; (with_reducible refine (victim_Pick.calls k _ _ y163 _ _ y166 _ _ y169 50 t172 true _ ?side1 ?side2 ?side3 ?side4 ?side5 ?side6 A1.out).mono ?_); (case side1 => exact pC (Kd.R_reads' HO165.out).2.2); (case side2 => exact (Kd.R_reads' HO165.out).2.1); (case side3 => exact pC (Kd.R_reads' HO168.out).2.2); (case side4 => exact (Kd.R_reads' HO168.out).2.1); (case side5 => exact pC (Kd.R_reads' HO171.out).2.2); (case side6 => exact (Kd.R_reads' HO171.out).2.1); rintro e w12 ⟨rfl, hb⟩; refine ⟨_, rfl, ?_⟩; have n0_ := Aside0.mk (Kd.R_below (pR HO165.out) hb); have n1_ := Aside0.mk (Kd.R_below (pR HO168.out) hb); have n2_ := Aside0.mk (Kd.R_below (pR HO171.out) hb); have n3_ := Aside0.mk (below_step (pB HB.out) hb); clear HO165 HO168 HO171 HB; have HO165 := n0_; have HO168 := n1_; have HO171 := n2_; have HB := n3_; clear n0_ n1_ n2_ n3_; (try clear hb); (try clear hb2); (try clear hk); (try clear hi)))
  go_ret
  exact ⟨by first | rfl | (simp [errW_none, errW_some] <;> rfl) | (simp [*, errW_none, errW_some] <;> rfl), by repeat (first | (with_reducible first | exact HB.out | apply below_alloc | apply pw_below_drewN | apply below_drew1) | exact HB.out)⟩
 ·replace c2 := Bool.eq_false_iff.mpr c2
  subst c2
  have H1 : (some false) = some r := by rw [if_neg (show ¬ (false = true) by decide)] at H; exact H
  clear H
  have H := H1
  clear H1
  obtain rfl := Option.some.inj H
  go_enter Try.func33, Try.ntmps33
  go_wp2_with (first | ((with_reducible refine gate_dst (N := 4) rfl ?_); refine Kd.R_lit (Kd.int .i64) _ 3 ?hg (N := 4) ?hd (xs := ([1, 2, 3] : List Int)) (inner := [.int .i64 1, .int .i64 2, .int .i64 3]) (ok := fun _ => True) (okp := fun _ => True) ?hr ?hp (fun _ hk => hk) trivial (Below.refl _ _) (Nat.le_refl _) (by simp) ?_; (case hd => rfl); (case hg => rfl); (case hr => first | (go_simp; done) | (go_simp; rfl)); (case hp => exact (Reps.one (show Kd.M (Kd.int .i64) _ _ _ 1 [.int .i64 1] from rfl) (Reps.one (show Kd.M (Kd.int .i64) _ _ _ 2 [.int .i64 2] from rfl) (Reps.one (show Kd.M (Kd.int .i64) _ _ _ 3 [.int .i64 3] from rfl) (Reps.none _ _))))); intro v164 w13 ho14 hb hg_ hnew_; clear hg_ hnew_; (first | rw [← Ny163.out] at ho14 | (simp only [Int.reduceToNat] at ho14; rw [← Ny163.out] at ho14)); have n0_ := Aside0.mk (Kd.R_lower ho14 (below_size (pB HB.out))); have n1_ := Aside0.mk (below_step (pB HB.out) hb); clear HB; have HO165 := n0_; have HB := n1_; clear n0_ n1_ hb ho14) | ((with_reducible refine gate_dst (N := 5) rfl ?_); refine Kd.R_lit (Kd.int .i64) _ 3 ?hg (N := 5) ?hd (xs := ([100, 100, 100] : List Int)) (inner := [.int .i64 100, .int .i64 100, .int .i64 100]) (ok := fun _ => True) (okp := fun _ => True) ?hr ?hp (fun _ hk => hk) trivial (Below.refl _ _) (Nat.le_refl _) (by simp) ?_; (case hd => rfl); (case hg => rfl); (case hr => first | (go_simp; done) | (go_simp; rfl)); (case hp => exact (Reps.one (show Kd.M (Kd.int .i64) _ _ _ 100 [.int .i64 100] from rfl) (Reps.one (show Kd.M (Kd.int .i64) _ _ _ 100 [.int .i64 100] from rfl) (Reps.one (show Kd.M (Kd.int .i64) _ _ _ 100 [.int .i64 100] from rfl) (Reps.none _ _))))); intro v167 w15 ho16 hb hg_ hnew_; clear hg_ hnew_; (first | rw [← Ny166.out] at ho16 | (simp only [Int.reduceToNat] at ho16; rw [← Ny166.out] at ho16)); have n0_ := Aside0.mk (Kd.R_elder' (pR HO165.out) (Kd.R_base ho16) hb); have n1_ := Aside0.mk (Kd.R_lower (Kd.R_new' ho16 (Kd.R_lt (pR HO165.out))) (below_size (pB HB.out))); have n2_ := Aside0.mk (below_step (pB HB.out) hb); clear HO165 HB; have HO165 := n0_; have HO168 := n1_; have HB := n2_; clear n0_ n1_ n2_ hb ho16) | ((with_reducible refine gate_dst (N := 8) rfl ?_); refine Kd.R_lit k132 _ 132 ?hg (N := 8) ?hd (xs := ([(⟨1, 10⟩ : S132), (⟨2, 5⟩ : S132)] : List (S132))) (inner := [.int .i64 1, .int .i64 10, .int .i64 2, .int .i64 5]) (ok := fun _ => True) (okp := fun _ => True) ?hr ?hp (fun _ hk => hk) trivial (Below.refl _ _) (Nat.le_refl _) (by simp) ?_; (case hd => rfl); (case hg => rfl); (case hr => first | (go_simp; done) | (go_simp; rfl)); (case hp => exact (Reps.c2 (show Kd.M k132 _ _ _ (⟨1, 10⟩ : S132) [.int .i64 1, .int .i64 10] from (k132_mkM _ _ _ (⟨1, 10⟩ : S132) )) (Reps.c2 (show Kd.M k132 _ _ _ (⟨2, 5⟩ : S132) [.int .i64 2, .int .i64 5] from (k132_mkM _ _ _ (⟨2, 5⟩ : S132) )) (Reps.none _ _)))); intro v170 w17 ho18 hb hg_ hnew_; clear hg_ hnew_; (first | rw [← Ny169.out] at ho18 | (simp only [Int.reduceToNat] at ho18; rw [← Ny169.out] at ho18)); have n0_ := Aside0.mk (Kd.R_below (pR HO165.out) hb); have n1_ := Aside0.mk (Kd.R_below (pR HO168.out) hb); have n2_ := Aside0.mk (Kd.R_lower ho18 (below_size (pB HB.out))); have n3_ := Aside0.mk (below_step (pB HB.out) hb); clear HO165 HO168 HB; have HO165 := n0_; have HO168 := n1_; have HO171 := n2_; have HB := n3_; clear n0_ n1_ n2_ n3_ hb ho18; obtain ⟨Ao19, co19, eo19⟩ := Kd.R_slice HO165.out; subst eo19; obtain ⟨Ao20, co20, eo20⟩ := Kd.R_slice HO168.out; subst eo20; obtain ⟨Ao21, co21, eo21⟩ := Kd.R_slice HO171.out; subst eo21) | ((with_reducible refine gate_callee (f := 34) rfl ?_); refine goesL_ (some 9) rfl rfl Try.func34 (by kernel_rfl) rfl #[.slice Ao19 y163.length co19, .slice Ao20 y166.length co20, .slice Ao21 y169.length co21, .int .i64 50] rfl pL ?_; (with_reducible refine (victim_Pick.calls k _ _ y163 _ _ y166 _ _ y169 50 t172 false _ ?side1 ?side2 ?side3 ?side4 ?side5 ?side6 A1.out).mono ?_); (case side1 => exact pC (Kd.R_reads' HO165.out).2.2); (case side2 => exact (Kd.R_reads' HO165.out).2.1); (case side3 => exact pC (Kd.R_reads' HO168.out).2.2); (case side4 => exact (Kd.R_reads' HO168.out).2.1); (case side5 => exact pC (Kd.R_reads' HO171.out).2.2); (case side6 => exact (Kd.R_reads' HO171.out).2.1); rintro e w22 ⟨rfl, hb⟩; refine ⟨_, rfl, ?_⟩; have n0_ := Aside0.mk (Kd.R_below (pR HO165.out) hb); have n1_ := Aside0.mk (Kd.R_below (pR HO168.out) hb); have n2_ := Aside0.mk (Kd.R_below (pR HO171.out) hb); have n3_ := Aside0.mk (below_step (pB HB.out) hb); clear HO165 HO168 HO171 HB; have HO165 := n0_; have HO168 := n1_; have HO171 := n2_; have HB := n3_; clear n0_ n1_ n2_ n3_; (try clear hb); (try clear hb2); (try clear hk); (try clear hi)))
  go_ret
  exact ⟨by first | rfl | (simp [errW_none, errW_some] <;> rfl) | (simp [*, errW_none, errW_some] <;> rfl), by repeat (first | (with_reducible first | exact HB.out | apply below_alloc | apply pw_below_drewN | apply below_drew1) | exact HB.out)⟩
def garnerref15_Has.l0 : Nat → List Int → Int → Int → Option (Bool)
 | 0, _, _, _ => none
 | k + 1, x0, x1, x5 => if x5 < (x0.length : Int) then (if 0 ≤ x5 then (if (rd x0 x5) = x1 then (some true) else (garnerref15_Has.l0 k x0 x1 (wrap64 (x5 + 1)))) else (none)) else (some false)
def garnerref15_Has.f (k : Nat) (l0 : List Int) (a1 : Int) : Option (Bool) := garnerref15_Has.l0 k l0 a1 0
theorem garnerref15_Has.mono_l : ∀ k, (∀ y0 y1 y2, LeO (garnerref15_Has.l0 k y0 y1 y2) (garnerref15_Has.l0 (k + 1) y0 y1 y2))
 | 0 => fun _ _ _ r h => by simp [garnerref15_Has.l0] at h
 | k + 1 => by
  have ih0 := garnerref15_Has.mono_l k
  ·intro y0 y1 y2
   unfold garnerref15_Has.l0
   repeat' first
   | (with_reducible exact ih0 _ _ _)
   | (with_reducible exact LeO.refl _)
   | (with_reducible exact LeO.none _)
   | (with_reducible refine LeO.ite ?_ ?_)
   | (with_reducible refine LeO.bind ?_ (fun _ => ?_))
   | exact ih0 _ _ _
   | exact LeO.none _
   | refine LeO.ite ?_ ?_
   | refine LeO.bind ?_ (fun _ => ?_)
theorem garnerref15_Has.mono : ∀ a0 a1 k, LeO (garnerref15_Has.f k a0 a1) (garnerref15_Has.f (k + 1) a0 a1) := by
 intro a0 a1 k
 have ih0 := garnerref15_Has.mono_l k
 unfold garnerref15_Has.f
 repeat' first
   | (with_reducible exact ih0 _ _ _)
   | (with_reducible exact LeO.refl _)
   | (with_reducible exact LeO.none _)
   | (with_reducible refine LeO.ite ?_ ?_)
   | (with_reducible refine LeO.bind ?_ (fun _ => ?_))
   | exact ih0 _ _ _
   | exact LeO.none _
   | refine LeO.ite ?_ ?_
   | refine LeO.bind ?_ (fun _ => ?_)
set_option maxHeartbeats 8000000 in
set_option maxRecDepth 100000 in
theorem garnerref15_Has.calls (k : Nat) (A0 : Option Addr) (c0 : Nat) (l0 : List Int) (a1 : Int) (r : Bool) (w : World) (hr0 : Kd.C (Kd.int .i64) w A0 l0.length l0) (hc0 : l0.length ≤ c0) (h : garnerref15_Has.f k l0 a1 = some r) :
  Calls Try.prog 35 #[.slice A0 l0.length c0, .int .i64 a1] w fun e w' => e = .returned (.bool r) ∧ Drawn0 w w' := by
 have HR0 := Aside0.mk hr0
 have HC0 := Aside0.mk hc0
 clear hr0 hc0
 have H : (garnerref15_Has.l0 k l0 a1 0) = some r := h
 clear h
 have H' := Aside0.mk H
 clear H
 go_enter Try.func35, Try.ntmps35
 go_wp2
 go_loopg [5] k (fun kq v5 w' => ∃ (x5_1 : Int), v5 = .int .i64 x5_1 ∧ Aside0 (garnerref15_Has.l0 kq l0 a1 x5_1 = some r) ∧ Aside0 (kq ≤ k) ∧ Drawn0 w w')
 case atStart => exact ⟨(0), (by first | rfl | (simp; done) | (simp [*]; done)), H', ⟨Nat.le_refl _⟩, by repeat (first | exact Drawn0.refl _ | apply Drawn0.step)⟩
 case round =>
  clear H'
  try clear p2
  obtain ⟨x5_1, rfl, HA, HK1, ⟨m1, rfl⟩⟩ := hrel
  cases gk with
  | zero => exact absurd HA.out (by simp [garnerref15_Has.l0])
  | succ k1 =>
   have H := HA.out
   clear HA
   simp only [garnerref15_Has.l0] at H
   by_cases c3 : x5_1 < (l0.length : Int)
   ·rw [if_pos c3] at H
    have c3b0 : decide (x5_1 < (l0.length : Int)) = true := decide_eq_true c3
    clear c3
    by_cases c4 : 0 ≤ x5_1
    ·rw [if_pos c4] at H
     have c4b0 : decide (0 ≤ x5_1) = true := decide_eq_true c4
     clear c4
     by_cases c5 : (rd l0 x5_1) = a1
     ·rw [if_pos c5] at H
      have c5b0 : ((rd l0 x5_1) == a1) = true := beq_iff_eq.mpr c5
      have c5b1 : ((rd l0 x5_1) != a1) = false := bne_eq_false_iff_eq.mpr c5
      clear c5
      obtain rfl := Option.some.inj H
      have p174 : 0 ≤ (x5_1 : Int) := of_decide_eq_true pS
      have q174 : x5_1 < (l0.length : Int) := of_decide_eq_true pS
      obtain ⟨ad174, e174, hx174_0⟩ := Kd.at_int HR0.out x5_1 p174 q174
      cases e174
      replace p174 := eq_true p174
      replace q174 := eq_true q174
      go_wp2
      go_ret
      exact ⟨by first | rfl | (simp; done) | (simp [*]; done), by repeat (first | exact Drawn0.refl _ | apply Drawn0.step)⟩
     ·rw [if_neg c5] at H
      have c5b0 : ((rd l0 x5_1) == a1) = false := beq_eq_false_iff_ne.mpr c5
      have c5b1 : ((rd l0 x5_1) != a1) = true := bne_iff_ne.mpr c5
      have H' := Aside0.mk H
      clear H
      have p174 : 0 ≤ (x5_1 : Int) := of_decide_eq_true pS
      have q174 : x5_1 < (l0.length : Int) := of_decide_eq_true pS
      obtain ⟨ad174, e174, hx174_0⟩ := Kd.at_int HR0.out x5_1 p174 q174
      cases e174
      replace p174 := eq_true p174
      replace q174 := eq_true q174
      go_wp2
      go_roundg k1
      case measure => have := HK1.out; omega
      case rel => exact ⟨(wrap64 (x5_1 + 1)), (by first | rfl | (simp; done) | (simp [*]; done)), H', ⟨by have := HK1.out; omega⟩, by repeat (first | exact Drawn0.refl _ | apply Drawn0.step)⟩
    ·rw [if_neg c4] at H
     exact absurd H (by simp)
   ·rw [if_neg c3] at H
    have c3b0 : decide (x5_1 < (l0.length : Int)) = false := decide_eq_false c3
    clear c3
    obtain rfl := Option.some.inj H
    go_wp2
    go_ret
    exact ⟨by first | rfl | (simp; done) | (simp [*]; done), by repeat (first | exact Drawn0.refl _ | apply Drawn0.step)⟩
def victim_Sparse.l0 : Nat → List Int → List Int → List Int → Int → Int → Option (List Int)
 | 0, _, _, _, _, _ => none
 | k + 1, x0, x9, x16, x17, x18 => if x18 < x17 then (if 0 ≤ x18 then (if x18 < (x16.length : Int) then (if 0 ≤ (rd x16 x18) then (if (rd x16 x18) < (x0.length : Int) then (if x9.length < 17592186044416 then (victim_Sparse.l0 k x0 (x9 ++ [rd x0 (rd x16 x18)]) x16 x17 (wrap64 (x18 + 1))) else (none)) else (none)) else (none)) else (none)) else (none)) else (some x9)
def victim_Sparse.f (k : Nat) (l0 : List Int) (l1 : List Int) (l2 : List (S132)) (a3 : Int) : Option (List Int) := (victim_places.f k l0 l1 l2 a3).bind fun t175 => (victim_Sparse.l0 k l0 ([] : List Int) t175 (t175.length : Int) 0)
theorem victim_Sparse.mono_l : ∀ k, (∀ y0 y1 y2 y3 y4, LeO (victim_Sparse.l0 k y0 y1 y2 y3 y4) (victim_Sparse.l0 (k + 1) y0 y1 y2 y3 y4))
 | 0 => fun _ _ _ _ _ r h => by simp [victim_Sparse.l0] at h
 | k + 1 => by
  have ih0 := victim_Sparse.mono_l k
  ·intro y0 y1 y2 y3 y4
   unfold victim_Sparse.l0
   repeat' first
   | (with_reducible exact ih0 _ _ _ _ _)
   | (with_reducible exact victim_places.mono _ _ _ _ _)
   | (with_reducible exact LeO.refl _)
   | (with_reducible exact LeO.none _)
   | (with_reducible refine LeO.ite ?_ ?_)
   | (with_reducible refine LeO.bind ?_ (fun _ => ?_))
   | exact ih0 _ _ _ _ _
   | exact victim_places.mono _ _ _ _ _
   | exact LeO.none _
   | refine LeO.ite ?_ ?_
   | refine LeO.bind ?_ (fun _ => ?_)
theorem victim_Sparse.mono : ∀ a0 a1 a2 a3 k, LeO (victim_Sparse.f k a0 a1 a2 a3) (victim_Sparse.f (k + 1) a0 a1 a2 a3) := by
 intro a0 a1 a2 a3 k
 have ih0 := victim_Sparse.mono_l k
 unfold victim_Sparse.f
 repeat' first
   | (with_reducible exact ih0 _ _ _ _ _)
   | (with_reducible exact victim_places.mono _ _ _ _ _)
   | (with_reducible exact LeO.refl _)
   | (with_reducible exact LeO.none _)
   | (with_reducible refine LeO.ite ?_ ?_)
   | (with_reducible refine LeO.bind ?_ (fun _ => ?_))
   | exact ih0 _ _ _ _ _
   | exact victim_places.mono _ _ _ _ _
   | exact LeO.none _
   | refine LeO.ite ?_ ?_
   | refine LeO.bind ?_ (fun _ => ?_)
set_option maxHeartbeats 8000000 in
set_option maxRecDepth 100000 in
theorem victim_Sparse.calls (k : Nat) (A0 : Option Addr) (c0 : Nat) (l0 : List Int) (A1 : Option Addr) (c1 : Nat) (l1 : List Int) (A2 : Option Addr) (c2 : Nat) (l2 : List (S132)) (a3 : Int) (r : List Int) (w : World) (hr0 : Kd.C (Kd.int .i64) w A0 l0.length l0) (hc0 : l0.length ≤ c0) (hr1 : Kd.C (Kd.int .i64) w A1 l1.length l1) (hc1 : l1.length ≤ c1) (hr2 : Kd.C k132 w A2 l2.length l2) (hc2 : l2.length ≤ c2) (h : victim_Sparse.f k l0 l1 l2 a3 = some r) :
  Calls Try.prog 36 #[.slice A0 l0.length c0, .slice A1 l1.length c1, .slice A2 l2.length c2, .int .i64 a3] w fun e w' => ∃ v0_ : Value, e = .returned (v0_) ∧ Kd.R (Kd.int .i64) 3 w' w.heap.size (fun _ => True) v0_ r ∧ Below w.heap.size w w' := by
 have HR0 := Aside0.mk hr0
 have HC0 := Aside0.mk hc0
 clear hr0 hc0
 have HR1 := Aside0.mk hr1
 have HC1 := Aside0.mk hc1
 clear hr1 hc1
 have HR2 := Aside0.mk hr2
 have HC2 := Aside0.mk hc2
 clear hr2 hc2
 have HB := Aside0.mk (Below.refl w.heap.size w)
 have H : ((victim_places.f k l0 l1 l2 a3).bind fun t175 => (victim_Sparse.l0 k l0 ([] : List Int) t175 (t175.length : Int) 0)) = some r := h
 clear h
 replace H := Option.bind_eq_some_iff.mp H
 obtain ⟨t175, A50, H⟩ := H
 replace H : (victim_Sparse.l0 k l0 ([] : List Int) t175 (t175.length : Int) 0) = some r := H
 have A5 := Aside0.mk A50
 clear A50
 have H' := Aside0.mk H
 clear H
 go_enter Try.func36, Try.ntmps36
 go_wp2_with (first | ((with_reducible refine gate_callee (f := 84) rfl ?_); refine goesL_ (some 16) rfl rfl Try.func84 (by kernel_rfl) rfl #[.slice A0 l0.length c0, .slice A1 l1.length c1, .slice A2 l2.length c2, .int .i64 a3] rfl pL ?_; (with_reducible refine (victim_places.calls k _ _ l0 _ _ l1 _ _ l2 a3 t175 _ ?side1 ?side2 ?side3 ?side4 ?side5 ?side6 A5.out).mono ?_); (case side1 => repeat (first | exact HR0.out | (with_reducible refine Kd.C_alloc ?_ _) | (with_reducible refine Kd.C_drewN ?_ _) | (with_reducible refine Kd.C_drew ?_))); (case side2 => exact HC0.out); (case side3 => repeat (first | exact HR1.out | (with_reducible refine Kd.C_alloc ?_ _) | (with_reducible refine Kd.C_drewN ?_ _) | (with_reducible refine Kd.C_drew ?_))); (case side4 => exact HC1.out); (case side5 => repeat (first | exact HR2.out | (with_reducible refine Kd.C_alloc ?_ _) | (with_reducible refine Kd.C_drewN ?_ _) | (with_reducible refine Kd.C_drew ?_))); (case side6 => exact HC2.out); rintro e w6 ⟨v176, rfl, ho0, hb⟩; refine ⟨_, rfl, ?_⟩; have n0_ := Aside0.mk (Kd.R_lower ho0 (below_size (pB HB.out))); have n1_ := Aside0.mk (below_step (pB HB.out) hb); clear HB; have HO177 := n0_; have HB := n1_; clear n0_ n1_; (try clear hb); (try clear hb2); (try clear hk); (try clear hi); (try clear ho0); obtain ⟨Ao7, co7, eo7⟩ := Kd.R_slice HO177.out; subst eo7))
 go_loopg [9, 18] k (fun kq v9 v18 w' => ∃ (x9_1 : List Int) (x18_1 : Int), v18 = .int .i64 x18_1 ∧ Aside0 (victim_Sparse.l0 kq l0 x9_1 t175 (t175.length : Int) x18_1 = some r) ∧ Aside0 (kq ≤ k) ∧ Aside0 (Kd.R (Kd.int .i64) 3 w' w.heap.size (fun k_ => some k_ ≠ ((.slice Ao7 t175.length co7) : Value).ownBlock) v9 x9_1) ∧ Aside0 (Kd.R (Kd.int .i64) 3 w' w.heap.size (fun k_ => some k_ ≠ (v9 : Value).ownBlock) (.slice Ao7 t175.length co7) t175) ∧ Aside0 (Below w.heap.size w w'))
 case atStart => exact ⟨(([] : List Int)), (0), (by first | rfl | (simp; done) | (simp [*]; done)), H', ⟨Nat.le_refl _⟩, ⟨by first | exact Kd.R_nil _ _ _ _ _ | exact Kd.N_nil _ _ _ _ _ | exact Kd.V_nil _ _ _ _ _ | exact Kd.Q_nil _ _ _ _ _ | exact Kd.S_nil _ _ _ _ _⟩, ⟨by (with_reducible repeat (first | apply Kd.R_alloc | apply Kd.R_drewN | apply Kd.R_drew)); exact Kd.R_mono HO177.out (fun _ hk => (by simp [Value.ownBlock]))⟩, ⟨by repeat (first | (with_reducible first | exact HB.out | apply below_alloc | apply pw_below_drewN | apply below_drew1) | exact HB.out)⟩⟩
 case round =>
  clear H'
  try clear c1
  try clear c2
  try clear p2
  try clear c3
  obtain ⟨x9_1, x18_1, rfl, HA, HK1, HO_9, HO_16, HB⟩ := hrel
  cases gk with
  | zero => exact absurd HA.out (by simp [victim_Sparse.l0])
  | succ k1 =>
   have H := HA.out
   clear HA
   simp only [victim_Sparse.l0] at H
   by_cases c8 : x18_1 < (t175.length : Int)
   ·rw [if_pos c8] at H
    have c8b0 : decide (x18_1 < (t175.length : Int)) = true := decide_eq_true c8
    clear c8
    by_cases c9 : 0 ≤ x18_1
    ·rw [if_pos c9] at H
     have c9b0 : decide (0 ≤ x18_1) = true := decide_eq_true c9
     clear c9
     by_cases c10 : x18_1 < (t175.length : Int)
     ·rw [if_pos c10] at H
      have c10b0 : decide (x18_1 < (t175.length : Int)) = true := decide_eq_true c10
      clear c10
      by_cases c11 : 0 ≤ (rd t175 x18_1)
      ·rw [if_pos c11] at H
       have c11b0 : decide (0 ≤ (rd t175 x18_1)) = true := decide_eq_true c11
       clear c11
       by_cases c12 : (rd t175 x18_1) < (l0.length : Int)
       ·rw [if_pos c12] at H
        have c12b0 : decide ((rd t175 x18_1) < (l0.length : Int)) = true := decide_eq_true c12
        clear c12
        by_cases c13 : x9_1.length < 17592186044416
        ·rw [if_pos c13] at H
         have LMc13 := Aside0.mk c13
         clear c13
         obtain ⟨y180, hy180⟩ : ∃ y_ : List Int, y_ = (x9_1 ++ [rd l0 (rd t175 x18_1)]) := ⟨_, rfl⟩
         replace H : (victim_Sparse.l0 k1 l0 y180 t175 (t175.length : Int) (wrap64 (x18_1 + 1))) = some r := by first | (rw [hy180]; with_reducible exact H) | (have H2_ := (Option.bind_some _ _).symm.trans H; rw [hy180]; with_reducible exact H2_) | (have H2_ := (Option.bind_some _ _).symm.trans H; with_reducible exact H2_) | with_reducible exact H | (rw [hy180]; exact H) | exact H
         have Ny180 := Aside0.mk hy180
         clear hy180
         have H' := Aside0.mk H
         clear H
         have p178 : 0 ≤ (x18_1 : Int) := of_decide_eq_true pS
         have q178 : x18_1 < (t175.length : Int) := of_decide_eq_true pS
         obtain ⟨ad178, e178, hx178_0⟩ := Kd.at_int (Kd.R_reads' HO_16.out).2.2 x18_1 p178 q178
         cases e178
         replace p178 := eq_true p178
         replace q178 := eq_true q178
         have p179 : 0 ≤ ((rd t175 x18_1) : Int) := of_decide_eq_true pS
         have q179 : (rd t175 x18_1) < (l0.length : Int) := of_decide_eq_true pS
         obtain ⟨ad179, e179, hx179_0⟩ := Kd.at_int HR0.out (rd t175 x18_1) p179 q179
         cases e179
         replace hx179_0 := (HB.out.cell (World.block_lt_of_cell? w _ hx179_0)).trans hx179_0
         replace p179 := eq_true p179
         replace q179 := eq_true q179
         go_wp2_with (first | ((with_reducible refine gate_builtin (b := .append) (xs := #[.tmp 22, .tmp 27]) rfl ?_); at_builtin; refine Kd.R_append (Kd.int .i64) (w0 := w) w.heap.size rfl (.tmp 22) (.tmp 27) 58 3 (.int .i64 0) 8 rfl Try.underlying58 info3 rfl (by decide) (by omega) u9 x9_1 (rd l0 (rd t175 x18_1)) [.int .i64 (rd l0 (rd t175 x18_1))] (fun k_ => some k_ ≠ (.slice (some ad178) t175.length co7 : Value).ownBlock) (fun _ => False) rfl rfl ?aP (fun _ hk => hk.elim) ?aF ?aO ?aB ?aS ?aL ?_; (case aP => exact rfl); (case aB => exact (pB HB.out)); (case aF => exact (fun k_ hk => Kd.fresh' (Kd.R_lt (pR HO_16.out)) k_ hk)); (case aO => exact (pR HO_9.out)); (case aS => exact (below_size (pB HB.out))); (case aL => have := LMc13.out; omega); intro v181 w14 ho hb hg hat; rw [← Ny180.out] at ho; have n0_ := Aside0.mk (Kd.R_after (ok := (fun _ => True)) (by (with_reducible repeat (first | apply Kd.R_alloc | apply Kd.R_drewN | apply Kd.R_drew)); exact Kd.R_mono HO_16.out (fun _ hk => ⟨trivial, hk⟩)) hg hat); have n1_ := Aside0.mk (hb); have n2_ := Aside0.mk (ho); clear HO_16 HB HO_9; have HO_16 := n0_; have HB := n1_; have HO182 := n2_; clear n0_ n1_ n2_ ho hb hg hat))
         go_roundg k1
         case measure => have := HK1.out; omega
         case rel => exact ⟨(y180), (wrap64 (x18_1 + 1)), (by first | rfl | (simp; done) | (simp [*]; done)), H', ⟨by have := HK1.out; omega⟩, ⟨by (with_reducible repeat (first | apply Kd.R_alloc | apply Kd.R_drewN | apply Kd.R_drew)); exact HO182.out⟩, ⟨by (with_reducible repeat (first | apply Kd.R_alloc | apply Kd.R_drewN | apply Kd.R_drew)); exact Kd.R_mono HO_16.out (fun _ hk => hk.2)⟩, ⟨by repeat (first | (with_reducible first | exact HB.out | apply below_alloc | apply pw_below_drewN | apply below_drew1) | exact HB.out)⟩⟩
        ·rw [if_neg c13] at H
         exact absurd H (by simp)
       ·rw [if_neg c12] at H
        exact absurd H (by simp)
      ·rw [if_neg c11] at H
       exact absurd H (by simp)
     ·rw [if_neg c10] at H
      exact absurd H (by simp)
    ·rw [if_neg c9] at H
     exact absurd H (by simp)
   ·rw [if_neg c8] at H
    have c8b0 : decide (x18_1 < (t175.length : Int)) = false := decide_eq_false c8
    clear c8
    obtain rfl := Option.some.inj H
    go_wp2
    go_ret
    exact ⟨_, by first | rfl | (simp [errW_none, errW_some] <;> rfl) | (simp [*, errW_none, errW_some] <;> rfl), by (with_reducible repeat (first | apply Kd.R_alloc | apply Kd.R_drewN | apply Kd.R_drew)); exact Kd.R_mono HO_9.out (fun _ hk => trivial), by repeat (first | (with_reducible first | exact HB.out | apply below_alloc | apply pw_below_drewN | apply below_drew1) | exact HB.out)⟩
end Go.Proofs.Ytcjkchjgmgdbgaa.PVictimSparse
