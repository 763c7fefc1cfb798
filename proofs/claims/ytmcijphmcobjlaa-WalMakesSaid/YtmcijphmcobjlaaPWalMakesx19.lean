/- What the law reaches, as plain Lean functions, and that the machine's calls answer just that. -/
import Derived.Test.YtmcijphmcobjlaaPWalMakesx0
import Derived.Test.YtmcijphmcobjlaaPWalMakesx16
import Derived.Test.YtmcijphmcobjlaaPWalMakesx18
namespace Go.Proofs.Ytmcijphmcobjlaa.PWalMakes
open Go.RowKit Go.Proofs.YtmcijphmcobjlaaW.PrintWords Go.Proofs.YtmcijphmcobjlaaW.PrintLast Go.Proofs.YtmcijphmcobjlaaW.PrintMore
attribute [local go_sem] max2_int min2_int max_two min_two max_three min_three max_four min_four
set_option linter.unusedVariables false
set_option linter.unusedSimpArgs false
attribute [local go_sem] wrap64_l1 wrap64_l2 wrap64_l3 wrap64_l4 wrap64_l5
mutual
def garnerref23_Put.j0 : Nat → List (S54) → Bool → Int → Int → List (S54) → Int → Int → Int → Int → Option (Int × Int × (List (S54)) × Int × Int × Int × Int × Int)
 | 0, _, _, _, _, _, _, _, _, _ => none
 | k + 1, x1, x15, x371000, x371001, x371002, x371003, x371004, x371005, x371006 => if x15 = true then (some (0, 0, ([] : List (S54)), 0, 0, 0, 0, 1)) else (if 0 < (x1.length : Int) then (if ((rd_T54 x1 0).f0) ≤ x371000 then (some (0, 0, ([] : List (S54)), 0, 0, 0, 0, 4)) else ((garnerref23_Last.f x371000 x371001 x371002 x371003 x371004 x371005 x371006).bind fun t375 => (if (wrap64 (((rd_T54 x1 0).f0) - 1)) > t375 then (some (0, 0, ([] : List (S54)), 0, 0, 0, 0, 5)) else ((garnerref23_Term.f x371000 x371001 x371002 x371003 x371004 x371005 x371006 (wrap64 (((rd_T54 x1 0).f0) - 1))).bind fun t378 => (if ((rd_T54 x1 0).f1) < t378 then (some (0, 0, ([] : List (S54)), 0, 0, 0, 0, 1)) else (garnerref23_Put.l0 k x1 0 x371000 x371001 x371002 x371003 x371004 x371005 x371006)))))) else (none))
def garnerref23_Put.l0 : Nat → List (S54) → Int → Int → Int → List (S54) → Int → Int → Int → Int → Option (Int × Int × (List (S54)) × Int × Int × Int × Int × Int)
 | 0, _, _, _, _, _, _, _, _, _ => none
 | k + 1, x1, x6, x371000, x371001, x371002, x371003, x371004, x371005, x371006 => if x6 < (x1.length : Int) then (if 0 ≤ x6 then ((garnerref23_Last.f x371000 x371001 x371002 x371003 x371004 x371005 x371006).bind fun t380 => (if ((rd_T54 x1 x6).f0) ≤ t380 then ((garnerref23_Term.f x371000 x371001 x371002 x371003 x371004 x371005 x371006 ((rd_T54 x1 x6).f0)).bind fun t382 => (garnerref23_Put.j2 k x1 x6 (t382 == ((rd_T54 x1 x6).f1)) x371000 x371001 x371002 x371003 x371004 x371005 x371006)) else (garnerref23_Put.j2 k x1 x6 false x371000 x371001 x371002 x371003 x371004 x371005 x371006))) else (none)) else (some (x371000, x371001, x371002, x371003, x371004, x371005, x371006, 0))
def garnerref23_Put.j2 : Nat → List (S54) → Int → Bool → Int → Int → List (S54) → Int → Int → Int → Int → Option (Int × Int × (List (S54)) × Int × Int × Int × Int × Int)
 | 0, _, _, _, _, _, _, _, _, _, _ => none
 | k + 1, x1, x6, x75, x371000, x371001, x371002, x371003, x371004, x371005, x371006 => if x75 = true then (garnerref23_Put.l0 k x1 (wrap64 (x6 + 1)) x371000 x371001 x371002 x371003 x371004 x371005 x371006) else (if 0 ≤ x6 then (if x6 < (x1.length : Int) then (if ((rd_T54 x1 x6).f0) ≤ x371005 then (some (0, 0, ([] : List (S54)), 0, 0, 0, 0, 11)) else ((some (([] : List (S54)) : List (S54))).bind fun y385 => (if 0 ≤ (wrap64 ((wrap64 (((rd_T54 x1 x6).f0) - x371000)) - 1)) then (if (wrap64 ((wrap64 (((rd_T54 x1 x6).f0) - x371000)) - 1)) ≤ (x371002.length : Int) then ((some (x371002.take ((wrap64 ((wrap64 (((rd_T54 x1 x6).f0) - x371000)) - 1)) : Int).toNat : List (S54))).bind fun y389 => (if y385.length + y389.length < 1353245080339 then ((some (y385 ++ y389 : List (S54))).bind fun y394 => (if (wrap64 ((wrap64 ((y394.length : Int) + (x1.length : Int))) - x6)) > 1000 then (some (0, 0, ([] : List (S54)), 0, 0, 0, 0, 7)) else (if x6 ≤ (x1.length : Int) then ((some (x1.drop (x6 : Int).toNat : List (S54))).bind fun y397 => (if y394.length + y397.length < 1353245080339 then (some (x371000, x371001, (y394 ++ y397), x371003, x371004, x371005, x371006, 0)) else (none))) else (none)))) else (none))) else (none)) else (none)))) else (none)) else (none))
end
def garnerref23_Put.f (k : Nat) (a0_0 : Int) (a0_1 : Int) (l0_2 : List (S54)) (a0_3 : Int) (a0_4 : Int) (a0_5 : Int) (a0_6 : Int) (l1 : List (S54)) : Option (Int × Int × (List (S54)) × Int × Int × Int × Int × Int) := if (l1.length : Int) = 0 then (garnerref23_Put.j0 k l1 true a0_0 a0_1 l0_2 a0_3 a0_4 a0_5 a0_6) else ((garnerref23_Rows.f k l1).bind fun t372 => (garnerref23_Put.j0 k l1 (!t372) a0_0 a0_1 l0_2 a0_3 a0_4 a0_5 a0_6))
theorem garnerref23_Put.mono_l : ∀ k, (∀ y0 y1 y2 y3 y4 y5 y6 y7 y8, LeO (garnerref23_Put.j0 k y0 y1 y2 y3 y4 y5 y6 y7 y8) (garnerref23_Put.j0 (k + 1) y0 y1 y2 y3 y4 y5 y6 y7 y8)) ∧ (∀ y0 y1 y2 y3 y4 y5 y6 y7 y8, LeO (garnerref23_Put.l0 k y0 y1 y2 y3 y4 y5 y6 y7 y8) (garnerref23_Put.l0 (k + 1) y0 y1 y2 y3 y4 y5 y6 y7 y8)) ∧ (∀ y0 y1 y2 y3 y4 y5 y6 y7 y8 y9, LeO (garnerref23_Put.j2 k y0 y1 y2 y3 y4 y5 y6 y7 y8 y9) (garnerref23_Put.j2 (k + 1) y0 y1 y2 y3 y4 y5 y6 y7 y8 y9))
 | 0 => ⟨fun _ _ _ _ _ _ _ _ _ r h => by simp [garnerref23_Put.j0] at h, fun _ _ _ _ _ _ _ _ _ r h => by simp [garnerref23_Put.l0] at h, fun _ _ _ _ _ _ _ _ _ _ r h => by simp [garnerref23_Put.j2] at h⟩
 | k + 1 => by
  obtain ⟨ih0, ih1, ih2⟩ := garnerref23_Put.mono_l k
  refine ⟨?_, ?_, ?_⟩
  ·intro y0 y1 y2 y3 y4 y5 y6 y7 y8
   unfold garnerref23_Put.j0
   repeat' (with_reducible first | exact ih0 .. | exact ih1 .. | exact ih2 .. | exact garnerref23_Rows.mono .. | exact LeO.refl .. | exact LeO.none .. | refine LeO.ite ?_ ?_ | refine LeO.bind ?_ (fun _ => ?_))
  ·intro y0 y1 y2 y3 y4 y5 y6 y7 y8
   unfold garnerref23_Put.l0
   repeat' (with_reducible first | exact ih0 .. | exact ih1 .. | exact ih2 .. | exact garnerref23_Rows.mono .. | exact LeO.refl .. | exact LeO.none .. | refine LeO.ite ?_ ?_ | refine LeO.bind ?_ (fun _ => ?_))
  ·intro y0 y1 y2 y3 y4 y5 y6 y7 y8 y9
   unfold garnerref23_Put.j2
   repeat' (with_reducible first | exact ih0 .. | exact ih1 .. | exact ih2 .. | exact garnerref23_Rows.mono .. | exact LeO.refl .. | exact LeO.none .. | refine LeO.ite ?_ ?_ | refine LeO.bind ?_ (fun _ => ?_))
theorem garnerref23_Put.mono : ∀ a0 a1 a2 a3 a4 a5 a6 a7 k, LeO (garnerref23_Put.f k a0 a1 a2 a3 a4 a5 a6 a7) (garnerref23_Put.f (k + 1) a0 a1 a2 a3 a4 a5 a6 a7) := by
 intro a0 a1 a2 a3 a4 a5 a6 a7 k
 obtain ⟨ih0, ih1, ih2⟩ := garnerref23_Put.mono_l k
 unfold garnerref23_Put.f
 repeat' (with_reducible first | exact ih0 .. | exact ih1 .. | exact ih2 .. | exact garnerref23_Rows.mono .. | exact LeO.refl .. | exact LeO.none .. | refine LeO.ite ?_ ?_ | refine LeO.bind ?_ (fun _ => ?_))
def garnerref23_Put.T5 : Bool × List (List Nat × List Nat) := (true, [([], []), ([0], [0]), ([1], [1]), ([2], [2]), ([3], [3]), ([], []), ([5], [5]), ([4, 6], [4, 6])])
def garnerref23_Put.B5 : List Nat := [0, 1, 3, 7, 15, 0, 32, 127]
theorem garnerref23_Put.tab5 : rtab .any (opsOf Try.f39 5) = garnerref23_Put.T5 := by kernel_rfl
theorem garnerref23_Put.bits5 : waitsOk garnerref23_Put.T5.2 garnerref23_Put.B5 = true := by kernel_rfl
def garnerref23_Put.T7 : Bool × List (List Nat × List Nat) := (true, [([], []), ([0], [0]), ([1], [1]), ([2], [2]), ([], []), ([], []), ([5], [5]), ([6], [6]), ([7], [7]), ([8], [8]), ([4, 9], [4, 9]), ([3, 10], [3, 10])])
def garnerref23_Put.B7 : List Nat := [0, 1, 3, 7, 0, 0, 32, 96, 224, 480, 1008, 2047]
theorem garnerref23_Put.tab7 : rtab .any (opsOf Try.f39 7) = garnerref23_Put.T7 := by kernel_rfl
theorem garnerref23_Put.bits7 : waitsOk garnerref23_Put.T7.2 garnerref23_Put.B7 = true := by kernel_rfl
def garnerref23_Put.T12 : Bool × List (List Nat × List Nat) := (true, [([], []), ([], []), ([0, 1], [0, 1]), ([2], [2]), ([3], [3]), ([], []), ([5], [5]), ([4, 6], [4, 6]), ([7, 6], [7]), ([8], [8]), ([8], [8]), ([8], [8]), ([10, 11, 8], [8, 10, 11]), ([12, 8], [8, 12]), ([13, 8], [8, 13]), ([9, 14, 8, 8], [8, 9, 14]), ([8], [8]), ([8], [8]), ([16, 17, 8], [8, 16, 17]), ([18, 8], [8, 18]), ([19, 8], [8, 19]), ([15, 20, 8], [8, 15, 20]), ([8, 21], [8, 21])])
def garnerref23_Put.B12 : List Nat := [0, 0, 3, 7, 15, 0, 32, 127, 255, 511, 511, 511, 3583, 7679, 15871, 32767, 511, 511, 197119, 459263, 983551, 2097151, 4194303]
theorem garnerref23_Put.tab12 : rtab .any (opsOf Try.f39 12) = garnerref23_Put.T12 := by kernel_rfl
theorem garnerref23_Put.bits12 : waitsOk garnerref23_Put.T12.2 garnerref23_Put.B12 = true := by kernel_rfl
def garnerref23_Put.T13 : Bool × List (List Nat × List Nat) := (true, [([], []), ([], []), ([0, 1], [0, 1]), ([2], [2]), ([3], [3]), ([], []), ([5], [5]), ([6], [6]), ([4, 7], [4, 7])])
def garnerref23_Put.B13 : List Nat := [0, 0, 3, 7, 15, 0, 32, 96, 255]
theorem garnerref23_Put.tab13 : rtab .any (opsOf Try.f39 13) = garnerref23_Put.T13 := by kernel_rfl
theorem garnerref23_Put.bits13 : waitsOk garnerref23_Put.T13.2 garnerref23_Put.B13 = true := by kernel_rfl
def garnerref23_Put.T15 : Bool × List (List Nat × List Nat) := (true, [([], []), ([], []), ([1], [1]), ([], []), ([], []), ([3, 4], [3, 4]), ([5], [5]), ([6], [6]), ([], []), ([8], [8]), ([7, 9], [7, 9]), ([10], [10]), ([2, 11], [2, 11]), ([0, 12], [0, 12]), ([13, 13, 0, 1, 2, 3, 4, 5, 6, 7, 8, 9, 10, 11, 12, 13], [13])])
def garnerref23_Put.B15 : List Nat := [0, 0, 2, 0, 0, 24, 56, 120, 0, 256, 1016, 2040, 4094, 8191, 16383]
theorem garnerref23_Put.tab15 : rtab .any (opsOf Try.f39 15) = garnerref23_Put.T15 := by kernel_rfl
theorem garnerref23_Put.bits15 : waitsOk garnerref23_Put.T15.2 garnerref23_Put.B15 = true := by kernel_rfl
set_option maxHeartbeats 8000000 in
set_option maxRecDepth 100000 in
theorem garnerref23_Put.calls (k : Nat) (a0_0 : Int) (a0_1 : Int) (P0_2_ : Nat → Prop) (A0_2 : Option Addr) (c0_2 : Nat) (l0_2 : List (S54)) (a0_3 : Int) (a0_4 : Int) (a0_5 : Int) (a0_6 : Int) (P1_ : Nat → Prop) (A1 : Option Addr) (c1 : Nat) (l1 : List (S54)) (r1 : Int) (r2 : Int) (r3 : List (S54)) (r4 : Int) (r5 : Int) (r6 : Int) (r7 : Int) (r8 : Int) (w : World) (hs0_2 : Kd.V k54 54 w w.heap.size (fun k_ => P0_2_ k_) (.slice A0_2 l0_2.length c0_2) l0_2) (hs1 : Kd.V k54 54 w w.heap.size (fun k_ => P1_ k_) (.slice A1 l1.length c1) l1) (h : garnerref23_Put.f k a0_0 a0_1 l0_2 a0_3 a0_4 a0_5 a0_6 l1 = some (r1, r2, r3, r4, r5, r6, r7, r8)) :
 Calls Try.prog 39 #[.agg #[.int .i64 a0_0, .int .i64 a0_1, .slice A0_2 l0_2.length c0_2, .int .i64 a0_3, .int .i64 a0_4, .int .i64 a0_5, .int .i64 a0_6], .slice A1 l1.length c1] w fun e w' => ∃ v2_ : Value, e = .returned (.tuple #[.agg #[.int .i64 r1, .int .i64 r2, v2_, .int .i64 r4, .int .i64 r5, .int .i64 r6, .int .i64 r7], .int .i64 r8]) ∧ Kd.V k54 54 w' w.heap.size (fun k_ => ((P0_2_ k_ ∨ P1_ k_) ∨ w.heap.size ≤ k_)) v2_ r3 ∧ Below w.heap.size w w' := by
 have hu26 := Try.underlying26
 have HO0_2 := Am (show Kd.V k54 54 w w.heap.size (fun k_ => ((P0_2_ k_ ∨ P1_ k_) ∨ w.heap.size ≤ k_)) (.slice A0_2 l0_2.length c0_2) l0_2 from Kd.V_mono hs0_2 (fun k_ hk => .inl (.inl hk)))
 have E0 := Am (show Kd.V k54 54 w w.heap.size (fun k_ => ((P0_2_ k_ ∨ P1_ k_) ∨ w.heap.size ≤ k_)) (.slice A1 l1.length c1) l1 from Kd.V_mono hs1 (fun k_ hk => .inl (.inr hk)))
 have HB := Am (Below.refl w.heap.size w)
 unfold garnerref23_Put.f at h
 have H := h
 clear h
 have HC3 := Am H
 clear H
 go_enter Try.func39, Try.ntmps39
 go_upto_region 1 with (first | ((with_reducible refine zD 2 rfl ?_); refine zE 2 #[.int .i64 a0_0, .int .i64 a0_1, .slice A0_2 l0_2.length c0_2, .int .i64 a0_3, .int .i64 a0_4, .int .i64 a0_5, .int .i64 a0_6] 26 ?_; intro Af hg w4 hbox hb; replace HO0_2 := Am (Kd.V_below (Kd.V_elderB (pV HO0_2.out) Af (Nat.le_of_eq hg.symm)) hb); replace E0 := Am (Kd.V_below (Kd.V_elderB (pV E0.out) Af (Nat.le_of_eq hg.symm)) hb); have Ab := Am (hbox); have Fu := zA hg HB; replace HB := zB HB hb; have Ay := Fu; clear hb hbox hg) | ((with_reducible refine zD 4 rfl ?_); refine zE 4 #[.int .i64 0, .int .i64 0, .slice none 0 0, .int .i64 0, .int .i64 0, .int .i64 0, .int .i64 0] 26 ?_; intro Al hg w5 hbox hb; replace HO0_2 := Am (Kd.V_below (Kd.V_elderB (pV HO0_2.out) Al (Nat.le_of_eq hg.symm)) hb); replace E0 := Am (Kd.V_below (Kd.V_elderB (pV E0.out) Al (Nat.le_of_eq hg.symm)) hb); have Ae := Am (hbox); have Fv := zY1 hg HB Ay.out; replace HB := zX1 HB Ay.out hb; have Az := Fv; have Bz := Am (zN hg (kL Ab.out)); have Bi := Am (zM hg (kL Ab.out)); replace Ab := kBa Ab hb; clear hb hbox hg))
 (try simp only [Act.put, List.setIfInBounds_toArray, List.set_cons_zero, List.set_cons_succ])
 go_cut [15] (fun v15 wc => ∃ (kq : Nat) (Ee : Bool), v15 = .bool Ee ∧ Aside0 (garnerref23_Put.j0 kq l1 Ee a0_0 a0_1 l0_2 a0_3 a0_4 a0_5 a0_6 = some (r1, r2, r3, r4, r5, r6, r7, r8)) ∧ Aside0 (kq ≤ k) ∧ Aside0 (Kd.V k54 54 wc w.heap.size (fun k_ => ((P0_2_ k_ ∨ P1_ k_) ∨ w.heap.size ≤ k_) ∧ k_ ≠ Af ∧ k_ ≠ Al) (.slice A1 l1.length c1) l1) ∧ Aside0 (Kd.V k54 54 wc w.heap.size (fun k_ => ((P0_2_ k_ ∨ P1_ k_) ∨ w.heap.size ≤ k_) ∧ k_ ≠ Af ∧ k_ ≠ Al) (.slice A0_2 l0_2.length c0_2) l0_2) ∧ Aside0 (wc.heap[Af]? = some (.cells #[.int .i64 a0_0, .int .i64 a0_1, (.slice A0_2 l0_2.length c0_2), .int .i64 a0_3, .int .i64 a0_4, .int .i64 a0_5, .int .i64 a0_6] 26 (0, 0))) ∧ Aside0 (wc.heap[Al]? = some (.cells #[.int .i64 0, .int .i64 0, (.slice none 0 0), .int .i64 0, .int .i64 0, .int .i64 0, .int .i64 0] 26 (0, 0))) ∧ Aside0 (Below w.heap.size w wc))
 case first =>
  have H := HC3.out
  clear HC3
  by_cases c6 : (l1.length : Int) = 0
  ·rw [if_pos c6] at H
   obtain ⟨c6b0, c6b1⟩ := zc c6
   clear c6
   (first | rw [c6b0] | (simp only [i64_w, i32_w]; rw [c6b0]) | skip)
   have H' := Am H
   clear H
   go_wp2
   go_meet
   case rel => exact ⟨_, (true), zr, H', ⟨zo⟩, ⟨by (with_reducible repeat (first | apply Kd.V_alloc | apply Kd.V_drewN | apply Kd.V_drew)); exact Kd.V_mono E0.out (fun _ hk => ⟨hk.1.1, ⟨hk.1.2, hk.2⟩⟩)⟩, ⟨by (with_reducible repeat (first | apply Kd.V_alloc | apply Kd.V_drewN | apply Kd.V_drew)); exact Kd.V_mono HO0_2.out (fun _ hk => ⟨hk.1.1, ⟨hk.1.2, hk.2⟩⟩)⟩, ⟨pK Ab.out⟩, ⟨pK Ae.out⟩, ⟨pE2 HB.out Ay.out Az.out⟩⟩
  rw [if_neg c6] at H
  obtain ⟨c6b0, c6b1⟩ := zk c6
  have c6b2 : ¬ (l1 = []) := fun h_ => c6 (by rw [h_]; rfl)
  (first | rw [c6b0] | (simp only [i64_w, i32_w]; rw [c6b0]) | skip)
  obtain ⟨t372, A7, H⟩ := zb H
  have H' := Am H
  clear H
  go_wp2_with (first | (go_at_call 31; (with_reducible refine (garnerref23_Rows.calls k _ _ l1 t372 _ ?Cb ?Cc A7.out).mono ?_); (case Cb => exact pC (Kd.V_reads' E0.out).2.2); (case Cc => exact (Kd.V_reads' E0.out).2.1); rintro e w8 ⟨rfl, hb⟩; replace HO0_2 := bVa HO0_2 hb; replace E0 := bVa E0 hb; replace Ab := kBa Ab hb; replace Ae := kBa Ae hb; replace HB := zX2 HB Ay.out Az.out hb; (try clear hb)))
  go_meet
  case rel => exact ⟨_, (!t372), zr, H', ⟨zo⟩, ⟨by (with_reducible repeat (first | apply Kd.V_alloc | apply Kd.V_drewN | apply Kd.V_drew)); exact Kd.V_mono E0.out (fun _ hk => ⟨hk.1.1, ⟨hk.1.2, hk.2⟩⟩)⟩, ⟨by (with_reducible repeat (first | apply Kd.V_alloc | apply Kd.V_drewN | apply Kd.V_drew)); exact Kd.V_mono HO0_2.out (fun _ hk => ⟨hk.1.1, ⟨hk.1.2, hk.2⟩⟩)⟩, ⟨pK Ab.out⟩, ⟨pK Ae.out⟩, ⟨pE2 HB.out Ay.out Az.out⟩⟩
 case rest =>
  clear HC3
  try clear c1
  try clear p2
  try clear c3
  try clear c6
  try clear c6b0
  try clear c6b1
  try clear c6b2
  obtain ⟨kq, Ee, rfl, HA, HJ2, Aj, Aa, Ab, Ae, HB⟩ := hcut
  cases kq with
  | zero => exact absurd HA.out (by simp [garnerref23_Put.j0])
  | succ kj2 =>
   have H := HA.out
   clear HA
   simp only [garnerref23_Put.j0] at H
   by_cases c9 : Ee = true
   ·subst c9
    rw [if_pos rfl] at H
    simp only [Option.some.injEq, Prod.mk.injEq] at H
    obtain ⟨rfl, rfl, rfl, rfl, rfl, rfl, rfl, rfl⟩ := H
    have hnb10 := Bi.out
    have hnc10 := Bz.out
    obtain ⟨_, _, _, _, _, _, _⟩ := bc7 Ae.out
    obtain ⟨_, _, _, _, _, _, _⟩ := bf7 Ae.out
    go_wp2
    refine bodyPost_ret (results_ct rfl _ _ Al 26 #[.int .i64 0, .int .i64 0, .slice none 0 0, .int .i64 0, .int .i64 0, .int .i64 0, .int .i64 0] (0, 0) _ rfl (kX0 Ae.out) Try.underlying26 rfl (by kernel_rfl)) rfl ?_
    exact ⟨_, pX, Kd.N_V (Kd.N_nil _ _ _ 0 _), pE2 HB.out Ay.out Az.out⟩
   replace c9 := Bool.eq_false_iff.mpr c9
   subst c9
   rw [if_neg zF] at H
   obtain ⟨c12, H⟩ := zI H
   have c12b0 := decide_eq_true c12
   have c12b1 : decide (0 < l1.length) = true := decide_eq_true (by omega)
   clear c12
   by_cases c13 : ((rd_T54 l1 0).f0) ≤ a0_0
   ·rw [if_pos c13] at H
    have c13b0 := decide_eq_true c13
    clear c13
    simp only [Option.some.injEq, Prod.mk.injEq] at H
    obtain ⟨rfl, rfl, rfl, rfl, rfl, rfl, rfl, rfl⟩ := H
    try go_wp2
    replace Aj := dVa Aj
    replace Aa := dVa Aa
    replace Ab := kDa Ab
    replace Ae := kDa Ae
    replace HB := bDa HB
    have p373 : 0 ≤ (0 : Int) := (by omega)
    have q373 : 0 < (l1.length : Int) := of_decide_eq_true pS
    obtain ⟨Ap, Dp, c373_5, e373, An, Aq, Ar, As, At, Ao, Au, Av, Aw, Ax, B0, B1⟩ := at_T54 (Kd.V_reads' Aj.out).2.2 0 p373 q373
    cases e373
    obtain ⟨ce373, hce373, hMe373, hcc373⟩ := Kd.V_get Aj.out z54 0 p373 (by first | exact q373 | exact of_decide_eq_true pS | (have e_ := (Kd.V_reads' Aj.out).1; omega))
    obtain ⟨ua373_5, uc373_5, rfl, ul373_5, ge373_5⟩ := k54_openF hMe373
    have hv373_5 := hcc373 5 _ rfl
    rw [add_field _ _ 5 (by omega)] at hv373_5
    replace hv373_5 := Option.some.inj (hv373_5.symm.trans Ao)
    injection hv373_5 with hva_ hvn_ hvc_
    rw [hva_] at ge373_5
    rw [hvc_] at ul373_5
    have HL373_5 := Am (show Kd.V (Kd.int .u8) 5 _ w.heap.size _ _ ((rd_T54 l1 0).f4.f1) from Kd.V_mk ul373_5 ge373_5)
    clear hva_ hvn_ hvc_ ge373_5 ul373_5
    clear hcc373 hce373
    have qi373 : (0 < l1.length) = True := eq_true (by omega)
    (try simp only [tz, show 0 * 10 = 0 from rfl, Addr.add_zero'] at An Aq Ar As At Ao Au Av Aw Ax)
    have Ac := Am B1
    have Dt := Am B0
    clear B1 B0
    replace p373 := eq_true p373
    replace q373 := eq_true q373
    refine start_ (n := 7) (S := fun w' => cG w' Af 0 (.int .i64 a0_0) ∧ w'.cell? Ap = some (.int .i64 ((rd_T54 l1 0).f0))) (ds := []) #[false, false, false, false, false, false, false] (by kernel_rfl) rfl rfl ⟨(blk_cell Ab.out 0).trans rfl, An⟩ (fun hHeld => ?_)
    (first | generalize wc.drew = w14 at Aj Aa Ab Ae HB HL373_5 Ac An Aq Ar As At Ao Au Av Aw Ax hHeld ⊢ | generalize wc.drew = w14 at Ab Ae HB HL373_5 Ac An Aq Ar As At Ao Au Av Aw Ax hHeld ⊢)
    refine zu 0 17 7 1 ?_
    refine zu 1 18 7 3 ?_
    refine zu 2 19 7 7 ?_
    refine zu 4 21 7 23 ?_
    refine zv 3 20 7 31 hHeld ?_
    refine zv 5 22 7 63 hHeld ?_
    refine zu 6 23 7 127 ?_
    refine done_ (by kernel_rfl) ?_
    have hnb15 := Bi.out
    have hnc15 := Bz.out
    obtain ⟨_, _, _, _, _, _, _⟩ := bc7 Ae.out
    obtain ⟨_, _, _, _, _, _, _⟩ := bf7 Ae.out
    try go_wp2
    refine bodyPost_ret (results_ct rfl _ _ Al 26 #[.int .i64 0, .int .i64 0, .slice none 0 0, .int .i64 0, .int .i64 0, .int .i64 0, .int .i64 0] (0, 0) _ rfl (kX0 Ae.out) Try.underlying26 rfl (by kernel_rfl)) rfl ?_
    exact ⟨_, pX, Kd.N_V (Kd.N_nil _ _ _ 0 _), pE2 HB.out Ay.out Az.out⟩
   rw [if_neg c13] at H
   have c13b0 := decide_eq_false c13
   clear c13
   obtain ⟨t375, A17, H⟩ := zb H
   by_cases c18 : (wrap64 (((rd_T54 l1 0).f0) - 1)) > t375
   ·rw [if_pos c18] at H
    have c18b0 : decide (t375 < (wrap64 (((rd_T54 l1 0).f0) - 1))) = true := decide_eq_true c18
    clear c18
    simp only [Option.some.injEq, Prod.mk.injEq] at H
    obtain ⟨rfl, rfl, rfl, rfl, rfl, rfl, rfl, rfl⟩ := H
    try go_wp2
    replace Aj := dVa Aj
    replace Aa := dVa Aa
    replace Ab := kDa Ab
    replace Ae := kDa Ae
    replace HB := bDa HB
    have p373 : 0 ≤ (0 : Int) := (by omega)
    have q373 : 0 < (l1.length : Int) := of_decide_eq_true pS
    obtain ⟨Ap, Dp, c373_5, e373, An, Aq, Ar, As, At, Ao, Au, Av, Aw, Ax, B0, B1⟩ := at_T54 (Kd.V_reads' Aj.out).2.2 0 p373 q373
    cases e373
    obtain ⟨ce373, hce373, hMe373, hcc373⟩ := Kd.V_get Aj.out z54 0 p373 (by first | exact q373 | exact of_decide_eq_true pS | (have e_ := (Kd.V_reads' Aj.out).1; omega))
    obtain ⟨ua373_5, uc373_5, rfl, ul373_5, ge373_5⟩ := k54_openF hMe373
    have hv373_5 := hcc373 5 _ rfl
    rw [add_field _ _ 5 (by omega)] at hv373_5
    replace hv373_5 := Option.some.inj (hv373_5.symm.trans Ao)
    injection hv373_5 with hva_ hvn_ hvc_
    rw [hva_] at ge373_5
    rw [hvc_] at ul373_5
    have HL373_5 := Am (show Kd.V (Kd.int .u8) 5 _ w.heap.size _ _ ((rd_T54 l1 0).f4.f1) from Kd.V_mk ul373_5 ge373_5)
    clear hva_ hvn_ hvc_ ge373_5 ul373_5
    clear hcc373 hce373
    have qi373 : (0 < l1.length) = True := eq_true (by omega)
    (try simp only [tz, show 0 * 10 = 0 from rfl, Addr.add_zero'] at An Aq Ar As At Ao Au Av Aw Ax)
    have Ac := Am B1
    have Dt := Am B0
    clear B1 B0
    replace p373 := eq_true p373
    replace q373 := eq_true q373
    refine start_ (n := 7) (S := fun w' => cG w' Af 0 (.int .i64 a0_0) ∧ w'.cell? Ap = some (.int .i64 ((rd_T54 l1 0).f0))) (ds := []) #[false, false, false, false, false, false, false] (by kernel_rfl) rfl rfl ⟨(blk_cell Ab.out 0).trans rfl, An⟩ (fun hHeld => ?_)
    (first | generalize wc.drew = w19 at Aj Aa Ab Ae HB HL373_5 Ac An Aq Ar As At Ao Au Av Aw Ax hHeld ⊢ | generalize wc.drew = w19 at Ab Ae HB HL373_5 Ac An Aq Ar As At Ao Au Av Aw Ax hHeld ⊢)
    refine zu 0 17 7 1 ?_
    refine zu 1 18 7 3 ?_
    refine zu 2 19 7 7 ?_
    refine zu 4 21 7 23 ?_
    refine zv 3 20 7 31 hHeld ?_
    refine zv 5 22 7 63 hHeld ?_
    refine zu 6 23 7 127 ?_
    refine done_ (by kernel_rfl) ?_
    try go_wp2
    replace Aj := dVa Aj
    replace Aa := dVa Aa
    replace HL373_5 := dVa HL373_5
    replace Ab := kDa Ab
    replace Ae := kDa Ae
    replace Ac := Am (Kd.C_drew Ac.out)
    replace HB := bDa HB
    have p374 : 0 ≤ (0 : Int) := (by omega)
    have q374 : 0 < (l1.length : Int) := of_decide_eq_true pS
    obtain ⟨Eb, Dr, c374_5, e374, A2, A4, A5, A6, A8, A3, A9, Ba, Bb, Bc, Ce, Cf⟩ := at_T54 (Kd.V_reads' Aj.out).2.2 0 p374 q374
    obtain rfl : Ap = Eb := (by injection e374)
    obtain ⟨ce374, hce374, hMe374, hcc374⟩ := Kd.V_get Aj.out z54 0 p374 (by first | exact q374 | exact of_decide_eq_true pS | (have e_ := (Kd.V_reads' Aj.out).1; omega))
    obtain ⟨ua374_5, uc374_5, rfl, ul374_5, ge374_5⟩ := k54_openF hMe374
    have hv374_5 := hcc374 5 _ rfl
    rw [add_field _ _ 5 (by omega)] at hv374_5
    replace hv374_5 := Option.some.inj (hv374_5.symm.trans A3)
    injection hv374_5 with hva_ hvn_ hvc_
    rw [hva_] at ge374_5
    rw [hvc_] at ul374_5
    have HL374_5 := Am (show Kd.V (Kd.int .u8) 5 _ w.heap.size _ _ ((rd_T54 l1 0).f4.f1) from Kd.V_mk ul374_5 ge374_5)
    clear hva_ hvn_ hvc_ ge374_5 ul374_5
    clear hcc374 hce374
    have qi374 : (0 < l1.length) = True := eq_true (by omega)
    (try simp only [tz, show 0 * 10 = 0 from rfl, Addr.add_zero'] at A2 A4 A5 A6 A8 A3 A9 Ba Bb Bc)
    have Ad := Am Cf
    have Ef := Am Ce
    clear Cf Ce
    replace p374 := eq_true p374
    replace q374 := eq_true q374
    refine start_ (n := 8) (S := fun w' => cG w' Af 0 (.int .i64 a0_0) ∧ cG w' Af 1 (.int .i64 a0_1) ∧ cG w' Af 2 (.slice A0_2 l0_2.length c0_2) ∧ cG w' Af 3 (.int .i64 a0_3) ∧ cG w' Af 4 (.int .i64 a0_4) ∧ cG w' Af 5 (.int .i64 a0_5) ∧ cG w' Af 6 (.int .i64 a0_6) ∧ w'.cell? Ap = some (.int .i64 ((rd_T54 l1 0).f0))) (ds := []) #[false, false, false, false, false, false, false, false] (by kernel_rfl) rfl rfl ⟨(blk_cell Ab.out 0).trans rfl, (blk_cell Ab.out 1).trans rfl, (blk_cell Ab.out 2).trans rfl, (blk_cell Ab.out 3).trans rfl, (blk_cell Ab.out 4).trans rfl, (blk_cell Ab.out 5).trans rfl, (blk_cell Ab.out 6).trans rfl, A2⟩ (fun hHeld => ?_); refine with_tabW garnerref23_Put.tab5 garnerref23_Put.bits5 (fun HT_ HW_ => ?_)
    (first | generalize w19.drew = w20 at Aj Aa HL373_5 Ab Ae Ac HB HL374_5 Ad A2 A4 A5 A6 A8 A3 A9 Ba Bb Bc hHeld ⊢ | generalize w19.drew = w20 at HL373_5 Ab Ae Ac HB HL374_5 Ad A2 A4 A5 A6 A8 A3 A9 Ba Bb Bc hHeld ⊢)
    refine pui 0 25 8 1 HT_ ?_
    refine zp 1 (h := zp 2 (h := zw 3 (h := zp 4 (h := zw 5 (h := ?_)))))
    refine onei 6 31 8 127 HT_ (fun K hK => ?_)
    refine goes_ Try.func59 (by kernel_rfl) rfl #[.agg #[.int .i64 a0_0, .int .i64 a0_1, .slice A0_2 l0_2.length c0_2, .int .i64 a0_3, .int .i64 a0_4, .int .i64 a0_5, .int .i64 a0_6]] (by rfl) rfl rfl pL ?_
    with_reducible refine (garnerref23_Last.calls a0_0 a0_1 _ _ l0_2 a0_3 a0_4 a0_5 a0_6 t375 _ ?Cb ?Cc A17.out).mono ?_
    (case Cb => exact pC (Kd.V_reads' Aa.out).2.2)
    (case Cc => exact (Kd.V_reads' Aa.out).2.1)
    rintro e w21 ⟨rfl, hb⟩
    have HS7_ := zH hb hHeld.2.2.2.2.2.2.2
    refine ⟨_, rfl, ?_⟩
    replace Aj := bVa Aj hb
    replace Aa := bVa Aa hb
    replace HL373_5 := bVa HL373_5 hb
    replace HL374_5 := bVa HL374_5 hb
    replace Ab := kBa Ab hb
    replace Ae := kBa Ae hb
    replace Ac := Am (Kd.C_below (by repeat (first | (with_reducible exact Ac.out) | (with_reducible refine Kd.C_alloc ?_ _) | (with_reducible refine Kd.C_drewN ?_ _) | (with_reducible refine Kd.C_drew ?_) | exact Ac.out)) hb)
    replace Ad := Am (Kd.C_below (by repeat (first | (with_reducible exact Ad.out) | (with_reducible refine Kd.C_alloc ?_ _) | (with_reducible refine Kd.C_drewN ?_ _) | (with_reducible refine Kd.C_drew ?_) | exact Ad.out)) hb)
    replace HB := zX2 HB Ay.out Az.out hb
    (try clear hb)
    (try clear hb2)
    (try clear hk)
    (try clear hi)
    refine hK.out _ _ ⟨(blk_cell Ab.out 0).trans rfl, (blk_cell Ab.out 1).trans rfl, (blk_cell Ab.out 2).trans rfl, (blk_cell Ab.out 3).trans rfl, (blk_cell Ab.out 4).trans rfl, (blk_cell Ab.out 5).trans rfl, (blk_cell Ab.out 6).trans rfl, HS7_⟩ (fun hHeld => ?_)
    clear hK K
    refine norm_ (a' := ?_) ?_ ?_
    rotate_left
    ·show Act.put _ (some 31) _ = _
     simp only [Act.put, List.setIfInBounds_toArray, List.set_cons_zero, List.set_cons_succ, i64_w, i32_w]
     rfl
    refine pui 7 32 8 255 HT_ ?_
    refine done_ (done_of HT_.out (by kernel_rfl)) ?_
    have hnb22 := Bi.out
    have hnc22 := Bz.out
    obtain ⟨_, _, _, _, _, _, _⟩ := bc7 Ae.out
    obtain ⟨_, _, _, _, _, _, _⟩ := bf7 Ae.out
    try go_wp2
    refine bodyPost_ret (results_ct rfl _ _ Al 26 #[.int .i64 0, .int .i64 0, .slice none 0 0, .int .i64 0, .int .i64 0, .int .i64 0, .int .i64 0] (0, 0) _ rfl (kX0 Ae.out) Try.underlying26 rfl (by kernel_rfl)) rfl ?_
    exact ⟨_, pX, Kd.N_V (Kd.N_nil _ _ _ 0 _), pE2 HB.out Ay.out Az.out⟩
   rw [if_neg c18] at H
   have c18b0 : decide (t375 < (wrap64 (((rd_T54 l1 0).f0) - 1))) = false := decide_eq_false c18
   clear c18
   obtain ⟨t378, A24, H⟩ := zb H
   by_cases c25 : ((rd_T54 l1 0).f1) < t378
   ·rw [if_pos c25] at H
    have c25b0 := decide_eq_true c25
    clear c25
    simp only [Option.some.injEq, Prod.mk.injEq] at H
    obtain ⟨rfl, rfl, rfl, rfl, rfl, rfl, rfl, rfl⟩ := H
    try go_wp2
    replace Aj := dVa Aj
    replace Aa := dVa Aa
    replace Ab := kDa Ab
    replace Ae := kDa Ae
    replace HB := bDa HB
    have p373 : 0 ≤ (0 : Int) := (by omega)
    have q373 : 0 < (l1.length : Int) := of_decide_eq_true pS
    obtain ⟨Ap, Dp, c373_5, e373, An, Aq, Ar, As, At, Ao, Au, Av, Aw, Ax, B0, B1⟩ := at_T54 (Kd.V_reads' Aj.out).2.2 0 p373 q373
    cases e373
    obtain ⟨ce373, hce373, hMe373, hcc373⟩ := Kd.V_get Aj.out z54 0 p373 (by first | exact q373 | exact of_decide_eq_true pS | (have e_ := (Kd.V_reads' Aj.out).1; omega))
    obtain ⟨ua373_5, uc373_5, rfl, ul373_5, ge373_5⟩ := k54_openF hMe373
    have hv373_5 := hcc373 5 _ rfl
    rw [add_field _ _ 5 (by omega)] at hv373_5
    replace hv373_5 := Option.some.inj (hv373_5.symm.trans Ao)
    injection hv373_5 with hva_ hvn_ hvc_
    rw [hva_] at ge373_5
    rw [hvc_] at ul373_5
    have HL373_5 := Am (show Kd.V (Kd.int .u8) 5 _ w.heap.size _ _ ((rd_T54 l1 0).f4.f1) from Kd.V_mk ul373_5 ge373_5)
    clear hva_ hvn_ hvc_ ge373_5 ul373_5
    clear hcc373 hce373
    have qi373 : (0 < l1.length) = True := eq_true (by omega)
    (try simp only [tz, show 0 * 10 = 0 from rfl, Addr.add_zero'] at An Aq Ar As At Ao Au Av Aw Ax)
    have Ac := Am B1
    have Dt := Am B0
    clear B1 B0
    replace p373 := eq_true p373
    replace q373 := eq_true q373
    refine start_ (n := 7) (S := fun w' => cG w' Af 0 (.int .i64 a0_0) ∧ w'.cell? Ap = some (.int .i64 ((rd_T54 l1 0).f0))) (ds := []) #[false, false, false, false, false, false, false] (by kernel_rfl) rfl rfl ⟨(blk_cell Ab.out 0).trans rfl, An⟩ (fun hHeld => ?_)
    (first | generalize wc.drew = w26 at Aj Aa Ab Ae HB HL373_5 Ac An Aq Ar As At Ao Au Av Aw Ax hHeld ⊢ | generalize wc.drew = w26 at Ab Ae HB HL373_5 Ac An Aq Ar As At Ao Au Av Aw Ax hHeld ⊢)
    refine zu 0 17 7 1 ?_
    refine zu 1 18 7 3 ?_
    refine zu 2 19 7 7 ?_
    refine zu 4 21 7 23 ?_
    refine zv 3 20 7 31 hHeld ?_
    refine zv 5 22 7 63 hHeld ?_
    refine zu 6 23 7 127 ?_
    refine done_ (by kernel_rfl) ?_
    try go_wp2
    replace Aj := dVa Aj
    replace Aa := dVa Aa
    replace HL373_5 := dVa HL373_5
    replace Ab := kDa Ab
    replace Ae := kDa Ae
    replace Ac := Am (Kd.C_drew Ac.out)
    replace HB := bDa HB
    have p374 : 0 ≤ (0 : Int) := (by omega)
    have q374 : 0 < (l1.length : Int) := of_decide_eq_true pS
    obtain ⟨Eb, Dr, c374_5, e374, A2, A4, A5, A6, A8, A3, A9, Ba, Bb, Bc, Ce, Cf⟩ := at_T54 (Kd.V_reads' Aj.out).2.2 0 p374 q374
    obtain rfl : Ap = Eb := (by injection e374)
    obtain ⟨ce374, hce374, hMe374, hcc374⟩ := Kd.V_get Aj.out z54 0 p374 (by first | exact q374 | exact of_decide_eq_true pS | (have e_ := (Kd.V_reads' Aj.out).1; omega))
    obtain ⟨ua374_5, uc374_5, rfl, ul374_5, ge374_5⟩ := k54_openF hMe374
    have hv374_5 := hcc374 5 _ rfl
    rw [add_field _ _ 5 (by omega)] at hv374_5
    replace hv374_5 := Option.some.inj (hv374_5.symm.trans A3)
    injection hv374_5 with hva_ hvn_ hvc_
    rw [hva_] at ge374_5
    rw [hvc_] at ul374_5
    have HL374_5 := Am (show Kd.V (Kd.int .u8) 5 _ w.heap.size _ _ ((rd_T54 l1 0).f4.f1) from Kd.V_mk ul374_5 ge374_5)
    clear hva_ hvn_ hvc_ ge374_5 ul374_5
    clear hcc374 hce374
    have qi374 : (0 < l1.length) = True := eq_true (by omega)
    (try simp only [tz, show 0 * 10 = 0 from rfl, Addr.add_zero'] at A2 A4 A5 A6 A8 A3 A9 Ba Bb Bc)
    have Ad := Am Cf
    have Ef := Am Ce
    clear Cf Ce
    replace p374 := eq_true p374
    replace q374 := eq_true q374
    refine start_ (n := 8) (S := fun w' => cG w' Af 0 (.int .i64 a0_0) ∧ cG w' Af 1 (.int .i64 a0_1) ∧ cG w' Af 2 (.slice A0_2 l0_2.length c0_2) ∧ cG w' Af 3 (.int .i64 a0_3) ∧ cG w' Af 4 (.int .i64 a0_4) ∧ cG w' Af 5 (.int .i64 a0_5) ∧ cG w' Af 6 (.int .i64 a0_6) ∧ w'.cell? Ap = some (.int .i64 ((rd_T54 l1 0).f0))) (ds := []) #[false, false, false, false, false, false, false, false] (by kernel_rfl) rfl rfl ⟨(blk_cell Ab.out 0).trans rfl, (blk_cell Ab.out 1).trans rfl, (blk_cell Ab.out 2).trans rfl, (blk_cell Ab.out 3).trans rfl, (blk_cell Ab.out 4).trans rfl, (blk_cell Ab.out 5).trans rfl, (blk_cell Ab.out 6).trans rfl, A2⟩ (fun hHeld => ?_); refine with_tabW garnerref23_Put.tab5 garnerref23_Put.bits5 (fun HT_ HW_ => ?_)
    (first | generalize w26.drew = w27 at Aj Aa HL373_5 Ab Ae Ac HB HL374_5 Ad A2 A4 A5 A6 A8 A3 A9 Ba Bb Bc hHeld ⊢ | generalize w26.drew = w27 at HL373_5 Ab Ae Ac HB HL374_5 Ad A2 A4 A5 A6 A8 A3 A9 Ba Bb Bc hHeld ⊢)
    refine pui 0 25 8 1 HT_ ?_
    refine zp 1 (h := zp 2 (h := zw 3 (h := zp 4 (h := zw 5 (h := ?_)))))
    refine onei 6 31 8 127 HT_ (fun K hK => ?_)
    refine goes_ Try.func59 (by kernel_rfl) rfl #[.agg #[.int .i64 a0_0, .int .i64 a0_1, .slice A0_2 l0_2.length c0_2, .int .i64 a0_3, .int .i64 a0_4, .int .i64 a0_5, .int .i64 a0_6]] (by rfl) rfl rfl pL ?_
    with_reducible refine (garnerref23_Last.calls a0_0 a0_1 _ _ l0_2 a0_3 a0_4 a0_5 a0_6 t375 _ ?Cb ?Cc A17.out).mono ?_
    (case Cb => exact pC (Kd.V_reads' Aa.out).2.2)
    (case Cc => exact (Kd.V_reads' Aa.out).2.1)
    rintro e w28 ⟨rfl, hb⟩
    have HS7_ := zH hb hHeld.2.2.2.2.2.2.2
    refine ⟨_, rfl, ?_⟩
    replace Aj := bVa Aj hb
    replace Aa := bVa Aa hb
    replace HL373_5 := bVa HL373_5 hb
    replace HL374_5 := bVa HL374_5 hb
    replace Ab := kBa Ab hb
    replace Ae := kBa Ae hb
    replace Ac := Am (Kd.C_below (by repeat (first | (with_reducible exact Ac.out) | (with_reducible refine Kd.C_alloc ?_ _) | (with_reducible refine Kd.C_drewN ?_ _) | (with_reducible refine Kd.C_drew ?_) | exact Ac.out)) hb)
    replace Ad := Am (Kd.C_below (by repeat (first | (with_reducible exact Ad.out) | (with_reducible refine Kd.C_alloc ?_ _) | (with_reducible refine Kd.C_drewN ?_ _) | (with_reducible refine Kd.C_drew ?_) | exact Ad.out)) hb)
    replace HB := zX2 HB Ay.out Az.out hb
    (try clear hb)
    (try clear hb2)
    (try clear hk)
    (try clear hi)
    refine hK.out _ _ ⟨(blk_cell Ab.out 0).trans rfl, (blk_cell Ab.out 1).trans rfl, (blk_cell Ab.out 2).trans rfl, (blk_cell Ab.out 3).trans rfl, (blk_cell Ab.out 4).trans rfl, (blk_cell Ab.out 5).trans rfl, (blk_cell Ab.out 6).trans rfl, HS7_⟩ (fun hHeld => ?_)
    clear hK K
    refine norm_ (a' := ?_) ?_ ?_
    rotate_left
    ·show Act.put _ (some 31) _ = _
     simp only [Act.put, List.setIfInBounds_toArray, List.set_cons_zero, List.set_cons_succ, i64_w, i32_w]
     rfl
    refine pui 7 32 8 255 HT_ ?_
    refine done_ (done_of HT_.out (by kernel_rfl)) ?_
    try go_wp2
    replace Aj := dVa Aj
    replace Aa := dVa Aa
    replace HL373_5 := dVa HL373_5
    replace HL374_5 := dVa HL374_5
    replace Ab := kDa Ab
    replace Ae := kDa Ae
    replace Ac := Am (Kd.C_drew Ac.out)
    replace Ad := Am (Kd.C_drew Ad.out)
    replace HB := bDa HB
    have p376 : 0 ≤ (0 : Int) := (by omega)
    have q376 : 0 < (l1.length : Int) := of_decide_eq_true pS
    obtain ⟨Et, Dq, c376_5, e376, Bj, Bf, Bk, Bl, Bm, Bd, Bn, Bo, Bp, Bq, C3, C4⟩ := at_T54 (Kd.V_reads' Aj.out).2.2 0 p376 q376
    obtain rfl : Ap = Et := (by injection e376)
    obtain ⟨ce376, hce376, hMe376, hcc376⟩ := Kd.V_get Aj.out z54 0 p376 (by first | exact q376 | exact of_decide_eq_true pS | (have e_ := (Kd.V_reads' Aj.out).1; omega))
    obtain ⟨ua376_5, uc376_5, rfl, ul376_5, ge376_5⟩ := k54_openF hMe376
    have hv376_5 := hcc376 5 _ rfl
    rw [add_field _ _ 5 (by omega)] at hv376_5
    replace hv376_5 := Option.some.inj (hv376_5.symm.trans Bd)
    injection hv376_5 with hva_ hvn_ hvc_
    rw [hva_] at ge376_5
    rw [hvc_] at ul376_5
    have HL376_5 := Am (show Kd.V (Kd.int .u8) 5 _ w.heap.size _ _ ((rd_T54 l1 0).f4.f1) from Kd.V_mk ul376_5 ge376_5)
    clear hva_ hvn_ hvc_ ge376_5 ul376_5
    clear hcc376 hce376
    have qi376 : (0 < l1.length) = True := eq_true (by omega)
    (try simp only [tz, show 0 * 10 = 0 from rfl, Addr.add_zero'] at Bj Bf Bk Bl Bm Bd Bn Bo Bp Bq)
    have Ag := Am C4
    have E1 := Am C3
    clear C4 C3
    replace p376 := eq_true p376
    replace q376 := eq_true q376
    have p377 : 0 ≤ (0 : Int) := (by omega)
    have q377 : 0 < (l1.length : Int) := of_decide_eq_true pS
    obtain ⟨Eu, Fd, c377_5, e377, Bg, Br, Bs, Bt, Bu, Be, Bv, Bw, Bx, By, C5, C6⟩ := at_T54 (Kd.V_reads' Aj.out).2.2 0 p377 q377
    obtain rfl : Ap = Eu := (by injection e377)
    obtain ⟨ce377, hce377, hMe377, hcc377⟩ := Kd.V_get Aj.out z54 0 p377 (by first | exact q377 | exact of_decide_eq_true pS | (have e_ := (Kd.V_reads' Aj.out).1; omega))
    obtain ⟨ua377_5, uc377_5, rfl, ul377_5, ge377_5⟩ := k54_openF hMe377
    have hv377_5 := hcc377 5 _ rfl
    rw [add_field _ _ 5 (by omega)] at hv377_5
    replace hv377_5 := Option.some.inj (hv377_5.symm.trans Be)
    injection hv377_5 with hva_ hvn_ hvc_
    rw [hva_] at ge377_5
    rw [hvc_] at ul377_5
    have HL377_5 := Am (show Kd.V (Kd.int .u8) 5 _ w.heap.size _ _ ((rd_T54 l1 0).f4.f1) from Kd.V_mk ul377_5 ge377_5)
    clear hva_ hvn_ hvc_ ge377_5 ul377_5
    clear hcc377 hce377
    have qi377 : (0 < l1.length) = True := eq_true (by omega)
    (try simp only [tz, show 0 * 10 = 0 from rfl, Addr.add_zero'] at Bg Br Bs Bt Bu Be Bv Bw Bx By)
    have Ah := Am C6
    have E2 := Am C5
    clear C6 C5
    replace p377 := eq_true p377
    replace q377 := eq_true q377
    have ea_ := Option.some.inj (Bd.symm.trans Be)
    injection ea_ with ea_ en_ ec_
    subst ea_
    subst ec_
    clear en_
    refine start_ (n := 12) (S := fun w' => cG w' Af 0 (.int .i64 a0_0) ∧ cG w' Af 1 (.int .i64 a0_1) ∧ cG w' Af 2 (.slice A0_2 l0_2.length c0_2) ∧ cG w' Af 3 (.int .i64 a0_3) ∧ cG w' Af 4 (.int .i64 a0_4) ∧ cG w' Af 5 (.int .i64 a0_5) ∧ cG w' Af 6 (.int .i64 a0_6) ∧ cA w' Ap 1 (.int .i64 ((rd_T54 l1 0).f1)) ∧ w'.cell? Ap = some (.int .i64 ((rd_T54 l1 0).f0))) (ds := []) #[false, false, false, false, false, false, false, false, false, false, false, false] (by kernel_rfl) rfl rfl ⟨(blk_cell Ab.out 0).trans rfl, (blk_cell Ab.out 1).trans rfl, (blk_cell Ab.out 2).trans rfl, (blk_cell Ab.out 3).trans rfl, (blk_cell Ab.out 4).trans rfl, (blk_cell Ab.out 5).trans rfl, (blk_cell Ab.out 6).trans rfl, Bf, Bg⟩ (fun hHeld => ?_); refine with_tabW garnerref23_Put.tab7 garnerref23_Put.bits7 (fun HT_ HW_ => ?_)
    (first | generalize w28.drew = w29 at Aj Aa HL373_5 HL374_5 Ab Ae Ac Ad HB HL376_5 HL377_5 Ag Ah Bj Bf Bk Bl Bm Bd Bn Bo Bp Bq Bg Br Bs Bt Bu Be Bv Bw Bx By hHeld ⊢ | generalize w28.drew = w29 at HL373_5 HL374_5 Ab Ae Ac Ad HB HL376_5 HL377_5 Ag Ah Bj Bf Bk Bl Bm Bd Bn Bo Bp Bq Bg Br Bs Bt Bu Be Bv Bw Bx By hHeld ⊢)
    refine pui 0 34 12 1 HT_ ?_
    refine zp 1 (h := zp 2 (h := zp 5 (h := zp 6 (h := zp 7 (h := zw 3 (h := zw 4 (h := zw 8 (h := zp 9 (h := ?_)))))))))
    refine onei 10 44 12 2047 HT_ (fun K hK => ?_)
    refine goes_ Try.func60 (by kernel_rfl) rfl #[.agg #[.int .i64 a0_0, .int .i64 a0_1, .slice A0_2 l0_2.length c0_2, .int .i64 a0_3, .int .i64 a0_4, .int .i64 a0_5, .int .i64 a0_6], .int .i64 (wrap64 (((rd_T54 l1 0).f0) - 1))] (by rfl) rfl rfl pL ?_
    with_reducible refine (garnerref23_Term.calls a0_0 a0_1 _ _ l0_2 a0_3 a0_4 a0_5 a0_6 (wrap64 (((rd_T54 l1 0).f0) - 1)) t378 _ ?Cb ?Cc A24.out).mono ?_
    (case Cb => exact pC (Kd.V_reads' Aa.out).2.2)
    (case Cc => exact (Kd.V_reads' Aa.out).2.1)
    rintro e w30 ⟨rfl, hb⟩
    have HS7_ := zH hb hHeld.2.2.2.2.2.2.2.1
    have HS8_ := zH hb hHeld.2.2.2.2.2.2.2.2
    refine ⟨_, rfl, ?_⟩
    replace Aj := bVa Aj hb
    replace Aa := bVa Aa hb
    replace HL373_5 := bVa HL373_5 hb
    replace HL374_5 := bVa HL374_5 hb
    replace HL376_5 := bVa HL376_5 hb
    replace HL377_5 := bVa HL377_5 hb
    replace Ab := kBa Ab hb
    replace Ae := kBa Ae hb
    replace Ac := Am (Kd.C_below (by repeat (first | (with_reducible exact Ac.out) | (with_reducible refine Kd.C_alloc ?_ _) | (with_reducible refine Kd.C_drewN ?_ _) | (with_reducible refine Kd.C_drew ?_) | exact Ac.out)) hb)
    replace Ad := Am (Kd.C_below (by repeat (first | (with_reducible exact Ad.out) | (with_reducible refine Kd.C_alloc ?_ _) | (with_reducible refine Kd.C_drewN ?_ _) | (with_reducible refine Kd.C_drew ?_) | exact Ad.out)) hb)
    replace Ag := Am (Kd.C_below (by repeat (first | (with_reducible exact Ag.out) | (with_reducible refine Kd.C_alloc ?_ _) | (with_reducible refine Kd.C_drewN ?_ _) | (with_reducible refine Kd.C_drew ?_) | exact Ag.out)) hb)
    replace Ah := Am (Kd.C_below (by repeat (first | (with_reducible exact Ah.out) | (with_reducible refine Kd.C_alloc ?_ _) | (with_reducible refine Kd.C_drewN ?_ _) | (with_reducible refine Kd.C_drew ?_) | exact Ah.out)) hb)
    replace HB := zX2 HB Ay.out Az.out hb
    (try clear hb)
    (try clear hb2)
    (try clear hk)
    (try clear hi)
    refine hK.out _ _ ⟨(blk_cell Ab.out 0).trans rfl, (blk_cell Ab.out 1).trans rfl, (blk_cell Ab.out 2).trans rfl, (blk_cell Ab.out 3).trans rfl, (blk_cell Ab.out 4).trans rfl, (blk_cell Ab.out 5).trans rfl, (blk_cell Ab.out 6).trans rfl, HS7_, HS8_⟩ (fun hHeld => ?_)
    clear hK K
    refine norm_ (a' := ?_) ?_ ?_
    rotate_left
    ·show Act.put _ (some 44) _ = _
     simp only [Act.put, List.setIfInBounds_toArray, List.set_cons_zero, List.set_cons_succ, i64_w, i32_w]
     rfl
    refine pui 11 45 12 4095 HT_ ?_
    refine done_ (done_of HT_.out (by kernel_rfl)) ?_
    have hnb31 := Bi.out
    have hnc31 := Bz.out
    obtain ⟨_, _, _, _, _, _, _⟩ := bc7 Ae.out
    obtain ⟨_, _, _, _, _, _, _⟩ := bf7 Ae.out
    try go_wp2
    refine bodyPost_ret (results_ct rfl _ _ Al 26 #[.int .i64 0, .int .i64 0, .slice none 0 0, .int .i64 0, .int .i64 0, .int .i64 0, .int .i64 0] (0, 0) _ rfl (kX0 Ae.out) Try.underlying26 rfl (by kernel_rfl)) rfl ?_
    exact ⟨_, pX, Kd.N_V (Kd.N_nil _ _ _ 0 _), pE2 HB.out Ay.out Az.out⟩
   rw [if_neg c25] at H
   have c25b0 := decide_eq_false c25
   clear c25
   have H' := Am H
   clear H
   try go_wp2
   replace Aj := dVa Aj
   replace Aa := dVa Aa
   replace Ab := kDa Ab
   replace Ae := kDa Ae
   replace HB := bDa HB
   have p373 : 0 ≤ (0 : Int) := (by omega)
   have q373 : 0 < (l1.length : Int) := of_decide_eq_true pS
   obtain ⟨Ap, Dp, c373_5, e373, An, Aq, Ar, As, At, Ao, Au, Av, Aw, Ax, B0, B1⟩ := at_T54 (Kd.V_reads' Aj.out).2.2 0 p373 q373
   cases e373
   obtain ⟨ce373, hce373, hMe373, hcc373⟩ := Kd.V_get Aj.out z54 0 p373 (by first | exact q373 | exact of_decide_eq_true pS | (have e_ := (Kd.V_reads' Aj.out).1; omega))
   obtain ⟨ua373_5, uc373_5, rfl, ul373_5, ge373_5⟩ := k54_openF hMe373
   have hv373_5 := hcc373 5 _ rfl
   rw [add_field _ _ 5 (by omega)] at hv373_5
   replace hv373_5 := Option.some.inj (hv373_5.symm.trans Ao)
   injection hv373_5 with hva_ hvn_ hvc_
   rw [hva_] at ge373_5
   rw [hvc_] at ul373_5
   have HL373_5 := Am (show Kd.V (Kd.int .u8) 5 _ w.heap.size _ _ ((rd_T54 l1 0).f4.f1) from Kd.V_mk ul373_5 ge373_5)
   clear hva_ hvn_ hvc_ ge373_5 ul373_5
   clear hcc373 hce373
   have qi373 : (0 < l1.length) = True := eq_true (by omega)
   (try simp only [tz, show 0 * 10 = 0 from rfl, Addr.add_zero'] at An Aq Ar As At Ao Au Av Aw Ax)
   have Ac := Am B1
   have Dt := Am B0
   clear B1 B0
   replace p373 := eq_true p373
   replace q373 := eq_true q373
   refine start_ (n := 7) (S := fun w' => cG w' Af 0 (.int .i64 a0_0) ∧ w'.cell? Ap = some (.int .i64 ((rd_T54 l1 0).f0))) (ds := []) #[false, false, false, false, false, false, false] (by kernel_rfl) rfl rfl ⟨(blk_cell Ab.out 0).trans rfl, An⟩ (fun hHeld => ?_)
   (first | generalize wc.drew = w33 at Aj Aa Ab Ae HB HL373_5 Ac An Aq Ar As At Ao Au Av Aw Ax hHeld ⊢ | generalize wc.drew = w33 at Ab Ae HB HL373_5 Ac An Aq Ar As At Ao Au Av Aw Ax hHeld ⊢)
   refine zu 0 17 7 1 ?_
   refine zu 1 18 7 3 ?_
   refine zu 2 19 7 7 ?_
   refine zu 4 21 7 23 ?_
   refine zv 3 20 7 31 hHeld ?_
   refine zv 5 22 7 63 hHeld ?_
   refine zu 6 23 7 127 ?_
   refine done_ (by kernel_rfl) ?_
   try go_wp2
   replace Aj := dVa Aj
   replace Aa := dVa Aa
   replace HL373_5 := dVa HL373_5
   replace Ab := kDa Ab
   replace Ae := kDa Ae
   replace Ac := Am (Kd.C_drew Ac.out)
   replace HB := bDa HB
   have p374 : 0 ≤ (0 : Int) := (by omega)
   have q374 : 0 < (l1.length : Int) := of_decide_eq_true pS
   obtain ⟨Eb, Dr, c374_5, e374, A2, A4, A5, A6, A8, A3, A9, Ba, Bb, Bc, Ce, Cf⟩ := at_T54 (Kd.V_reads' Aj.out).2.2 0 p374 q374
   obtain rfl : Ap = Eb := (by injection e374)
   obtain ⟨ce374, hce374, hMe374, hcc374⟩ := Kd.V_get Aj.out z54 0 p374 (by first | exact q374 | exact of_decide_eq_true pS | (have e_ := (Kd.V_reads' Aj.out).1; omega))
   obtain ⟨ua374_5, uc374_5, rfl, ul374_5, ge374_5⟩ := k54_openF hMe374
   have hv374_5 := hcc374 5 _ rfl
   rw [add_field _ _ 5 (by omega)] at hv374_5
   replace hv374_5 := Option.some.inj (hv374_5.symm.trans A3)
   injection hv374_5 with hva_ hvn_ hvc_
   rw [hva_] at ge374_5
   rw [hvc_] at ul374_5
   have HL374_5 := Am (show Kd.V (Kd.int .u8) 5 _ w.heap.size _ _ ((rd_T54 l1 0).f4.f1) from Kd.V_mk ul374_5 ge374_5)
   clear hva_ hvn_ hvc_ ge374_5 ul374_5
   clear hcc374 hce374
   have qi374 : (0 < l1.length) = True := eq_true (by omega)
   (try simp only [tz, show 0 * 10 = 0 from rfl, Addr.add_zero'] at A2 A4 A5 A6 A8 A3 A9 Ba Bb Bc)
   have Ad := Am Cf
   have Ef := Am Ce
   clear Cf Ce
   replace p374 := eq_true p374
   replace q374 := eq_true q374
   refine start_ (n := 8) (S := fun w' => cG w' Af 0 (.int .i64 a0_0) ∧ cG w' Af 1 (.int .i64 a0_1) ∧ cG w' Af 2 (.slice A0_2 l0_2.length c0_2) ∧ cG w' Af 3 (.int .i64 a0_3) ∧ cG w' Af 4 (.int .i64 a0_4) ∧ cG w' Af 5 (.int .i64 a0_5) ∧ cG w' Af 6 (.int .i64 a0_6) ∧ w'.cell? Ap = some (.int .i64 ((rd_T54 l1 0).f0))) (ds := []) #[false, false, false, false, false, false, false, false] (by kernel_rfl) rfl rfl ⟨(blk_cell Ab.out 0).trans rfl, (blk_cell Ab.out 1).trans rfl, (blk_cell Ab.out 2).trans rfl, (blk_cell Ab.out 3).trans rfl, (blk_cell Ab.out 4).trans rfl, (blk_cell Ab.out 5).trans rfl, (blk_cell Ab.out 6).trans rfl, A2⟩ (fun hHeld => ?_); refine with_tabW garnerref23_Put.tab5 garnerref23_Put.bits5 (fun HT_ HW_ => ?_)
   (first | generalize w33.drew = w34 at Aj Aa HL373_5 Ab Ae Ac HB HL374_5 Ad A2 A4 A5 A6 A8 A3 A9 Ba Bb Bc hHeld ⊢ | generalize w33.drew = w34 at HL373_5 Ab Ae Ac HB HL374_5 Ad A2 A4 A5 A6 A8 A3 A9 Ba Bb Bc hHeld ⊢)
   refine pui 0 25 8 1 HT_ ?_
   refine zp 1 (h := zp 2 (h := zw 3 (h := zp 4 (h := zw 5 (h := ?_)))))
   refine onei 6 31 8 127 HT_ (fun K hK => ?_)
   refine goes_ Try.func59 (by kernel_rfl) rfl #[.agg #[.int .i64 a0_0, .int .i64 a0_1, .slice A0_2 l0_2.length c0_2, .int .i64 a0_3, .int .i64 a0_4, .int .i64 a0_5, .int .i64 a0_6]] (by rfl) rfl rfl pL ?_
   with_reducible refine (garnerref23_Last.calls a0_0 a0_1 _ _ l0_2 a0_3 a0_4 a0_5 a0_6 t375 _ ?Cb ?Cc A17.out).mono ?_
   (case Cb => exact pC (Kd.V_reads' Aa.out).2.2)
   (case Cc => exact (Kd.V_reads' Aa.out).2.1)
   rintro e w35 ⟨rfl, hb⟩
   have HS7_ := zH hb hHeld.2.2.2.2.2.2.2
   refine ⟨_, rfl, ?_⟩
   replace Aj := bVa Aj hb
   replace Aa := bVa Aa hb
   replace HL373_5 := bVa HL373_5 hb
   replace HL374_5 := bVa HL374_5 hb
   replace Ab := kBa Ab hb
   replace Ae := kBa Ae hb
   replace Ac := Am (Kd.C_below (by repeat (first | (with_reducible exact Ac.out) | (with_reducible refine Kd.C_alloc ?_ _) | (with_reducible refine Kd.C_drewN ?_ _) | (with_reducible refine Kd.C_drew ?_) | exact Ac.out)) hb)
   replace Ad := Am (Kd.C_below (by repeat (first | (with_reducible exact Ad.out) | (with_reducible refine Kd.C_alloc ?_ _) | (with_reducible refine Kd.C_drewN ?_ _) | (with_reducible refine Kd.C_drew ?_) | exact Ad.out)) hb)
   replace HB := zX2 HB Ay.out Az.out hb
   (try clear hb)
   (try clear hb2)
   (try clear hk)
   (try clear hi)
   refine hK.out _ _ ⟨(blk_cell Ab.out 0).trans rfl, (blk_cell Ab.out 1).trans rfl, (blk_cell Ab.out 2).trans rfl, (blk_cell Ab.out 3).trans rfl, (blk_cell Ab.out 4).trans rfl, (blk_cell Ab.out 5).trans rfl, (blk_cell Ab.out 6).trans rfl, HS7_⟩ (fun hHeld => ?_)
   clear hK K
   refine norm_ (a' := ?_) ?_ ?_
   rotate_left
   ·show Act.put _ (some 31) _ = _
    simp only [Act.put, List.setIfInBounds_toArray, List.set_cons_zero, List.set_cons_succ, i64_w, i32_w]
    rfl
   refine pui 7 32 8 255 HT_ ?_
   refine done_ (done_of HT_.out (by kernel_rfl)) ?_
   try go_wp2
   replace Aj := dVa Aj
   replace Aa := dVa Aa
   replace HL373_5 := dVa HL373_5
   replace HL374_5 := dVa HL374_5
   replace Ab := kDa Ab
   replace Ae := kDa Ae
   replace Ac := Am (Kd.C_drew Ac.out)
   replace Ad := Am (Kd.C_drew Ad.out)
   replace HB := bDa HB
   have p376 : 0 ≤ (0 : Int) := (by omega)
   have q376 : 0 < (l1.length : Int) := of_decide_eq_true pS
   obtain ⟨Et, Dq, c376_5, e376, Bj, Bf, Bk, Bl, Bm, Bd, Bn, Bo, Bp, Bq, C3, C4⟩ := at_T54 (Kd.V_reads' Aj.out).2.2 0 p376 q376
   obtain rfl : Ap = Et := (by injection e376)
   obtain ⟨ce376, hce376, hMe376, hcc376⟩ := Kd.V_get Aj.out z54 0 p376 (by first | exact q376 | exact of_decide_eq_true pS | (have e_ := (Kd.V_reads' Aj.out).1; omega))
   obtain ⟨ua376_5, uc376_5, rfl, ul376_5, ge376_5⟩ := k54_openF hMe376
   have hv376_5 := hcc376 5 _ rfl
   rw [add_field _ _ 5 (by omega)] at hv376_5
   replace hv376_5 := Option.some.inj (hv376_5.symm.trans Bd)
   injection hv376_5 with hva_ hvn_ hvc_
   rw [hva_] at ge376_5
   rw [hvc_] at ul376_5
   have HL376_5 := Am (show Kd.V (Kd.int .u8) 5 _ w.heap.size _ _ ((rd_T54 l1 0).f4.f1) from Kd.V_mk ul376_5 ge376_5)
   clear hva_ hvn_ hvc_ ge376_5 ul376_5
   clear hcc376 hce376
   have qi376 : (0 < l1.length) = True := eq_true (by omega)
   (try simp only [tz, show 0 * 10 = 0 from rfl, Addr.add_zero'] at Bj Bf Bk Bl Bm Bd Bn Bo Bp Bq)
   have Ag := Am C4
   have E1 := Am C3
   clear C4 C3
   replace p376 := eq_true p376
   replace q376 := eq_true q376
   have p377 : 0 ≤ (0 : Int) := (by omega)
   have q377 : 0 < (l1.length : Int) := of_decide_eq_true pS
   obtain ⟨Eu, Fd, c377_5, e377, Bg, Br, Bs, Bt, Bu, Be, Bv, Bw, Bx, By, C5, C6⟩ := at_T54 (Kd.V_reads' Aj.out).2.2 0 p377 q377
   obtain rfl : Ap = Eu := (by injection e377)
   obtain ⟨ce377, hce377, hMe377, hcc377⟩ := Kd.V_get Aj.out z54 0 p377 (by first | exact q377 | exact of_decide_eq_true pS | (have e_ := (Kd.V_reads' Aj.out).1; omega))
   obtain ⟨ua377_5, uc377_5, rfl, ul377_5, ge377_5⟩ := k54_openF hMe377
   have hv377_5 := hcc377 5 _ rfl
   rw [add_field _ _ 5 (by omega)] at hv377_5
   replace hv377_5 := Option.some.inj (hv377_5.symm.trans Be)
   injection hv377_5 with hva_ hvn_ hvc_
   rw [hva_] at ge377_5
   rw [hvc_] at ul377_5
   have HL377_5 := Am (show Kd.V (Kd.int .u8) 5 _ w.heap.size _ _ ((rd_T54 l1 0).f4.f1) from Kd.V_mk ul377_5 ge377_5)
   clear hva_ hvn_ hvc_ ge377_5 ul377_5
   clear hcc377 hce377
   have qi377 : (0 < l1.length) = True := eq_true (by omega)
   (try simp only [tz, show 0 * 10 = 0 from rfl, Addr.add_zero'] at Bg Br Bs Bt Bu Be Bv Bw Bx By)
   have Ah := Am C6
   have E2 := Am C5
   clear C6 C5
   replace p377 := eq_true p377
   replace q377 := eq_true q377
   have ea_ := Option.some.inj (Bd.symm.trans Be)
   injection ea_ with ea_ en_ ec_
   subst ea_
   subst ec_
   clear en_
   refine start_ (n := 12) (S := fun w' => cG w' Af 0 (.int .i64 a0_0) ∧ cG w' Af 1 (.int .i64 a0_1) ∧ cG w' Af 2 (.slice A0_2 l0_2.length c0_2) ∧ cG w' Af 3 (.int .i64 a0_3) ∧ cG w' Af 4 (.int .i64 a0_4) ∧ cG w' Af 5 (.int .i64 a0_5) ∧ cG w' Af 6 (.int .i64 a0_6) ∧ cA w' Ap 1 (.int .i64 ((rd_T54 l1 0).f1)) ∧ w'.cell? Ap = some (.int .i64 ((rd_T54 l1 0).f0))) (ds := []) #[false, false, false, false, false, false, false, false, false, false, false, false] (by kernel_rfl) rfl rfl ⟨(blk_cell Ab.out 0).trans rfl, (blk_cell Ab.out 1).trans rfl, (blk_cell Ab.out 2).trans rfl, (blk_cell Ab.out 3).trans rfl, (blk_cell Ab.out 4).trans rfl, (blk_cell Ab.out 5).trans rfl, (blk_cell Ab.out 6).trans rfl, Bf, Bg⟩ (fun hHeld => ?_); refine with_tabW garnerref23_Put.tab7 garnerref23_Put.bits7 (fun HT_ HW_ => ?_)
   (first | generalize w35.drew = w36 at Aj Aa HL373_5 HL374_5 Ab Ae Ac Ad HB HL376_5 HL377_5 Ag Ah Bj Bf Bk Bl Bm Bd Bn Bo Bp Bq Bg Br Bs Bt Bu Be Bv Bw Bx By hHeld ⊢ | generalize w35.drew = w36 at HL373_5 HL374_5 Ab Ae Ac Ad HB HL376_5 HL377_5 Ag Ah Bj Bf Bk Bl Bm Bd Bn Bo Bp Bq Bg Br Bs Bt Bu Be Bv Bw Bx By hHeld ⊢)
   refine pui 0 34 12 1 HT_ ?_
   refine zp 1 (h := zp 2 (h := zp 5 (h := zp 6 (h := zp 7 (h := zw 3 (h := zw 4 (h := zw 8 (h := zp 9 (h := ?_)))))))))
   refine onei 10 44 12 2047 HT_ (fun K hK => ?_)
   refine goes_ Try.func60 (by kernel_rfl) rfl #[.agg #[.int .i64 a0_0, .int .i64 a0_1, .slice A0_2 l0_2.length c0_2, .int .i64 a0_3, .int .i64 a0_4, .int .i64 a0_5, .int .i64 a0_6], .int .i64 (wrap64 (((rd_T54 l1 0).f0) - 1))] (by rfl) rfl rfl pL ?_
   with_reducible refine (garnerref23_Term.calls a0_0 a0_1 _ _ l0_2 a0_3 a0_4 a0_5 a0_6 (wrap64 (((rd_T54 l1 0).f0) - 1)) t378 _ ?Cb ?Cc A24.out).mono ?_
   (case Cb => exact pC (Kd.V_reads' Aa.out).2.2)
   (case Cc => exact (Kd.V_reads' Aa.out).2.1)
   rintro e w37 ⟨rfl, hb⟩
   have HS7_ := zH hb hHeld.2.2.2.2.2.2.2.1
   have HS8_ := zH hb hHeld.2.2.2.2.2.2.2.2
   refine ⟨_, rfl, ?_⟩
   replace Aj := bVa Aj hb
   replace Aa := bVa Aa hb
   replace HL373_5 := bVa HL373_5 hb
   replace HL374_5 := bVa HL374_5 hb
   replace HL376_5 := bVa HL376_5 hb
   replace HL377_5 := bVa HL377_5 hb
   replace Ab := kBa Ab hb
   replace Ae := kBa Ae hb
   replace Ac := Am (Kd.C_below (by repeat (first | (with_reducible exact Ac.out) | (with_reducible refine Kd.C_alloc ?_ _) | (with_reducible refine Kd.C_drewN ?_ _) | (with_reducible refine Kd.C_drew ?_) | exact Ac.out)) hb)
   replace Ad := Am (Kd.C_below (by repeat (first | (with_reducible exact Ad.out) | (with_reducible refine Kd.C_alloc ?_ _) | (with_reducible refine Kd.C_drewN ?_ _) | (with_reducible refine Kd.C_drew ?_) | exact Ad.out)) hb)
   replace Ag := Am (Kd.C_below (by repeat (first | (with_reducible exact Ag.out) | (with_reducible refine Kd.C_alloc ?_ _) | (with_reducible refine Kd.C_drewN ?_ _) | (with_reducible refine Kd.C_drew ?_) | exact Ag.out)) hb)
   replace Ah := Am (Kd.C_below (by repeat (first | (with_reducible exact Ah.out) | (with_reducible refine Kd.C_alloc ?_ _) | (with_reducible refine Kd.C_drewN ?_ _) | (with_reducible refine Kd.C_drew ?_) | exact Ah.out)) hb)
   replace HB := zX2 HB Ay.out Az.out hb
   (try clear hb)
   (try clear hb2)
   (try clear hk)
   (try clear hi)
   refine hK.out _ _ ⟨(blk_cell Ab.out 0).trans rfl, (blk_cell Ab.out 1).trans rfl, (blk_cell Ab.out 2).trans rfl, (blk_cell Ab.out 3).trans rfl, (blk_cell Ab.out 4).trans rfl, (blk_cell Ab.out 5).trans rfl, (blk_cell Ab.out 6).trans rfl, HS7_, HS8_⟩ (fun hHeld => ?_)
   clear hK K
   refine norm_ (a' := ?_) ?_ ?_
   rotate_left
   ·show Act.put _ (some 44) _ = _
    simp only [Act.put, List.setIfInBounds_toArray, List.set_cons_zero, List.set_cons_succ, i64_w, i32_w]
    rfl
   refine pui 11 45 12 4095 HT_ ?_
   refine done_ (done_of HT_.out (by kernel_rfl)) ?_
   try go_wp2
   go_loopg [6] kj2 (fun kq v6 w' => ∃ (Ak : Int) (Ai : List (S54)) (B5 : Int) (B6 : Int) (B7 : Int) (B8 : Int) (B9 : Int) (Ca : Int) (u371002 : Value), v6 = .int .i64 Ak ∧ Aside0 (garnerref23_Put.l0 kq l1 Ak a0_0 a0_1 Ai a0_3 a0_4 a0_5 a0_6 = some (r1, r2, r3, r4, r5, r6, r7, r8)) ∧ Aside0 (kq ≤ kj2) ∧ Aside0 (Kd.V k54 54 w' w.heap.size (fun k_ => ((P0_2_ k_ ∨ P1_ k_) ∨ w.heap.size ≤ k_) ∧ k_ ≠ Af ∧ k_ ≠ Al) (.slice (some Ap) l1.length c1) l1) ∧ Aside0 (Kd.V k54 54 w' w.heap.size (fun k_ => ((P0_2_ k_ ∨ P1_ k_) ∨ w.heap.size ≤ k_) ∧ k_ ≠ Af ∧ k_ ≠ Al) u371002 Ai) ∧ Aside0 (w'.heap[Af]? = some (.cells #[.int .i64 a0_0, .int .i64 a0_1, u371002, .int .i64 a0_3, .int .i64 a0_4, .int .i64 a0_5, .int .i64 a0_6] 26 (0, 0))) ∧ Aside0 (w'.heap[Al]? = some (.cells #[.int .i64 B5, .int .i64 B6, (.slice none 0 0), .int .i64 B7, .int .i64 B8, .int .i64 B9, .int .i64 Ca] 26 (0, 0))) ∧ Aside0 (Kd.C (Kd.int .u8) w' Dp ((rd_T54 l1 0).f4.f1).length ((rd_T54 l1 0).f4.f1)) ∧ Aside0 (Kd.C (Kd.int .u8) w' Dr ((rd_T54 l1 0).f4.f1).length ((rd_T54 l1 0).f4.f1)) ∧ Aside0 (Kd.C (Kd.int .u8) w' Dq ((rd_T54 l1 0).f4.f1).length ((rd_T54 l1 0).f4.f1)) ∧ Aside0 (Kd.C (Kd.int .u8) w' Dq ((rd_T54 l1 0).f4.f1).length ((rd_T54 l1 0).f4.f1)) ∧ Aside0 (Below w.heap.size w w'))
   case atStart => exact ⟨(0), (l0_2), (0), (0), (0), (0), (0), (0), (.slice A0_2 l0_2.length c0_2), zr, H', ⟨Nat.le_refl _⟩, ⟨by (with_reducible repeat (first | apply Kd.V_alloc | apply Kd.V_drewN | apply Kd.V_drew)); exact Aj.out⟩, ⟨by (with_reducible repeat (first | apply Kd.V_alloc | apply Kd.V_drewN | apply Kd.V_drew)); exact Aa.out⟩, ⟨pK Ab.out⟩, ⟨pK Ae.out⟩, ⟨by repeat (first | (with_reducible exact Ac.out) | (with_reducible refine Kd.C_alloc ?_ _) | (with_reducible refine Kd.C_drewN ?_ _) | (with_reducible refine Kd.C_drew ?_) | exact Ac.out)⟩, ⟨by repeat (first | (with_reducible exact Ad.out) | (with_reducible refine Kd.C_alloc ?_ _) | (with_reducible refine Kd.C_drewN ?_ _) | (with_reducible refine Kd.C_drew ?_) | exact Ad.out)⟩, ⟨by repeat (first | (with_reducible exact Ag.out) | (with_reducible refine Kd.C_alloc ?_ _) | (with_reducible refine Kd.C_drewN ?_ _) | (with_reducible refine Kd.C_drew ?_) | exact Ag.out)⟩, ⟨by repeat (first | (with_reducible exact Ah.out) | (with_reducible refine Kd.C_alloc ?_ _) | (with_reducible refine Kd.C_drewN ?_ _) | (with_reducible refine Kd.C_drew ?_) | exact Ah.out)⟩, ⟨pE2 HB.out Ay.out Az.out⟩⟩
   case round =>
    clear H'
    try clear c1
    try clear p2
    try clear c3
    try clear p3
    try clear q3
    try clear hx3
    try clear qi3
    try clear c5
    try clear c6
    try clear p6
    try clear c37
    try clear p37
    try clear q37
    try clear hx37
    try clear qi37
    try clear An
    try clear Aq
    try clear Ar
    try clear As
    try clear At
    try clear Ao
    try clear Au
    try clear Av
    try clear Aw
    try clear Ax
    try clear A2
    try clear A4
    try clear A5
    try clear A6
    try clear A8
    try clear A3
    try clear A9
    try clear Ba
    try clear Bb
    try clear Bc
    try clear Bj
    try clear Bf
    try clear Bk
    try clear Bl
    try clear Bm
    try clear Bd
    try clear Bn
    try clear Bo
    try clear Bp
    try clear Bq
    try clear Bg
    try clear Br
    try clear Bs
    try clear Bt
    try clear Bu
    try clear Be
    try clear Bv
    try clear Bw
    try clear Bx
    try clear By
    try clear p373
    try clear p374
    try clear p376
    try clear p377
    try clear q373
    try clear q374
    try clear q376
    try clear q377
    obtain ⟨Ak, Ai, B5, B6, B7, B8, B9, Ca, u371002, rfl, HA, HK2, Aj, Aa, Ab, Ae, Ac, Ad, Ag, Ah, HB⟩ := hrel
    cases gk with
    | zero => exact absurd HA.out (by simp [garnerref23_Put.l0])
    | succ k2 =>
     have H := HA.out
     clear HA
     simp only [garnerref23_Put.l0] at H
     by_cases c38 : Ak < (l1.length : Int)
     rotate_left
     ·rw [if_neg c38] at H
      have c38b0 := decide_eq_false c38
      clear c38
      simp only [Option.some.injEq, Prod.mk.injEq] at H
      obtain ⟨rfl, rfl, rfl, rfl, rfl, rfl, rfl, rfl⟩ := H
      have hnb90 := Bz.out
      have hnc90 := Bi.out
      obtain ⟨_, _, _, _, _, _, _⟩ := bc7 Ab.out
      obtain ⟨_, _, _, _, _, _, _⟩ := bf7 Ab.out
      obtain ⟨_, _, _, _, _, _, _⟩ := bc7 Ae.out
      obtain ⟨_, _, _, _, _, _, _⟩ := bf7 Ae.out
      obtain ⟨F3, F4, F5⟩ := Kd.V_slice Aa.out
      subst F5
      go_wp2
      refine bodyPost_ret (results_ct rfl _ _ Al 26 #[.int .i64 a0_0, .int .i64 a0_1, .slice F3 Ai.length F4, .int .i64 a0_3, .int .i64 a0_4, .int .i64 a0_5, .int .i64 a0_6] (0, 0) _ rfl (kX0 Ae.out) Try.underlying26 rfl (by kernel_rfl)) rfl ?_
      exact ⟨_, pX, by (with_reducible repeat (first | apply Kd.V_alloc | apply Kd.V_drewN | apply Kd.V_drew)); exact Kd.V_mono (Vf7 (g := Al) (Kd.V_mono Aa.out (fun k_ hk => (⟨hk, hk.2.2⟩ : _ ∧ k_ ≠ Al))) (fun _ hk => hk.2)) (fun _ hk => hk.1.1), pE2 HB.out Ay.out Az.out⟩
     rw [if_pos c38] at H
     have c38b0 := decide_eq_true c38
     clear c38
     have HC39 := Am H
     clear H
     go_upto_region 12 with (fail)
     go_cut [75] (fun v75 wc => ∃ (kq : Nat) (Ds : Bool), v75 = .bool Ds ∧ Aside0 (garnerref23_Put.j2 kq l1 Ak Ds a0_0 a0_1 Ai a0_3 a0_4 a0_5 a0_6 = some (r1, r2, r3, r4, r5, r6, r7, r8)) ∧ Aside0 (kq ≤ k2) ∧ Aside0 (Kd.V k54 54 wc w.heap.size (fun k_ => ((P0_2_ k_ ∨ P1_ k_) ∨ w.heap.size ≤ k_) ∧ k_ ≠ Af ∧ k_ ≠ Al) (.slice (some Ap) l1.length c1) l1) ∧ Aside0 (Kd.V k54 54 wc w.heap.size (fun k_ => ((P0_2_ k_ ∨ P1_ k_) ∨ w.heap.size ≤ k_) ∧ k_ ≠ Af ∧ k_ ≠ Al) u371002 Ai) ∧ Aside0 (wc.heap[Af]? = some (.cells #[.int .i64 a0_0, .int .i64 a0_1, u371002, .int .i64 a0_3, .int .i64 a0_4, .int .i64 a0_5, .int .i64 a0_6] 26 (0, 0))) ∧ Aside0 (wc.heap[Al]? = some (.cells #[.int .i64 B5, .int .i64 B6, (.slice none 0 0), .int .i64 B7, .int .i64 B8, .int .i64 B9, .int .i64 Ca] 26 (0, 0))) ∧ Aside0 (Kd.C (Kd.int .u8) wc Dp ((rd_T54 l1 0).f4.f1).length ((rd_T54 l1 0).f4.f1)) ∧ Aside0 (Kd.C (Kd.int .u8) wc Dr ((rd_T54 l1 0).f4.f1).length ((rd_T54 l1 0).f4.f1)) ∧ Aside0 (Kd.C (Kd.int .u8) wc Dq ((rd_T54 l1 0).f4.f1).length ((rd_T54 l1 0).f4.f1)) ∧ Aside0 (Kd.C (Kd.int .u8) wc Dq ((rd_T54 l1 0).f4.f1).length ((rd_T54 l1 0).f4.f1)) ∧ Aside0 (Below w.heap.size w wc))
     case first =>
      have H := HC39.out
      clear HC39
      obtain ⟨c40, H⟩ := zI H
      have c40b0 := decide_eq_true c40
      clear c40
      (first | rw [c40b0] | (simp only [i64_w, i32_w]; rw [c40b0]) | skip)
      obtain ⟨t380, A41, H⟩ := zb H
      by_cases c42 : ((rd_T54 l1 Ak).f0) ≤ t380
      rotate_left
      ·rw [if_neg c42] at H
       have c42b0 := decide_eq_false c42
       clear c42
       have H' := Am H
       clear H
       try go_wp2
       replace Aj := dVa Aj
       replace Aa := dVa Aa
       replace Ab := kDa Ab
       replace Ae := kDa Ae
       replace Ac := Am (Kd.C_drew Ac.out)
       replace Ad := Am (Kd.C_drew Ad.out)
       replace Ag := Am (Kd.C_drew Ag.out)
       replace Ah := Am (Kd.C_drew Ah.out)
       replace HB := bDa HB
       have p379 : 0 ≤ (Ak : Int) := of_decide_eq_true pS
       have q379 : Ak < (l1.length : Int) := of_decide_eq_true pS
       obtain ⟨Ew, Fe, c379_5, e379, Cg, Cu, Cv, Cw, Cx, Ch, Cy, Cz, C0, C1, C7, C8⟩ := at_T54 (Kd.V_reads' Aj.out).2.2 Ak p379 q379
       obtain rfl : Ap = Ew := (by injection e379)
       obtain ⟨ce379, hce379, hMe379, hcc379⟩ := Kd.V_get Aj.out z54 Ak p379 (by first | exact q379 | exact of_decide_eq_true pS | (have e_ := (Kd.V_reads' Aj.out).1; omega))
       obtain ⟨ua379_5, uc379_5, rfl, ul379_5, ge379_5⟩ := k54_openF hMe379
       have hv379_5 := hcc379 5 _ rfl
       rw [add_field _ _ 5 (by omega)] at hv379_5
       replace hv379_5 := Option.some.inj (hv379_5.symm.trans Ch)
       injection hv379_5 with hva_ hvn_ hvc_
       rw [hva_] at ge379_5
       rw [hvc_] at ul379_5
       have HL379_5 := Am (show Kd.V (Kd.int .u8) 5 _ w.heap.size _ _ ((rd_T54 l1 Ak).f4.f1) from Kd.V_mk ul379_5 ge379_5)
       clear hva_ hvn_ hvc_ ge379_5 ul379_5
       clear hcc379 hce379
       have Bh := Am C8
       have E3 := Am C7
       clear C8 C7
       replace p379 := eq_true p379
       replace q379 := eq_true q379
       obtain ⟨Fk, Fl, Fm⟩ := Kd.V_slice Aa.out
       (first | subst Fm | (injection Fm with f1_ f2_ f3_; have f4_ := f1_.symm; have f5_ := f3_.symm; clear f1_ f2_ f3_; subst f4_; subst f5_))
       refine start_ (n := 23) (S := fun w' => cG w' Af 0 (.int .i64 a0_0) ∧ cG w' Af 1 (.int .i64 a0_1) ∧ cG w' Af 2 (.slice Fk Ai.length Fl) ∧ cG w' Af 3 (.int .i64 a0_3) ∧ cG w' Af 4 (.int .i64 a0_4) ∧ cG w' Af 5 (.int .i64 a0_5) ∧ cG w' Af 6 (.int .i64 a0_6) ∧ w'.cell? (Ap.add ((Ak).toNat * 10)) = some (.int .i64 ((rd_T54 l1 Ak).f0))) (ds := []) #[false, false, false, false, false, false, false, false, false, false, false, false, false, false, false, false, false, false, false, false, false, false, false] (by kernel_rfl) rfl rfl ⟨(blk_cell Ab.out 0).trans rfl, (blk_cell Ab.out 1).trans rfl, (blk_cell Ab.out 2).trans rfl, (blk_cell Ab.out 3).trans rfl, (blk_cell Ab.out 4).trans rfl, (blk_cell Ab.out 5).trans rfl, (blk_cell Ab.out 6).trans rfl, Cg⟩ (fun hHeld => ?_); refine with_tabW garnerref23_Put.tab12 garnerref23_Put.bits12 (fun HT_ HW_ => ?_)
       (first | generalize wr.drew = w48 at Aj Aa Ab Ae Ac Ad Ag Ah HB HL379_5 Bh Cg Cu Cv Cw Cx Ch Cy Cz C0 C1 hHeld ⊢ | generalize wr.drew = w48 at Ab Ae Ac Ad Ag Ah HB HL379_5 Bh Cg Cu Cv Cw Cx Ch Cy Cz C0 C1 hHeld ⊢)
       refine pui 0 53 23 1 HT_ ?_
       refine zp 1 (h := zp 2 (h := zp 3 (h := zw 4 (h := zw 5 (h := ?_)))))
       refine onei 6 59 23 127 HT_ (fun K hK => ?_)
       refine goes_ Try.func59 (by kernel_rfl) rfl #[.agg #[.int .i64 a0_0, .int .i64 a0_1, .slice Fk Ai.length Fl, .int .i64 a0_3, .int .i64 a0_4, .int .i64 a0_5, .int .i64 a0_6]] (by rfl) rfl rfl pL ?_
       with_reducible refine (garnerref23_Last.calls a0_0 a0_1 _ _ Ai a0_3 a0_4 a0_5 a0_6 t380 _ ?Cb ?Cc A41.out).mono ?_
       (case Cb => exact pC (Kd.V_reads' Aa.out).2.2)
       (case Cc => exact (Kd.V_reads' Aa.out).2.1)
       rintro e w50 ⟨rfl, hb⟩
       have HS7_ := zH hb hHeld.2.2.2.2.2.2.2
       refine ⟨_, rfl, ?_⟩
       replace Aj := bVa Aj hb
       replace Aa := bVa Aa hb
       replace HL379_5 := bVa HL379_5 hb
       replace Ab := kBa Ab hb
       replace Ae := kBa Ae hb
       replace Ac := Am (Kd.C_below (by repeat (first | (with_reducible exact Ac.out) | (with_reducible refine Kd.C_alloc ?_ _) | (with_reducible refine Kd.C_drewN ?_ _) | (with_reducible refine Kd.C_drew ?_) | exact Ac.out)) hb)
       replace Ad := Am (Kd.C_below (by repeat (first | (with_reducible exact Ad.out) | (with_reducible refine Kd.C_alloc ?_ _) | (with_reducible refine Kd.C_drewN ?_ _) | (with_reducible refine Kd.C_drew ?_) | exact Ad.out)) hb)
       replace Ag := Am (Kd.C_below (by repeat (first | (with_reducible exact Ag.out) | (with_reducible refine Kd.C_alloc ?_ _) | (with_reducible refine Kd.C_drewN ?_ _) | (with_reducible refine Kd.C_drew ?_) | exact Ag.out)) hb)
       replace Ah := Am (Kd.C_below (by repeat (first | (with_reducible exact Ah.out) | (with_reducible refine Kd.C_alloc ?_ _) | (with_reducible refine Kd.C_drewN ?_ _) | (with_reducible refine Kd.C_drew ?_) | exact Ah.out)) hb)
       replace Bh := Am (Kd.C_below (by repeat (first | (with_reducible exact Bh.out) | (with_reducible refine Kd.C_alloc ?_ _) | (with_reducible refine Kd.C_drewN ?_ _) | (with_reducible refine Kd.C_drew ?_) | exact Bh.out)) hb)
       replace HB := zX2 HB Ay.out Az.out hb
       (try clear hb)
       (try clear hb2)
       (try clear hk)
       (try clear hi)
       refine hK.out _ _ ⟨(blk_cell Ab.out 0).trans rfl, (blk_cell Ab.out 1).trans rfl, (blk_cell Ab.out 2).trans rfl, (blk_cell Ab.out 3).trans rfl, (blk_cell Ab.out 4).trans rfl, (blk_cell Ab.out 5).trans rfl, (blk_cell Ab.out 6).trans rfl, HS7_⟩ (fun hHeld => ?_)
       clear hK K
       refine norm_ (a' := ?_) ?_ ?_
       rotate_left
       ·show Act.put _ (some 59) _ = _
        simp only [Act.put, List.setIfInBounds_toArray, List.set_cons_zero, List.set_cons_succ, i64_w, i32_w]
        rfl
       refine pui 7 60 23 255 HT_ ?_
       refine zp 8 (h := zq 9 (h := zq 10 (h := zq 11 (h := zq 12 (h := zq 13 (h := zq 14 (h := zq 15 (h := zq 16 (h := zq 17 (h := zq 18 (h := zq 19 (h := zq 20 (h := zq 21 (h := zp 22 (h := ?_)))))))))))))))
       refine done_ (done_of HT_.out (by kernel_rfl)) ?_
       try go_wp2
       go_meet
       case rel => exact ⟨_, (false), zr, H', ⟨by have := HJ2.out; have := HK2.out; first | omega | exact Nat.le_refl _⟩, ⟨by (with_reducible repeat (first | apply Kd.V_alloc | apply Kd.V_drewN | apply Kd.V_drew)); exact Aj.out⟩, ⟨by (with_reducible repeat (first | apply Kd.V_alloc | apply Kd.V_drewN | apply Kd.V_drew)); exact Aa.out⟩, ⟨pK Ab.out⟩, ⟨pK Ae.out⟩, ⟨by repeat (first | (with_reducible exact Ac.out) | (with_reducible refine Kd.C_alloc ?_ _) | (with_reducible refine Kd.C_drewN ?_ _) | (with_reducible refine Kd.C_drew ?_) | exact Ac.out)⟩, ⟨by repeat (first | (with_reducible exact Ad.out) | (with_reducible refine Kd.C_alloc ?_ _) | (with_reducible refine Kd.C_drewN ?_ _) | (with_reducible refine Kd.C_drew ?_) | exact Ad.out)⟩, ⟨by repeat (first | (with_reducible exact Ag.out) | (with_reducible refine Kd.C_alloc ?_ _) | (with_reducible refine Kd.C_drewN ?_ _) | (with_reducible refine Kd.C_drew ?_) | exact Ag.out)⟩, ⟨by repeat (first | (with_reducible exact Ah.out) | (with_reducible refine Kd.C_alloc ?_ _) | (with_reducible refine Kd.C_drewN ?_ _) | (with_reducible refine Kd.C_drew ?_) | exact Ah.out)⟩, ⟨pE2 HB.out Ay.out Az.out⟩⟩
      rw [if_pos c42] at H
      have c42b0 := decide_eq_true c42
      clear c42
      obtain ⟨t382, A43, H⟩ := zb H
      have H' := Am H
      clear H
      try go_wp2
      replace Aj := dVa Aj
      replace Aa := dVa Aa
      replace Ab := kDa Ab
      replace Ae := kDa Ae
      replace Ac := Am (Kd.C_drew Ac.out)
      replace Ad := Am (Kd.C_drew Ad.out)
      replace Ag := Am (Kd.C_drew Ag.out)
      replace Ah := Am (Kd.C_drew Ah.out)
      replace HB := bDa HB
      have p379 : 0 ≤ (Ak : Int) := of_decide_eq_true pS
      have q379 : Ak < (l1.length : Int) := of_decide_eq_true pS
      obtain ⟨Ew, Fe, c379_5, e379, Cg, Cu, Cv, Cw, Cx, Ch, Cy, Cz, C0, C1, C7, C8⟩ := at_T54 (Kd.V_reads' Aj.out).2.2 Ak p379 q379
      obtain rfl : Ap = Ew := (by injection e379)
      obtain ⟨ce379, hce379, hMe379, hcc379⟩ := Kd.V_get Aj.out z54 Ak p379 (by first | exact q379 | exact of_decide_eq_true pS | (have e_ := (Kd.V_reads' Aj.out).1; omega))
      obtain ⟨ua379_5, uc379_5, rfl, ul379_5, ge379_5⟩ := k54_openF hMe379
      have hv379_5 := hcc379 5 _ rfl
      rw [add_field _ _ 5 (by omega)] at hv379_5
      replace hv379_5 := Option.some.inj (hv379_5.symm.trans Ch)
      injection hv379_5 with hva_ hvn_ hvc_
      rw [hva_] at ge379_5
      rw [hvc_] at ul379_5
      have HL379_5 := Am (show Kd.V (Kd.int .u8) 5 _ w.heap.size _ _ ((rd_T54 l1 Ak).f4.f1) from Kd.V_mk ul379_5 ge379_5)
      clear hva_ hvn_ hvc_ ge379_5 ul379_5
      clear hcc379 hce379
      have Bh := Am C8
      have E3 := Am C7
      clear C8 C7
      replace p379 := eq_true p379
      replace q379 := eq_true q379
      obtain ⟨E7, E8, Fj⟩ := Kd.V_slice Aa.out
      (first | subst Fj | (injection Fj with f1_ f2_ f3_; have f4_ := f1_.symm; have f5_ := f3_.symm; clear f1_ f2_ f3_; subst f4_; subst f5_))
      have p381 : 0 ≤ (Ak : Int) := of_decide_eq_true pS
      have q381 : Ak < (l1.length : Int) := of_decide_eq_true pS
      obtain ⟨Fw, A381_5, c381_5, e381, Du, Dv, Dw, Dx, Dy, Dk, Dz, D0, D1, D2, Eg, Eh⟩ := at_T54 (Kd.V_reads' Aj.out).2.2 Ak p381 q381
      obtain rfl : Ap = Fw := (by injection e381)
      obtain ⟨ce381, hce381, hMe381, hcc381⟩ := Kd.V_get Aj.out z54 Ak p381 (by first | exact q381 | exact of_decide_eq_true pS | (have e_ := (Kd.V_reads' Aj.out).1; omega))
      obtain ⟨ua381_5, uc381_5, rfl, ul381_5, ge381_5⟩ := k54_openF hMe381
      have hv381_5 := hcc381 5 _ rfl
      rw [add_field _ _ 5 (by omega)] at hv381_5
      replace hv381_5 := Option.some.inj (hv381_5.symm.trans Dk)
      injection hv381_5 with hva_ hvn_ hvc_
      rw [hva_] at ge381_5
      rw [hvc_] at ul381_5
      have HL381_5 := Am (show Kd.V (Kd.int .u8) 5 _ w.heap.size _ _ ((rd_T54 l1 Ak).f4.f1) from Kd.V_mk ul381_5 ge381_5)
      clear hva_ hvn_ hvc_ ge381_5 ul381_5
      clear hcc381 hce381
      have C9 := Am Eh
      have HC381_5 := Am Eg
      clear Eh Eg
      replace p381 := eq_true p381
      replace q381 := eq_true q381
      have p383 : 0 ≤ (Ak : Int) := of_decide_eq_true pS
      have q383 : Ak < (l1.length : Int) := of_decide_eq_true pS
      obtain ⟨Fx, A383_5, c383_5, e383, D3, Dl, D4, D5, D6, Dm, D7, D8, D9, Ea, Ei, Ej⟩ := at_T54 (Kd.V_reads' Aj.out).2.2 Ak p383 q383
      obtain rfl : Ap = Fx := (by injection e383)
      obtain ⟨ce383, hce383, hMe383, hcc383⟩ := Kd.V_get Aj.out z54 Ak p383 (by first | exact q383 | exact of_decide_eq_true pS | (have e_ := (Kd.V_reads' Aj.out).1; omega))
      obtain ⟨ua383_5, uc383_5, rfl, ul383_5, ge383_5⟩ := k54_openF hMe383
      have hv383_5 := hcc383 5 _ rfl
      rw [add_field _ _ 5 (by omega)] at hv383_5
      replace hv383_5 := Option.some.inj (hv383_5.symm.trans Dm)
      injection hv383_5 with hva_ hvn_ hvc_
      rw [hva_] at ge383_5
      rw [hvc_] at ul383_5
      have HL383_5 := Am (show Kd.V (Kd.int .u8) 5 _ w.heap.size _ _ ((rd_T54 l1 Ak).f4.f1) from Kd.V_mk ul383_5 ge383_5)
      clear hva_ hvn_ hvc_ ge383_5 ul383_5
      clear hcc383 hce383
      have Ek := Am Ej
      have HC383_5 := Am Ei
      clear Ej Ei
      replace p383 := eq_true p383
      replace q383 := eq_true q383
      refine start_ (n := 23) (S := fun w' => cG w' Af 0 (.int .i64 a0_0) ∧ cG w' Af 1 (.int .i64 a0_1) ∧ cG w' Af 2 (.slice E7 Ai.length E8) ∧ cG w' Af 3 (.int .i64 a0_3) ∧ cG w' Af 4 (.int .i64 a0_4) ∧ cG w' Af 5 (.int .i64 a0_5) ∧ cG w' Af 6 (.int .i64 a0_6) ∧ w'.cell? (Ap.add ((Ak).toNat * 10)) = some (.int .i64 ((rd_T54 l1 Ak).f0)) ∧ cA w' (Ap.add ((Ak).toNat * 10)) 1 (.int .i64 ((rd_T54 l1 Ak).f1))) (ds := []) #[false, false, false, false, false, false, false, false, false, false, false, false, false, false, false, false, false, false, false, false, false, false, false] (by kernel_rfl) rfl rfl ⟨(blk_cell Ab.out 0).trans rfl, (blk_cell Ab.out 1).trans rfl, (blk_cell Ab.out 2).trans rfl, (blk_cell Ab.out 3).trans rfl, (blk_cell Ab.out 4).trans rfl, (blk_cell Ab.out 5).trans rfl, (blk_cell Ab.out 6).trans rfl, Cg, Dl⟩ (fun hHeld => ?_); refine with_tabW garnerref23_Put.tab12 garnerref23_Put.bits12 (fun HT_ HW_ => ?_)
      (first | generalize wr.drew = w44 at Aj Aa Ab Ae Ac Ad Ag Ah HB HL379_5 HL381_5 HL383_5 Bh C9 Ek Cg Cu Cv Cw Cx Ch Cy Cz C0 C1 Du Dv Dw Dx Dy Dk Dz D0 D1 D2 D3 Dl D4 D5 D6 Dm D7 D8 D9 Ea hHeld ⊢ | generalize wr.drew = w44 at Ab Ae Ac Ad Ag Ah HB HL379_5 HL381_5 HL383_5 Bh C9 Ek Cg Cu Cv Cw Cx Ch Cy Cz C0 C1 Du Dv Dw Dx Dy Dk Dz D0 D1 D2 D3 Dl D4 D5 D6 Dm D7 D8 D9 Ea hHeld ⊢)
      refine pui 0 53 23 1 HT_ ?_
      refine zp 1 (h := zp 2 (h := zp 3 (h := zw 4 (h := zw 5 (h := ?_)))))
      refine onei 6 59 23 127 HT_ (fun K hK => ?_)
      refine goes_ Try.func59 (by kernel_rfl) rfl #[.agg #[.int .i64 a0_0, .int .i64 a0_1, .slice E7 Ai.length E8, .int .i64 a0_3, .int .i64 a0_4, .int .i64 a0_5, .int .i64 a0_6]] (by rfl) rfl rfl pL ?_
      with_reducible refine (garnerref23_Last.calls a0_0 a0_1 _ _ Ai a0_3 a0_4 a0_5 a0_6 t380 _ ?Cb ?Cc A41.out).mono ?_
      (case Cb => exact pC (Kd.V_reads' Aa.out).2.2)
      (case Cc => exact (Kd.V_reads' Aa.out).2.1)
      rintro e w46 ⟨rfl, hb⟩
      have HS7_ := zH hb hHeld.2.2.2.2.2.2.2.1
      have HS9_ := zH hb hHeld.2.2.2.2.2.2.2.2
      refine ⟨_, rfl, ?_⟩
      replace Aj := bVa Aj hb
      replace Aa := bVa Aa hb
      replace HL379_5 := bVa HL379_5 hb
      replace Ab := kBa Ab hb
      replace Ae := kBa Ae hb
      replace Ac := Am (Kd.C_below (by repeat (first | (with_reducible exact Ac.out) | (with_reducible refine Kd.C_alloc ?_ _) | (with_reducible refine Kd.C_drewN ?_ _) | (with_reducible refine Kd.C_drew ?_) | exact Ac.out)) hb)
      replace Ad := Am (Kd.C_below (by repeat (first | (with_reducible exact Ad.out) | (with_reducible refine Kd.C_alloc ?_ _) | (with_reducible refine Kd.C_drewN ?_ _) | (with_reducible refine Kd.C_drew ?_) | exact Ad.out)) hb)
      replace Ag := Am (Kd.C_below (by repeat (first | (with_reducible exact Ag.out) | (with_reducible refine Kd.C_alloc ?_ _) | (with_reducible refine Kd.C_drewN ?_ _) | (with_reducible refine Kd.C_drew ?_) | exact Ag.out)) hb)
      replace Ah := Am (Kd.C_below (by repeat (first | (with_reducible exact Ah.out) | (with_reducible refine Kd.C_alloc ?_ _) | (with_reducible refine Kd.C_drewN ?_ _) | (with_reducible refine Kd.C_drew ?_) | exact Ah.out)) hb)
      replace Bh := Am (Kd.C_below (by repeat (first | (with_reducible exact Bh.out) | (with_reducible refine Kd.C_alloc ?_ _) | (with_reducible refine Kd.C_drewN ?_ _) | (with_reducible refine Kd.C_drew ?_) | exact Bh.out)) hb)
      replace HB := zX2 HB Ay.out Az.out hb
      (try clear hb)
      (try clear hb2)
      (try clear hk)
      (try clear hi)
      refine hK.out _ _ ⟨(blk_cell Ab.out 0).trans rfl, (blk_cell Ab.out 1).trans rfl, (blk_cell Ab.out 2).trans rfl, (blk_cell Ab.out 3).trans rfl, (blk_cell Ab.out 4).trans rfl, (blk_cell Ab.out 5).trans rfl, (blk_cell Ab.out 6).trans rfl, HS7_, HS9_⟩ (fun hHeld => ?_)
      clear hK K
      refine norm_ (a' := ?_) ?_ ?_
      rotate_left
      ·show Act.put _ (some 59) _ = _
       simp only [Act.put, List.setIfInBounds_toArray, List.set_cons_zero, List.set_cons_succ, i64_w, i32_w]
       rfl
      refine pui 7 60 23 255 HT_ ?_
      refine zp 8 (h := zp 10 (h := zp 11 (h := zp 12 (h := zp 13 (h := zp 16 (h := zp 17 (h := zp 18 (h := zp 19 (h := zw 9 (h := zw 14 (h := zw 20 (h := ?_))))))))))))
      refine onei 15 68 23 2097151 HT_ (fun K hK => ?_)
      refine goes_ Try.func60 (by kernel_rfl) rfl #[.agg #[.int .i64 a0_0, .int .i64 a0_1, .slice E7 Ai.length E8, .int .i64 a0_3, .int .i64 a0_4, .int .i64 a0_5, .int .i64 a0_6], .int .i64 ((rd_T54 l1 Ak).f0)] (by rfl) rfl rfl pL ?_
      with_reducible refine (garnerref23_Term.calls a0_0 a0_1 _ _ Ai a0_3 a0_4 a0_5 a0_6 ((rd_T54 l1 Ak).f0) t382 _ ?Cb ?Cc A43.out).mono ?_
      (case Cb => exact pC (Kd.V_reads' Aa.out).2.2)
      (case Cc => exact (Kd.V_reads' Aa.out).2.1)
      rintro e w47 ⟨rfl, hb⟩
      have HS7_ := zH hb hHeld.2.2.2.2.2.2.2.1
      have HS9_ := zH hb hHeld.2.2.2.2.2.2.2.2
      refine ⟨_, rfl, ?_⟩
      replace Aj := bVa Aj hb
      replace Aa := bVa Aa hb
      replace HL379_5 := bVa HL379_5 hb
      replace Ab := kBa Ab hb
      replace Ae := kBa Ae hb
      replace Ac := Am (Kd.C_below (by repeat (first | (with_reducible exact Ac.out) | (with_reducible refine Kd.C_alloc ?_ _) | (with_reducible refine Kd.C_drewN ?_ _) | (with_reducible refine Kd.C_drew ?_) | exact Ac.out)) hb)
      replace Ad := Am (Kd.C_below (by repeat (first | (with_reducible exact Ad.out) | (with_reducible refine Kd.C_alloc ?_ _) | (with_reducible refine Kd.C_drewN ?_ _) | (with_reducible refine Kd.C_drew ?_) | exact Ad.out)) hb)
      replace Ag := Am (Kd.C_below (by repeat (first | (with_reducible exact Ag.out) | (with_reducible refine Kd.C_alloc ?_ _) | (with_reducible refine Kd.C_drewN ?_ _) | (with_reducible refine Kd.C_drew ?_) | exact Ag.out)) hb)
      replace Ah := Am (Kd.C_below (by repeat (first | (with_reducible exact Ah.out) | (with_reducible refine Kd.C_alloc ?_ _) | (with_reducible refine Kd.C_drewN ?_ _) | (with_reducible refine Kd.C_drew ?_) | exact Ah.out)) hb)
      replace Bh := Am (Kd.C_below (by repeat (first | (with_reducible exact Bh.out) | (with_reducible refine Kd.C_alloc ?_ _) | (with_reducible refine Kd.C_drewN ?_ _) | (with_reducible refine Kd.C_drew ?_) | exact Bh.out)) hb)
      replace HB := zX2 HB Ay.out Az.out hb
      (try clear hb)
      (try clear hb2)
      (try clear hk)
      (try clear hi)
      refine hK.out _ _ ⟨(blk_cell Ab.out 0).trans rfl, (blk_cell Ab.out 1).trans rfl, (blk_cell Ab.out 2).trans rfl, (blk_cell Ab.out 3).trans rfl, (blk_cell Ab.out 4).trans rfl, (blk_cell Ab.out 5).trans rfl, (blk_cell Ab.out 6).trans rfl, HS7_, HS9_⟩ (fun hHeld => ?_)
      clear hK K
      refine norm_ (a' := ?_) ?_ ?_
      rotate_left
      ·show Act.put _ (some 68) _ = _
       simp only [Act.put, List.setIfInBounds_toArray, List.set_cons_zero, List.set_cons_succ, i64_w, i32_w]
       rfl
      refine pui 21 74 23 4194303 HT_ ?_
      refine zp 22 (h := ?_)
      refine done_ (done_of HT_.out (by kernel_rfl)) ?_
      try go_wp2
      go_meet
      case rel => exact ⟨_, ((t382 == ((rd_T54 l1 Ak).f1))), zr, H', ⟨by have := HJ2.out; have := HK2.out; first | omega | exact Nat.le_refl _⟩, ⟨by (with_reducible repeat (first | apply Kd.V_alloc | apply Kd.V_drewN | apply Kd.V_drew)); exact Aj.out⟩, ⟨by (with_reducible repeat (first | apply Kd.V_alloc | apply Kd.V_drewN | apply Kd.V_drew)); exact Aa.out⟩, ⟨pK Ab.out⟩, ⟨pK Ae.out⟩, ⟨by repeat (first | (with_reducible exact Ac.out) | (with_reducible refine Kd.C_alloc ?_ _) | (with_reducible refine Kd.C_drewN ?_ _) | (with_reducible refine Kd.C_drew ?_) | exact Ac.out)⟩, ⟨by repeat (first | (with_reducible exact Ad.out) | (with_reducible refine Kd.C_alloc ?_ _) | (with_reducible refine Kd.C_drewN ?_ _) | (with_reducible refine Kd.C_drew ?_) | exact Ad.out)⟩, ⟨by repeat (first | (with_reducible exact Ag.out) | (with_reducible refine Kd.C_alloc ?_ _) | (with_reducible refine Kd.C_drewN ?_ _) | (with_reducible refine Kd.C_drew ?_) | exact Ag.out)⟩, ⟨by repeat (first | (with_reducible exact Ah.out) | (with_reducible refine Kd.C_alloc ?_ _) | (with_reducible refine Kd.C_drewN ?_ _) | (with_reducible refine Kd.C_drew ?_) | exact Ah.out)⟩, ⟨pE2 HB.out Ay.out Az.out⟩⟩
     case rest =>
      clear HC39
      try clear p2
      try clear c3
      try clear p3
      try clear q3
      try clear hx3
      try clear c4
      try clear c5
      try clear c6
      try clear c37
      try clear p37
      try clear q37
      try clear hx37
      try clear c38
      try clear p38
      try clear q38
      try clear hx38
      try clear c40
      try clear c42
      try clear c42b0
      try clear Cg
      try clear Cu
      try clear Cv
      try clear Cw
      try clear Cx
      try clear Ch
      try clear Cy
      try clear Cz
      try clear C0
      try clear C1
      try clear Du
      try clear Dv
      try clear Dw
      try clear Dx
      try clear Dy
      try clear Dk
      try clear Dz
      try clear D0
      try clear D1
      try clear D2
      try clear D3
      try clear Dl
      try clear D4
      try clear D5
      try clear D6
      try clear Dm
      try clear D7
      try clear D8
      try clear D9
      try clear Ea
      try clear p379
      try clear p381
      try clear p383
      try clear q379
      try clear q381
      try clear q383
      obtain ⟨kq, Ds, rfl, HA, HJ38, Aj, Aa, Ab, Ae, Ac, Ad, Ag, Ah, HB⟩ := hcut
      cases kq with
      | zero => exact absurd HA.out (by simp [garnerref23_Put.j2])
      | succ kj38 =>
       have H := HA.out
       clear HA
       simp only [garnerref23_Put.j2] at H
       by_cases c51 : Ds = true
       ·subst c51
        rw [if_pos rfl] at H
        have H' := Am H
        clear H
        go_wp2
        go_roundg kj38
        case measure => have := HJ2.out; have := HK2.out; have := HJ38.out; omega
        case rel => exact ⟨(wrap64 (Ak + 1)), (Ai), (B5), (B6), (B7), (B8), (B9), (Ca), (u371002), zr, H', ⟨by have := HJ2.out; have := HK2.out; have := HJ38.out; omega⟩, ⟨by (with_reducible repeat (first | apply Kd.V_alloc | apply Kd.V_drewN | apply Kd.V_drew)); exact Aj.out⟩, ⟨by (with_reducible repeat (first | apply Kd.V_alloc | apply Kd.V_drewN | apply Kd.V_drew)); exact Aa.out⟩, ⟨pK Ab.out⟩, ⟨pK Ae.out⟩, ⟨by repeat (first | (with_reducible exact Ac.out) | (with_reducible refine Kd.C_alloc ?_ _) | (with_reducible refine Kd.C_drewN ?_ _) | (with_reducible refine Kd.C_drew ?_) | exact Ac.out)⟩, ⟨by repeat (first | (with_reducible exact Ad.out) | (with_reducible refine Kd.C_alloc ?_ _) | (with_reducible refine Kd.C_drewN ?_ _) | (with_reducible refine Kd.C_drew ?_) | exact Ad.out)⟩, ⟨by repeat (first | (with_reducible exact Ag.out) | (with_reducible refine Kd.C_alloc ?_ _) | (with_reducible refine Kd.C_drewN ?_ _) | (with_reducible refine Kd.C_drew ?_) | exact Ag.out)⟩, ⟨by repeat (first | (with_reducible exact Ah.out) | (with_reducible refine Kd.C_alloc ?_ _) | (with_reducible refine Kd.C_drewN ?_ _) | (with_reducible refine Kd.C_drew ?_) | exact Ah.out)⟩, ⟨pE2 HB.out Ay.out Az.out⟩⟩
       replace c51 := Bool.eq_false_iff.mpr c51
       subst c51
       rw [if_neg zF] at H
       obtain ⟨c52, H⟩ := zI H
       have c52b0 := decide_eq_true c52
       clear c52
       obtain ⟨c53, H⟩ := zI H
       have c53b0 := decide_eq_true c53
       clear c53
       by_cases c54 : ((rd_T54 l1 Ak).f0) ≤ a0_5
       ·rw [if_pos c54] at H
        have c54b0 := decide_eq_true c54
        clear c54
        simp only [Option.some.injEq, Prod.mk.injEq] at H
        obtain ⟨rfl, rfl, rfl, rfl, rfl, rfl, rfl, rfl⟩ := H
        try go_wp2
        replace Aj := dVa Aj
        replace Aa := dVa Aa
        replace Ab := kDa Ab
        replace Ae := kDa Ae
        replace Ac := Am (Kd.C_drew Ac.out)
        replace Ad := Am (Kd.C_drew Ad.out)
        replace Ag := Am (Kd.C_drew Ag.out)
        replace Ah := Am (Kd.C_drew Ah.out)
        replace HB := bDa HB
        have p384 : 0 ≤ (Ak : Int) := of_decide_eq_true pS
        have q384 : Ak < (l1.length : Int) := of_decide_eq_true pS
        obtain ⟨Ec, Ez, c384_5, e384, B2, Ci, Cj, Ck, Cl, B3, Cm, Cn, Co, Cp, Cq, Cr⟩ := at_T54 (Kd.V_reads' Aj.out).2.2 Ak p384 q384
        obtain rfl : Ap = Ec := (by injection e384)
        obtain ⟨ce384, hce384, hMe384, hcc384⟩ := Kd.V_get Aj.out z54 Ak p384 (by first | exact q384 | exact of_decide_eq_true pS | (have e_ := (Kd.V_reads' Aj.out).1; omega))
        obtain ⟨ua384_5, uc384_5, rfl, ul384_5, ge384_5⟩ := k54_openF hMe384
        have hv384_5 := hcc384 5 _ rfl
        rw [add_field _ _ 5 (by omega)] at hv384_5
        replace hv384_5 := Option.some.inj (hv384_5.symm.trans B3)
        injection hv384_5 with hva_ hvn_ hvc_
        rw [hva_] at ge384_5
        rw [hvc_] at ul384_5
        have HL384_5 := Am (show Kd.V (Kd.int .u8) 5 _ w.heap.size _ _ ((rd_T54 l1 Ak).f4.f1) from Kd.V_mk ul384_5 ge384_5)
        clear hva_ hvn_ hvc_ ge384_5 ul384_5
        clear hcc384 hce384
        have A0 := Am Cr
        have El := Am Cq
        clear Cr Cq
        replace p384 := eq_true p384
        replace q384 := eq_true q384
        refine start_ (n := 9) (S := fun w' => cG w' Af 5 (.int .i64 a0_5) ∧ w'.cell? (Ap.add ((Ak).toNat * 10)) = some (.int .i64 ((rd_T54 l1 Ak).f0))) (ds := []) #[false, false, false, false, false, false, false, false, false] (by kernel_rfl) rfl rfl ⟨(blk_cell Ab.out 5).trans rfl, B2⟩ (fun hHeld => ?_); refine with_tabW garnerref23_Put.tab13 garnerref23_Put.bits13 (fun HT_ HW_ => ?_)
        (first | generalize wc.drew = w55 at Aj Aa Ab Ae Ac Ad Ag Ah HB HL384_5 A0 B2 Ci Cj Ck Cl B3 Cm Cn Co Cp hHeld ⊢ | generalize wc.drew = w55 at Ab Ae Ac Ad Ag Ah HB HL384_5 A0 B2 Ci Cj Ck Cl B3 Cm Cn Co Cp hHeld ⊢)
        refine pui 0 76 9 1 HT_ ?_
        refine zp 1 (h := zp 2 (h := zp 3 (h := zp 5 (h := zp 6 (h := zw 4 (h := zw 7 (h := zp 8 (h := ?_))))))))
        refine done_ (done_of HT_.out (by kernel_rfl)) ?_
        have hnb56 := Bi.out
        have hnc56 := Bz.out
        obtain ⟨_, _, _, _, _, _, _⟩ := bc7 Ae.out
        obtain ⟨_, _, _, _, _, _, _⟩ := bf7 Ae.out
        try go_wp2
        refine bodyPost_ret (results_ct rfl _ _ Al 26 #[.int .i64 0, .int .i64 0, .slice none 0 0, .int .i64 0, .int .i64 0, .int .i64 0, .int .i64 0] (0, 0) _ rfl (kX0 Ae.out) Try.underlying26 rfl (by kernel_rfl)) rfl ?_
        exact ⟨_, pX, Kd.N_V (Kd.N_nil _ _ _ 0 _), pE2 HB.out Ay.out Az.out⟩
       rw [if_neg c54] at H
       have c54b0 := decide_eq_false c54
       clear c54
       obtain ⟨y385, hy385⟩ : ∃ y_ : List (S54), y_ = (([] : List (S54))) := ⟨_, rfl⟩
       replace H : (if 0 ≤ (wrap64 ((wrap64 (((rd_T54 l1 Ak).f0) - a0_0)) - 1)) then (if (wrap64 ((wrap64 (((rd_T54 l1 Ak).f0) - a0_0)) - 1)) ≤ (Ai.length : Int) then ((some (Ai.take ((wrap64 ((wrap64 (((rd_T54 l1 Ak).f0) - a0_0)) - 1)) : Int).toNat : List (S54))).bind fun y389 => (if y385.length + y389.length < 1353245080339 then ((some (y385 ++ y389 : List (S54))).bind fun y394 => (if (wrap64 ((wrap64 ((y394.length : Int) + (l1.length : Int))) - Ak)) > 1000 then (some (0, 0, ([] : List (S54)), 0, 0, 0, 0, 7)) else (if Ak ≤ (l1.length : Int) then ((some (l1.drop (Ak : Int).toNat : List (S54))).bind fun y397 => (if y394.length + y397.length < 1353245080339 then (some (a0_0, a0_1, (y394 ++ y397), a0_3, a0_4, a0_5, a0_6, 0)) else (none))) else (none)))) else (none))) else (none)) else (none)) = some (r1, r2, r3, r4, r5, r6, r7, r8) := zy hy385 H
       have Ny385 := Am hy385
       clear hy385
       obtain ⟨ji58, hji58⟩ : ∃ j_ : Int, (wrap64 ((wrap64 (((rd_T54 l1 Ak).f0) - a0_0)) - 1)) = j_ := ⟨_, rfl⟩
       replace H : (if 0 ≤ (ji58) then (if (ji58) ≤ (Ai.length : Int) then ((some (Ai.take ((ji58) : Int).toNat : List (S54))).bind fun y389 => (if y385.length + y389.length < 1353245080339 then ((some (y385 ++ y389 : List (S54))).bind fun y394 => (if (wrap64 ((wrap64 ((y394.length : Int) + (l1.length : Int))) - Ak)) > 1000 then (some (0, 0, ([] : List (S54)), 0, 0, 0, 0, 7)) else (if Ak ≤ (l1.length : Int) then ((some (l1.drop (Ak : Int).toNat : List (S54))).bind fun y397 => (if y394.length + y397.length < 1353245080339 then (some (a0_0, a0_1, (y394 ++ y397), a0_3, a0_4, a0_5, a0_6, 0)) else (none))) else (none)))) else (none))) else (none)) else (none)) = some (r1, r2, r3, r4, r5, r6, r7, r8) := by first | (rw [hji58] at H; exact H) | (simp only [hji58] at H ⊢; exact H)
       (try rw [hji58] at c18b0)
       have hji58w : (IntKind.i64.wrap ((wrap64 (((rd_T54 l1 Ak).f0) - a0_0)) - 1)) = ji58 := (i64_w _).trans hji58
       obtain ⟨c59, H⟩ := zI H
       have c59b0 := eq_true c59
       have c59b1 := decide_eq_true c59
       clear c59
       obtain ⟨c60, H⟩ := zI H
       have c60b0 := eq_true c60
       have c60b1 := decide_eq_true c60
       clear c60
       obtain ⟨y389, hy389⟩ : ∃ y_ : List (S54), y_ = (Ai.take ((ji58) : Int).toNat) := ⟨_, rfl⟩
       replace H : (if y385.length + y389.length < 1353245080339 then ((some (y385 ++ y389 : List (S54))).bind fun y394 => (if (wrap64 ((wrap64 ((y394.length : Int) + (l1.length : Int))) - Ak)) > 1000 then (some (0, 0, ([] : List (S54)), 0, 0, 0, 0, 7)) else (if Ak ≤ (l1.length : Int) then ((some (l1.drop (Ak : Int).toNat : List (S54))).bind fun y397 => (if y394.length + y397.length < 1353245080339 then (some (a0_0, a0_1, (y394 ++ y397), a0_3, a0_4, a0_5, a0_6, 0)) else (none))) else (none)))) else (none)) = some (r1, r2, r3, r4, r5, r6, r7, r8) := zy hy389 H
       have Ny389 := Am hy389
       clear hy389
       obtain ⟨c61, H⟩ := zI H
       have LMc61 := Am c61
       clear c61
       obtain ⟨y394, hy394⟩ : ∃ y_ : List (S54), y_ = (y385 ++ y389) := ⟨_, rfl⟩
       replace H : (if (wrap64 ((wrap64 ((y394.length : Int) + (l1.length : Int))) - Ak)) > 1000 then (some (0, 0, ([] : List (S54)), 0, 0, 0, 0, 7)) else (if Ak ≤ (l1.length : Int) then ((some (l1.drop (Ak : Int).toNat : List (S54))).bind fun y397 => (if y394.length + y397.length < 1353245080339 then (some (a0_0, a0_1, (y394 ++ y397), a0_3, a0_4, a0_5, a0_6, 0)) else (none))) else (none))) = some (r1, r2, r3, r4, r5, r6, r7, r8) := zy hy394 H
       have Ny394 := Am hy394
       clear hy394
       by_cases c62 : (wrap64 ((wrap64 ((y394.length : Int) + (l1.length : Int))) - Ak)) > 1000
       ·rw [if_pos c62] at H
        have c62b0 : decide (1000 < (wrap64 ((wrap64 ((y394.length : Int) + (l1.length : Int))) - Ak))) = true := decide_eq_true c62
        clear c62
        simp only [Option.some.injEq, Prod.mk.injEq] at H
        obtain ⟨rfl, rfl, rfl, rfl, rfl, rfl, rfl, rfl⟩ := H
        try go_wp2
        replace Aj := dVa Aj
        replace Aa := dVa Aa
        replace Ab := kDa Ab
        replace Ae := kDa Ae
        replace Ac := Am (Kd.C_drew Ac.out)
        replace Ad := Am (Kd.C_drew Ad.out)
        replace Ag := Am (Kd.C_drew Ag.out)
        replace Ah := Am (Kd.C_drew Ah.out)
        replace HB := bDa HB
        have p384 : 0 ≤ (Ak : Int) := of_decide_eq_true pS
        have q384 : Ak < (l1.length : Int) := of_decide_eq_true pS
        obtain ⟨Ec, Ez, c384_5, e384, B2, Ci, Cj, Ck, Cl, B3, Cm, Cn, Co, Cp, Cq, Cr⟩ := at_T54 (Kd.V_reads' Aj.out).2.2 Ak p384 q384
        obtain rfl : Ap = Ec := (by injection e384)
        obtain ⟨ce384, hce384, hMe384, hcc384⟩ := Kd.V_get Aj.out z54 Ak p384 (by first | exact q384 | exact of_decide_eq_true pS | (have e_ := (Kd.V_reads' Aj.out).1; omega))
        obtain ⟨ua384_5, uc384_5, rfl, ul384_5, ge384_5⟩ := k54_openF hMe384
        have hv384_5 := hcc384 5 _ rfl
        rw [add_field _ _ 5 (by omega)] at hv384_5
        replace hv384_5 := Option.some.inj (hv384_5.symm.trans B3)
        injection hv384_5 with hva_ hvn_ hvc_
        rw [hva_] at ge384_5
        rw [hvc_] at ul384_5
        have HL384_5 := Am (show Kd.V (Kd.int .u8) 5 _ w.heap.size _ _ ((rd_T54 l1 Ak).f4.f1) from Kd.V_mk ul384_5 ge384_5)
        clear hva_ hvn_ hvc_ ge384_5 ul384_5
        clear hcc384 hce384
        have A0 := Am Cr
        have El := Am Cq
        clear Cr Cq
        replace p384 := eq_true p384
        replace q384 := eq_true q384
        refine start_ (n := 9) (S := fun w' => cG w' Af 5 (.int .i64 a0_5) ∧ w'.cell? (Ap.add ((Ak).toNat * 10)) = some (.int .i64 ((rd_T54 l1 Ak).f0))) (ds := []) #[false, false, false, false, false, false, false, false, false] (by kernel_rfl) rfl rfl ⟨(blk_cell Ab.out 5).trans rfl, B2⟩ (fun hHeld => ?_); refine with_tabW garnerref23_Put.tab13 garnerref23_Put.bits13 (fun HT_ HW_ => ?_)
        (first | generalize wc.drew = w63 at Aj Aa Ab Ae Ac Ad Ag Ah HB HL384_5 A0 B2 Ci Cj Ck Cl B3 Cm Cn Co Cp hHeld ⊢ | generalize wc.drew = w63 at Ab Ae Ac Ad Ag Ah HB HL384_5 A0 B2 Ci Cj Ck Cl B3 Cm Cn Co Cp hHeld ⊢)
        refine pui 0 76 9 1 HT_ ?_
        refine zp 1 (h := zp 2 (h := zp 3 (h := zp 5 (h := zp 6 (h := zw 4 (h := zw 7 (h := zp 8 (h := ?_))))))))
        refine done_ (done_of HT_.out (by kernel_rfl)) ?_
        try go_wp2
        replace Aj := dVa Aj
        replace Aa := dVa Aa
        replace HL384_5 := dVa HL384_5
        replace Ab := kDa Ab
        replace Ae := kDa Ae
        replace Ac := Am (Kd.C_drew Ac.out)
        replace Ad := Am (Kd.C_drew Ad.out)
        replace Ag := Am (Kd.C_drew Ag.out)
        replace Ah := Am (Kd.C_drew Ah.out)
        replace A0 := Am (Kd.C_drew A0.out)
        replace HB := bDa HB
        have p388 : 0 ≤ (Ak : Int) := of_decide_eq_true pS
        have q388 : Ak < (l1.length : Int) := of_decide_eq_true pS
        obtain ⟨Ex, Ff, c388_5, e388, Cs, Da, Db, Dc, Dd, Ct, De, Df, Dg, Dh, Di, Dj⟩ := at_T54 (Kd.V_reads' Aj.out).2.2 Ak p388 q388
        obtain rfl : Ap = Ex := (by injection e388)
        obtain ⟨ce388, hce388, hMe388, hcc388⟩ := Kd.V_get Aj.out z54 Ak p388 (by first | exact q388 | exact of_decide_eq_true pS | (have e_ := (Kd.V_reads' Aj.out).1; omega))
        obtain ⟨ua388_5, uc388_5, rfl, ul388_5, ge388_5⟩ := k54_openF hMe388
        have hv388_5 := hcc388 5 _ rfl
        rw [add_field _ _ 5 (by omega)] at hv388_5
        replace hv388_5 := Option.some.inj (hv388_5.symm.trans Ct)
        injection hv388_5 with hva_ hvn_ hvc_
        rw [hva_] at ge388_5
        rw [hvc_] at ul388_5
        have HL388_5 := Am (show Kd.V (Kd.int .u8) 5 _ w.heap.size _ _ ((rd_T54 l1 Ak).f4.f1) from Kd.V_mk ul388_5 ge388_5)
        clear hva_ hvn_ hvc_ ge388_5 ul388_5
        clear hcc388 hce388
        have B4 := Am Dj
        have E4 := Am Di
        clear Dj Di
        replace p388 := eq_true p388
        replace q388 := eq_true q388
        obtain ⟨Er, Eo, Fn⟩ := Kd.V_slice Aa.out
        (first | subst Fn | (injection Fn with f1_ f2_ f3_; have f4_ := f1_.symm; have f5_ := f3_.symm; clear f1_ f2_ f3_; subst f4_; subst f5_))
        have q65 : ((ji58) : Int) ≤ ((Ai.length : Int) : Int) := of_decide_eq_true pS
        obtain ⟨i065, hi065, _, Fy, _⟩ := info_parts info54
        have Em : Ai.length ≤ Eo := (Kd.V_reads' Aa.out).2.1
        have Fo : Kd.F k54 _ _ Er Ai.length Ai := (Kd.V_at (base := w.heap.size) Aa.out).2.2
        have Fg := cut_to (P := Try.prog) 22 54 .i64 Try.underlying22 hi065 Er Ai.length Eo (ji58) (of_decide_eq_true pS) q65 Em
        have E9 := Kd.F_take (m := ((ji58) : Int).toNat) Fo (by omega)
        have hy65 : y389.length = ((ji58) : Int).toNat := (by rw [Ny389.out, List.length_take]; omega)
        rw [← Ny389.out] at E9
        rw [← hy65] at Fg
        have Cd := Am (show Kd.V k54 54 _ w.heap.size _ (.slice Er y389.length Eo) y389 from Kd.V_mk (by omega) E9)
        have HC393 := Am (show y389.length ≤ Eo from by omega)
        clear E9 Fo Em hi065 Fy
        have KY65 := Am hy65
        clear hy65
        replace q65 := eq_true q65
        refine start_ (n := 15) (S := fun w' => cG w' Af 0 (.int .i64 a0_0) ∧ cG w' Af 2 (.slice Er Ai.length Eo) ∧ w'.cell? (Ap.add ((Ak).toNat * 10)) = some (.int .i64 ((rd_T54 l1 Ak).f0))) (ds := [13]) #[false, false, false, false, false, false, false, false, false, false, false, false, false, false, false] (by kernel_rfl) rfl rfl ⟨(blk_cell Ab.out 0).trans rfl, (blk_cell Ab.out 2).trans rfl, Cs⟩ (fun hHeld => ?_); refine with_tabW garnerref23_Put.tab15 garnerref23_Put.bits15 (fun HT_ HW_ => ?_)
        (first | generalize w63.drew = w64 at Aj Aa HL384_5 Ab Ae Ac Ad Ag Ah A0 HB HL388_5 Cd B4 Cs Da Db Dc Dd Ct De Df Dg Dh hHeld ⊢ | generalize w63.drew = w64 at HL384_5 Ab Ae Ac Ad Ag Ah A0 HB HL388_5 Cd B4 Cs Da Db Dc Dd Ct De Df Dg Dh hHeld ⊢)
        refine pui 1 87 15 2 HT_ ?_
        refine zp 3 (h := zp 4 (h := zp 5 (h := zp 6 (h := zp 8 (h := zw 2 (h := zw 7 (h := zw 9 (h := zp 10 (h := zp 11 (h := zp 12 (h := ?_)))))))))))
        refine onei 0 86 15 8191 HT_ (fun K hK => ?_)
        refine Kd.N_lit_step k54 _ 54 ?hg (N' := 86) ?hd (xs := ([] : List (S54))) (inner := []) (ok := (fun k_ => ((P0_2_ k_ ∨ P1_ k_) ∨ w.heap.size ≤ k_) ∧ k_ ≠ Af ∧ k_ ≠ Al)) (okp := (fun k_ => ((P0_2_ k_ ∨ P1_ k_) ∨ w.heap.size ≤ k_) ∧ k_ ≠ Af ∧ k_ ≠ Al)) ?hr ?hp (fun _ hk => hk) ((show ∀ k_, w64.heap.size ≤ k_ → (fun k_ => ((P0_2_ k_ ∨ P1_ k_) ∨ w.heap.size ≤ k_) ∧ k_ ≠ Af ∧ k_ ≠ Al) k_ from fun k_ hk => ⟨(.inr (Nat.le_trans (below_size (pE2 HB.out Ay.out Az.out)) hk)), kF Ab.out k_ hk, kF Ae.out k_ hk⟩) _ (Nat.le_refl _)) (Below.refl _ _) (Nat.le_refl _) (by simp) ?_; (case hd => rfl); (case hg => rfl); (case hr => first | (go_simp; done) | (go_simp; rfl)); (case hp => exact (Reps.none _ _))
        intro v386 w67 ho68 hb hg_ hnew_
        have HS2_ := zH hb hHeld.2.2
        clear hg_ hnew_
        (first | rw [← Ny385.out] at ho68 | (simp only [Int.reduceToNat] at ho68; rw [← Ny385.out] at ho68))
        replace Aj := Am (Kd.V_elder' (pV Aj.out) (Kd.N_base ho68) hb)
        replace Aa := Am (Kd.V_elder' (pV Aa.out) (Kd.N_base ho68) hb)
        replace HL384_5 := Am (Kd.V_elder' (pV HL384_5.out) (Kd.N_base ho68) hb)
        replace HL388_5 := Am (Kd.V_elder' (pV HL388_5.out) (Kd.N_base ho68) hb)
        replace Cd := Am (Kd.V_elder' (pV Cd.out) (Kd.N_base ho68) hb)
        have C2 := Am (Kd.N_lower ho68 (below_size (pE2 HB.out Ay.out Az.out)))
        replace Ab := kBa Ab hb
        replace Ae := kBa Ae hb
        replace Ac := Am (Kd.C_below (by repeat (first | (with_reducible exact Ac.out) | (with_reducible refine Kd.C_alloc ?_ _) | (with_reducible refine Kd.C_drewN ?_ _) | (with_reducible refine Kd.C_drew ?_) | exact Ac.out)) hb)
        replace Ad := Am (Kd.C_below (by repeat (first | (with_reducible exact Ad.out) | (with_reducible refine Kd.C_alloc ?_ _) | (with_reducible refine Kd.C_drewN ?_ _) | (with_reducible refine Kd.C_drew ?_) | exact Ad.out)) hb)
        replace Ag := Am (Kd.C_below (by repeat (first | (with_reducible exact Ag.out) | (with_reducible refine Kd.C_alloc ?_ _) | (with_reducible refine Kd.C_drewN ?_ _) | (with_reducible refine Kd.C_drew ?_) | exact Ag.out)) hb)
        replace Ah := Am (Kd.C_below (by repeat (first | (with_reducible exact Ah.out) | (with_reducible refine Kd.C_alloc ?_ _) | (with_reducible refine Kd.C_drewN ?_ _) | (with_reducible refine Kd.C_drew ?_) | exact Ah.out)) hb)
        replace A0 := Am (Kd.C_below (by repeat (first | (with_reducible exact A0.out) | (with_reducible refine Kd.C_alloc ?_ _) | (with_reducible refine Kd.C_drewN ?_ _) | (with_reducible refine Kd.C_drew ?_) | exact A0.out)) hb)
        replace B4 := Am (Kd.C_below (by repeat (first | (with_reducible exact B4.out) | (with_reducible refine Kd.C_alloc ?_ _) | (with_reducible refine Kd.C_drewN ?_ _) | (with_reducible refine Kd.C_drew ?_) | exact B4.out)) hb)
        replace HB := zX2 HB Ay.out Az.out hb
        clear hb ho68
        refine hK.out _ _ ⟨(blk_cell Ab.out 0).trans rfl, (blk_cell Ab.out 2).trans rfl, HS2_⟩ (fun hHeld => ?_)
        clear hK K
        refine norm_ (a' := ?_) ?_ ?_
        rotate_left
        ·show Act.put _ (some 86) _ = _
         simp only [Act.put, List.setIfInBounds_toArray, List.set_cons_zero, List.set_cons_succ, i64_w, i32_w]
         rfl
        refine last_ (i := 13) (N := some 99) (bw 15 16383) rfl rfl (one_of HT_.out (by kernel_rfl)) (by decide) (fun K hK => ?_)
        refine Kd.N_append_rows_step k54 (w0 := w) w.heap.size (by rfl) (.tmp 86) (.tmp 98) 22 54 (.agg #[(.int .i64 0), (.int .i64 0), (.int .i64 0), (.string ⟨#[]⟩), (.bool false), (.slice none 0 0), (.int .i64 0), (.int .i64 0), (.int .i64 0), (.int .u32 0)]) 104 rfl Try.underlying22 info54 rfl (by decide) (by omega) v386 y385 y389 _ _ _ (fun k_ => ((P0_2_ k_ ∨ P1_ k_) ∨ w.heap.size ≤ k_) ∧ k_ ≠ Af ∧ k_ ≠ Al) (fun k_ => ((fun k_ => ((P0_2_ k_ ∨ P1_ k_) ∨ w.heap.size ≤ k_) ∧ k_ ≠ Af ∧ k_ ≠ Al)) k_ ∧ some k_ ≠ (v386 : Value).ownBlock) rfl rfl ?aO ?aR (fun _ hk => hk) ?aF ?aB ?aS ?aL ?_
        (case aR => exact (by skip; exact Kd.V_F (Kd.V_mono (ok' := (fun k_ => ((fun k_ => ((P0_2_ k_ ∨ P1_ k_) ∨ w.heap.size ≤ k_) ∧ k_ ≠ Af ∧ k_ ≠ Al)) k_ ∧ some k_ ≠ (v386 : Value).ownBlock)) (Cd.out) (fun k_ hk => ⟨⟨hk.1.1, ⟨hk.1.2.1, hk.1.2.2⟩⟩, hk.2⟩))))
        (case aB => exact (pE2 HB.out Ay.out Az.out))
        (case aF => exact (fun k_ hk => ⟨(.inr (Nat.le_trans (below_size (pE2 HB.out Ay.out Az.out)) hk)), kF Ab.out k_ hk, kF Ae.out k_ hk⟩))
        (case aO => exact (pN C2.out))
        (case aS => exact (below_size (pE2 HB.out Ay.out Az.out)))
        (case aL => have := LMc61.out; omega)
        intro v395 w69 ho hb hg hat
        rw [← Ny394.out] at ho
        replace Aj := Am (Kd.V_afterv (ok := (fun k_ => ((P0_2_ k_ ∨ P1_ k_) ∨ w.heap.size ≤ k_) ∧ k_ ≠ Af ∧ k_ ≠ Al)) (pV Aj.out) hg hat)
        replace Aa := Am (Kd.V_afterv (ok := (fun k_ => ((P0_2_ k_ ∨ P1_ k_) ∨ w.heap.size ≤ k_) ∧ k_ ≠ Af ∧ k_ ≠ Al)) (pV Aa.out) hg hat)
        replace Ab := Am (blk_grown (g := Af) (o := .cells #[.int .i64 a0_0, .int .i64 a0_1, .slice Er Ai.length Eo, .int .i64 a0_3, .int .i64 a0_4, .int .i64 a0_5, .int .i64 a0_6] 26 (0, 0)) (pK Ab.out) hg (Kd.N_ne C2.out Ab.out (by decide)))
        replace Ae := Am (blk_grown (g := Al) (o := .cells #[.int .i64 B5, .int .i64 B6, .slice none 0 0, .int .i64 B7, .int .i64 B8, .int .i64 B9, .int .i64 Ca] 26 (0, 0)) (pK Ae.out) hg (Kd.N_ne C2.out Ae.out (by decide)))
        replace HL384_5 := Am (Kd.V_afterv (ok := (fun k_ => ((P0_2_ k_ ∨ P1_ k_) ∨ w.heap.size ≤ k_) ∧ k_ ≠ Af ∧ k_ ≠ Al)) (pV HL384_5.out) hg hat)
        replace HL388_5 := Am (Kd.V_afterv (ok := (fun k_ => ((P0_2_ k_ ∨ P1_ k_) ∨ w.heap.size ≤ k_) ∧ k_ ≠ Af ∧ k_ ≠ Al)) (pV HL388_5.out) hg hat)
        replace Cd := Am (Kd.V_afterv (ok := (fun k_ => ((P0_2_ k_ ∨ P1_ k_) ∨ w.heap.size ≤ k_) ∧ k_ ≠ Af ∧ k_ ≠ Al)) (pV Cd.out) hg hat)
        replace HB := Am (hb)
        have Do := Am (ho)
        clear C2
        clear ho hb hg hat
        refine hK.out _ _ ?_
        clear hK K
        refine norm_ (a' := ?_) ?_ ?_
        rotate_left
        ·show Act.put _ (some 99) _ = _
         simp only [Act.put, List.setIfInBounds_toArray, List.set_cons_zero, List.set_cons_succ, i64_w, i32_w]
         rfl
        refine pui 14 7 15 32767 HT_ ?_
        refine done_ (done_of HT_.out (by kernel_rfl)) ?_
        obtain ⟨Ao70, co70, F0⟩ := Kd.N_slice Do.out
        subst F0
        have hnb71 := Bi.out
        have hnc71 := Bz.out
        obtain ⟨_, _, _, _, _, _, _⟩ := bc7 Ae.out
        obtain ⟨_, _, _, _, _, _, _⟩ := bf7 Ae.out
        try go_wp2
        refine bodyPost_ret (results_ct rfl _ _ Al 26 #[.int .i64 0, .int .i64 0, .slice none 0 0, .int .i64 0, .int .i64 0, .int .i64 0, .int .i64 0] (0, 0) _ rfl (kX0 Ae.out) Try.underlying26 rfl (by kernel_rfl)) rfl ?_
        exact ⟨_, by first | rfl | (simp [errW_none, errW_some] <;> rfl) | (simp only [← hji58]; first | rfl | (simp [errW_none, errW_some] <;> rfl)) | (simp [*, errW_none, errW_some] <;> rfl), Kd.N_V (Kd.N_nil _ _ _ 0 _), pE2 HB.out Ay.out Az.out⟩
       rw [if_neg c62] at H
       have c62b0 : decide (1000 < (wrap64 ((wrap64 ((y394.length : Int) + (l1.length : Int))) - Ak))) = false := decide_eq_false c62
       clear c62
       have c73b0 := eq_true (of_decide_eq_true pS : 0 ≤ Ak)
       obtain ⟨c74, H⟩ := zI H
       have c74b0 := eq_true c74
       have c74b1 := decide_eq_true c74
       clear c74
       obtain ⟨y397, hy397⟩ : ∃ y_ : List (S54), y_ = (l1.drop (Ak : Int).toNat) := ⟨_, rfl⟩
       replace H : (if y394.length + y397.length < 1353245080339 then (some (a0_0, a0_1, (y394 ++ y397), a0_3, a0_4, a0_5, a0_6, 0)) else (none)) = some (r1, r2, r3, r4, r5, r6, r7, r8) := zy hy397 H
       have Ny397 := Am hy397
       clear hy397
       obtain ⟨c75, H⟩ := zI H
       have LMc75 := Am c75
       clear c75
       obtain ⟨y402, hy402⟩ : ∃ y_ : List (S54), y_ = (y394 ++ y397) := ⟨_, rfl⟩
       replace H : (some (a0_0, a0_1, y402, a0_3, a0_4, a0_5, a0_6, 0)) = some (r1, r2, r3, r4, r5, r6, r7, r8) := zy hy402 H
       have Ny402 := Am hy402
       clear hy402
       simp only [Option.some.injEq, Prod.mk.injEq] at H
       obtain ⟨rfl, rfl, rfl, rfl, rfl, rfl, rfl, rfl⟩ := H
       try go_wp2
       replace Aj := dVa Aj
       replace Aa := dVa Aa
       replace Ab := kDa Ab
       replace Ae := kDa Ae
       replace Ac := Am (Kd.C_drew Ac.out)
       replace Ad := Am (Kd.C_drew Ad.out)
       replace Ag := Am (Kd.C_drew Ag.out)
       replace Ah := Am (Kd.C_drew Ah.out)
       replace HB := bDa HB
       have p384 : 0 ≤ (Ak : Int) := of_decide_eq_true pS
       have q384 : Ak < (l1.length : Int) := of_decide_eq_true pS
       obtain ⟨Ec, Ez, c384_5, e384, B2, Ci, Cj, Ck, Cl, B3, Cm, Cn, Co, Cp, Cq, Cr⟩ := at_T54 (Kd.V_reads' Aj.out).2.2 Ak p384 q384
       obtain rfl : Ap = Ec := (by injection e384)
       obtain ⟨ce384, hce384, hMe384, hcc384⟩ := Kd.V_get Aj.out z54 Ak p384 (by first | exact q384 | exact of_decide_eq_true pS | (have e_ := (Kd.V_reads' Aj.out).1; omega))
       obtain ⟨ua384_5, uc384_5, rfl, ul384_5, ge384_5⟩ := k54_openF hMe384
       have hv384_5 := hcc384 5 _ rfl
       rw [add_field _ _ 5 (by omega)] at hv384_5
       replace hv384_5 := Option.some.inj (hv384_5.symm.trans B3)
       injection hv384_5 with hva_ hvn_ hvc_
       rw [hva_] at ge384_5
       rw [hvc_] at ul384_5
       have HL384_5 := Am (show Kd.V (Kd.int .u8) 5 _ w.heap.size _ _ ((rd_T54 l1 Ak).f4.f1) from Kd.V_mk ul384_5 ge384_5)
       clear hva_ hvn_ hvc_ ge384_5 ul384_5
       clear hcc384 hce384
       have A0 := Am Cr
       have El := Am Cq
       clear Cr Cq
       replace p384 := eq_true p384
       replace q384 := eq_true q384
       refine start_ (n := 9) (S := fun w' => cG w' Af 5 (.int .i64 a0_5) ∧ w'.cell? (Ap.add ((Ak).toNat * 10)) = some (.int .i64 ((rd_T54 l1 Ak).f0))) (ds := []) #[false, false, false, false, false, false, false, false, false] (by kernel_rfl) rfl rfl ⟨(blk_cell Ab.out 5).trans rfl, B2⟩ (fun hHeld => ?_); refine with_tabW garnerref23_Put.tab13 garnerref23_Put.bits13 (fun HT_ HW_ => ?_)
       (first | generalize wc.drew = w76 at Aj Aa Ab Ae Ac Ad Ag Ah HB HL384_5 A0 B2 Ci Cj Ck Cl B3 Cm Cn Co Cp hHeld ⊢ | generalize wc.drew = w76 at Ab Ae Ac Ad Ag Ah HB HL384_5 A0 B2 Ci Cj Ck Cl B3 Cm Cn Co Cp hHeld ⊢)
       refine pui 0 76 9 1 HT_ ?_
       refine zp 1 (h := zp 2 (h := zp 3 (h := zp 5 (h := zp 6 (h := zw 4 (h := zw 7 (h := zp 8 (h := ?_))))))))
       refine done_ (done_of HT_.out (by kernel_rfl)) ?_
       try go_wp2
       replace Aj := dVa Aj
       replace Aa := dVa Aa
       replace HL384_5 := dVa HL384_5
       replace Ab := kDa Ab
       replace Ae := kDa Ae
       replace Ac := Am (Kd.C_drew Ac.out)
       replace Ad := Am (Kd.C_drew Ad.out)
       replace Ag := Am (Kd.C_drew Ag.out)
       replace Ah := Am (Kd.C_drew Ah.out)
       replace A0 := Am (Kd.C_drew A0.out)
       replace HB := bDa HB
       have p388 : 0 ≤ (Ak : Int) := of_decide_eq_true pS
       have q388 : Ak < (l1.length : Int) := of_decide_eq_true pS
       obtain ⟨Ex, Ff, c388_5, e388, Cs, Da, Db, Dc, Dd, Ct, De, Df, Dg, Dh, Di, Dj⟩ := at_T54 (Kd.V_reads' Aj.out).2.2 Ak p388 q388
       obtain rfl : Ap = Ex := (by injection e388)
       obtain ⟨ce388, hce388, hMe388, hcc388⟩ := Kd.V_get Aj.out z54 Ak p388 (by first | exact q388 | exact of_decide_eq_true pS | (have e_ := (Kd.V_reads' Aj.out).1; omega))
       obtain ⟨ua388_5, uc388_5, rfl, ul388_5, ge388_5⟩ := k54_openF hMe388
       have hv388_5 := hcc388 5 _ rfl
       rw [add_field _ _ 5 (by omega)] at hv388_5
       replace hv388_5 := Option.some.inj (hv388_5.symm.trans Ct)
       injection hv388_5 with hva_ hvn_ hvc_
       rw [hva_] at ge388_5
       rw [hvc_] at ul388_5
       have HL388_5 := Am (show Kd.V (Kd.int .u8) 5 _ w.heap.size _ _ ((rd_T54 l1 Ak).f4.f1) from Kd.V_mk ul388_5 ge388_5)
       clear hva_ hvn_ hvc_ ge388_5 ul388_5
       clear hcc388 hce388
       have B4 := Am Dj
       have E4 := Am Di
       clear Dj Di
       replace p388 := eq_true p388
       replace q388 := eq_true q388
       obtain ⟨Ep, Ed, Fp⟩ := Kd.V_slice Aa.out
       (first | subst Fp | (injection Fp with f1_ f2_ f3_; have f4_ := f1_.symm; have f5_ := f3_.symm; clear f1_ f2_ f3_; subst f4_; subst f5_))
       have q78 : ((ji58) : Int) ≤ ((Ai.length : Int) : Int) := of_decide_eq_true pS
       obtain ⟨i078, hi078, _, Fz, _⟩ := info_parts info54
       have En : Ai.length ≤ Ed := (Kd.V_reads' Aa.out).2.1
       have Fq : Kd.F k54 _ _ Ep Ai.length Ai := (Kd.V_at (base := w.heap.size) Aa.out).2.2
       have Fh := cut_to (P := Try.prog) 22 54 .i64 Try.underlying22 hi078 Ep Ai.length Ed (ji58) (of_decide_eq_true pS) q78 En
       have Fa := Kd.F_take (m := ((ji58) : Int).toNat) Fq (by omega)
       have hy78 : y389.length = ((ji58) : Int).toNat := (by rw [Ny389.out, List.length_take]; omega)
       rw [← Ny389.out] at Fa
       rw [← hy78] at Fh
       have Cd := Am (show Kd.V k54 54 _ w.heap.size _ (.slice Ep y389.length Ed) y389 from Kd.V_mk (by omega) Fa)
       have HC393 := Am (show y389.length ≤ Ed from by omega)
       clear Fa Fq En hi078 Fz
       have KY78 := Am hy78
       clear hy78
       replace q78 := eq_true q78
       refine start_ (n := 15) (S := fun w' => cG w' Af 0 (.int .i64 a0_0) ∧ cG w' Af 2 (.slice Ep Ai.length Ed) ∧ w'.cell? (Ap.add ((Ak).toNat * 10)) = some (.int .i64 ((rd_T54 l1 Ak).f0))) (ds := [13]) #[false, false, false, false, false, false, false, false, false, false, false, false, false, false, false] (by kernel_rfl) rfl rfl ⟨(blk_cell Ab.out 0).trans rfl, (blk_cell Ab.out 2).trans rfl, Cs⟩ (fun hHeld => ?_); refine with_tabW garnerref23_Put.tab15 garnerref23_Put.bits15 (fun HT_ HW_ => ?_)
       (first | generalize w76.drew = w77 at Aj Aa HL384_5 Ab Ae Ac Ad Ag Ah A0 HB HL388_5 Cd B4 Cs Da Db Dc Dd Ct De Df Dg Dh hHeld ⊢ | generalize w76.drew = w77 at HL384_5 Ab Ae Ac Ad Ag Ah A0 HB HL388_5 Cd B4 Cs Da Db Dc Dd Ct De Df Dg Dh hHeld ⊢)
       refine pui 1 87 15 2 HT_ ?_
       refine zp 3 (h := zp 4 (h := zp 5 (h := zp 6 (h := zp 8 (h := zw 2 (h := zw 7 (h := zw 9 (h := zp 10 (h := zp 11 (h := zp 12 (h := ?_)))))))))))
       refine onei 0 86 15 8191 HT_ (fun K hK => ?_)
       refine Kd.N_lit_step k54 _ 54 ?hg (N' := 86) ?hd (xs := ([] : List (S54))) (inner := []) (ok := (fun k_ => ((P0_2_ k_ ∨ P1_ k_) ∨ w.heap.size ≤ k_) ∧ k_ ≠ Af ∧ k_ ≠ Al)) (okp := (fun k_ => ((P0_2_ k_ ∨ P1_ k_) ∨ w.heap.size ≤ k_) ∧ k_ ≠ Af ∧ k_ ≠ Al)) ?hr ?hp (fun _ hk => hk) ((show ∀ k_, w77.heap.size ≤ k_ → (fun k_ => ((P0_2_ k_ ∨ P1_ k_) ∨ w.heap.size ≤ k_) ∧ k_ ≠ Af ∧ k_ ≠ Al) k_ from fun k_ hk => ⟨(.inr (Nat.le_trans (below_size (pE2 HB.out Ay.out Az.out)) hk)), kF Ab.out k_ hk, kF Ae.out k_ hk⟩) _ (Nat.le_refl _)) (Below.refl _ _) (Nat.le_refl _) (by simp) ?_; (case hd => rfl); (case hg => rfl); (case hr => first | (go_simp; done) | (go_simp; rfl)); (case hp => exact (Reps.none _ _))
       intro v386 w80 ho81 hb hg_ hnew_
       have HS2_ := zH hb hHeld.2.2
       clear hg_ hnew_
       (first | rw [← Ny385.out] at ho81 | (simp only [Int.reduceToNat] at ho81; rw [← Ny385.out] at ho81))
       replace Aj := Am (Kd.V_elder' (pV Aj.out) (Kd.N_base ho81) hb)
       replace Aa := Am (Kd.V_elder' (pV Aa.out) (Kd.N_base ho81) hb)
       replace HL384_5 := Am (Kd.V_elder' (pV HL384_5.out) (Kd.N_base ho81) hb)
       replace HL388_5 := Am (Kd.V_elder' (pV HL388_5.out) (Kd.N_base ho81) hb)
       replace Cd := Am (Kd.V_elder' (pV Cd.out) (Kd.N_base ho81) hb)
       have C2 := Am (Kd.N_lower ho81 (below_size (pE2 HB.out Ay.out Az.out)))
       replace Ab := kBa Ab hb
       replace Ae := kBa Ae hb
       replace Ac := Am (Kd.C_below (by repeat (first | (with_reducible exact Ac.out) | (with_reducible refine Kd.C_alloc ?_ _) | (with_reducible refine Kd.C_drewN ?_ _) | (with_reducible refine Kd.C_drew ?_) | exact Ac.out)) hb)
       replace Ad := Am (Kd.C_below (by repeat (first | (with_reducible exact Ad.out) | (with_reducible refine Kd.C_alloc ?_ _) | (with_reducible refine Kd.C_drewN ?_ _) | (with_reducible refine Kd.C_drew ?_) | exact Ad.out)) hb)
       replace Ag := Am (Kd.C_below (by repeat (first | (with_reducible exact Ag.out) | (with_reducible refine Kd.C_alloc ?_ _) | (with_reducible refine Kd.C_drewN ?_ _) | (with_reducible refine Kd.C_drew ?_) | exact Ag.out)) hb)
       replace Ah := Am (Kd.C_below (by repeat (first | (with_reducible exact Ah.out) | (with_reducible refine Kd.C_alloc ?_ _) | (with_reducible refine Kd.C_drewN ?_ _) | (with_reducible refine Kd.C_drew ?_) | exact Ah.out)) hb)
       replace A0 := Am (Kd.C_below (by repeat (first | (with_reducible exact A0.out) | (with_reducible refine Kd.C_alloc ?_ _) | (with_reducible refine Kd.C_drewN ?_ _) | (with_reducible refine Kd.C_drew ?_) | exact A0.out)) hb)
       replace B4 := Am (Kd.C_below (by repeat (first | (with_reducible exact B4.out) | (with_reducible refine Kd.C_alloc ?_ _) | (with_reducible refine Kd.C_drewN ?_ _) | (with_reducible refine Kd.C_drew ?_) | exact B4.out)) hb)
       replace HB := zX2 HB Ay.out Az.out hb
       clear hb ho81
       refine hK.out _ _ ⟨(blk_cell Ab.out 0).trans rfl, (blk_cell Ab.out 2).trans rfl, HS2_⟩ (fun hHeld => ?_)
       clear hK K
       refine norm_ (a' := ?_) ?_ ?_
       rotate_left
       ·show Act.put _ (some 86) _ = _
        simp only [Act.put, List.setIfInBounds_toArray, List.set_cons_zero, List.set_cons_succ, i64_w, i32_w]
        rfl
       refine last_ (i := 13) (N := some 99) (bw 15 16383) rfl rfl (one_of HT_.out (by kernel_rfl)) (by decide) (fun K hK => ?_)
       refine Kd.N_append_rows_step k54 (w0 := w) w.heap.size (by rfl) (.tmp 86) (.tmp 98) 22 54 (.agg #[(.int .i64 0), (.int .i64 0), (.int .i64 0), (.string ⟨#[]⟩), (.bool false), (.slice none 0 0), (.int .i64 0), (.int .i64 0), (.int .i64 0), (.int .u32 0)]) 104 rfl Try.underlying22 info54 rfl (by decide) (by omega) v386 y385 y389 _ _ _ (fun k_ => ((P0_2_ k_ ∨ P1_ k_) ∨ w.heap.size ≤ k_) ∧ k_ ≠ Af ∧ k_ ≠ Al) (fun k_ => ((fun k_ => ((P0_2_ k_ ∨ P1_ k_) ∨ w.heap.size ≤ k_) ∧ k_ ≠ Af ∧ k_ ≠ Al)) k_ ∧ some k_ ≠ (v386 : Value).ownBlock) rfl rfl ?aO ?aR (fun _ hk => hk) ?aF ?aB ?aS ?aL ?_
       (case aR => exact (by skip; exact Kd.V_F (Kd.V_mono (ok' := (fun k_ => ((fun k_ => ((P0_2_ k_ ∨ P1_ k_) ∨ w.heap.size ≤ k_) ∧ k_ ≠ Af ∧ k_ ≠ Al)) k_ ∧ some k_ ≠ (v386 : Value).ownBlock)) (Cd.out) (fun k_ hk => ⟨⟨hk.1.1, ⟨hk.1.2.1, hk.1.2.2⟩⟩, hk.2⟩))))
       (case aB => exact (pE2 HB.out Ay.out Az.out))
       (case aF => exact (fun k_ hk => ⟨(.inr (Nat.le_trans (below_size (pE2 HB.out Ay.out Az.out)) hk)), kF Ab.out k_ hk, kF Ae.out k_ hk⟩))
       (case aO => exact (pN C2.out))
       (case aS => exact (below_size (pE2 HB.out Ay.out Az.out)))
       (case aL => have := LMc61.out; omega)
       intro v395 w82 ho hb hg hat
       rw [← Ny394.out] at ho
       replace Aj := Am (Kd.V_afterv (ok := (fun k_ => ((P0_2_ k_ ∨ P1_ k_) ∨ w.heap.size ≤ k_) ∧ k_ ≠ Af ∧ k_ ≠ Al)) (pV Aj.out) hg hat)
       replace Aa := Am (Kd.V_afterv (ok := (fun k_ => ((P0_2_ k_ ∨ P1_ k_) ∨ w.heap.size ≤ k_) ∧ k_ ≠ Af ∧ k_ ≠ Al)) (pV Aa.out) hg hat)
       replace Ab := Am (blk_grown (g := Af) (o := .cells #[.int .i64 a0_0, .int .i64 a0_1, .slice Ep Ai.length Ed, .int .i64 a0_3, .int .i64 a0_4, .int .i64 a0_5, .int .i64 a0_6] 26 (0, 0)) (pK Ab.out) hg (Kd.N_ne C2.out Ab.out (by decide)))
       replace Ae := Am (blk_grown (g := Al) (o := .cells #[.int .i64 B5, .int .i64 B6, .slice none 0 0, .int .i64 B7, .int .i64 B8, .int .i64 B9, .int .i64 Ca] 26 (0, 0)) (pK Ae.out) hg (Kd.N_ne C2.out Ae.out (by decide)))
       replace HL384_5 := Am (Kd.V_afterv (ok := (fun k_ => ((P0_2_ k_ ∨ P1_ k_) ∨ w.heap.size ≤ k_) ∧ k_ ≠ Af ∧ k_ ≠ Al)) (pV HL384_5.out) hg hat)
       replace HL388_5 := Am (Kd.V_afterv (ok := (fun k_ => ((P0_2_ k_ ∨ P1_ k_) ∨ w.heap.size ≤ k_) ∧ k_ ≠ Af ∧ k_ ≠ Al)) (pV HL388_5.out) hg hat)
       replace Cd := Am (Kd.V_afterv (ok := (fun k_ => ((P0_2_ k_ ∨ P1_ k_) ∨ w.heap.size ≤ k_) ∧ k_ ≠ Af ∧ k_ ≠ Al)) (pV Cd.out) hg hat)
       replace HB := Am (hb)
       have Do := Am (ho)
       clear C2
       clear ho hb hg hat
       refine hK.out _ _ ?_
       clear hK K
       refine norm_ (a' := ?_) ?_ ?_
       rotate_left
       ·show Act.put _ (some 99) _ = _
        simp only [Act.put, List.setIfInBounds_toArray, List.set_cons_zero, List.set_cons_succ, i64_w, i32_w]
        rfl
       refine pui 14 7 15 32767 HT_ ?_
       refine done_ (done_of HT_.out (by kernel_rfl)) ?_
       obtain ⟨Fb, Fc, F1⟩ := Kd.N_slice Do.out
       subst F1
       have q84 : (Ak : Int) ≤ ((l1.length : Int) : Int) := of_decide_eq_true pS
       obtain ⟨i084, hi084, _, E5, _⟩ := info_parts info54
       have Dn : l1.length ≤ c1 := (Kd.V_reads' Aj.out).2.1
       have Fr : Kd.F k54 _ _ (some Ap) l1.length l1 := (Kd.V_at (base := w.heap.size) Aj.out).2.2
       have q084 : (0 : Int) ≤ (Ak : Int) := of_decide_eq_true pS
       have Fi := cut_from (P := Try.prog) 22 54 .i64 Try.underlying22 hi084 10 E5 (some Ap) l1.length c1 Ak q084 q84
       have Es := Kd.F_cut (m := (Ak : Int).toNat) (c := c1) Fr (by omega) Dn
       obtain ⟨A84, hA84⟩ : ∃ AX_, AX_ = (if c1 = (Ak : Int).toNat then (some Ap) else ((some Ap) : Option Addr).map (·.add ((Ak : Int).toNat * 10))) := ⟨_, rfl⟩
       obtain ⟨c84, hc84⟩ : ∃ cX_, cX_ = c1 - (Ak : Int).toNat := ⟨_, rfl⟩
       have hy84 : y397.length = l1.length - (Ak : Int).toNat := (by rw [Ny397.out, List.length_drop] <;> omega)
       rw [show (l1).drop (Ak : Int).toNat = y397 from Ny397.out.symm] at Es
       replace Es : Kd.F k54 _ _ A84 y397.length y397 := (by rw [hA84]; exact Es)
       rw [← hy84, ← hA84, ← hc84] at Fi
       have Ey := Am (show Kd.V k54 54 _ w.heap.size _ (.slice A84 y397.length c84) y397 from Kd.V_mk (by rw [hy84, hc84]; exact Nat.sub_le_sub_right Dn _) Es)
       have HC401 := Am (show y397.length ≤ c84 from by rw [hy84, hc84]; exact Nat.sub_le_sub_right Dn _)
       clear Es Fr Dn hi084 E5 hc84
       have KY84 := Am hy84
       have KA84 := Am hA84
       clear hy84 hA84
       replace q84 := eq_true q84
       try go_wp2_with (first | ((with_reducible refine gate_builtin (b := .append) (xs := #[.tmp 109, .tmp 112]) rfl ?_); at_builtin; refine Kd.N_append_rows k54 (w0 := w) w.heap.size rfl (.tmp 109) (.tmp 112) 22 54 (.agg #[(.int .i64 0), (.int .i64 0), (.int .i64 0), (.string ⟨#[]⟩), (.bool false), (.slice none 0 0), (.int .i64 0), (.int .i64 0), (.int .i64 0), (.int .u32 0)]) 104 rfl Try.underlying22 info54 rfl (by decide) (by omega) (.slice Fb y394.length Fc) y394 y397 _ _ _ (fun k_ => ((P0_2_ k_ ∨ P1_ k_) ∨ w.heap.size ≤ k_) ∧ k_ ≠ Af ∧ k_ ≠ Al) (fun k_ => ((fun k_ => ((P0_2_ k_ ∨ P1_ k_) ∨ w.heap.size ≤ k_) ∧ k_ ≠ Af ∧ k_ ≠ Al)) k_ ∧ some k_ ≠ (.slice Fb y394.length Fc : Value).ownBlock) rfl rfl ?aO ?aR (fun _ hk => hk) ?aF ?aB ?aS ?aL ?_; (case aR => exact (by skip; exact Kd.V_F (Kd.V_mono (ok' := (fun k_ => ((fun k_ => ((P0_2_ k_ ∨ P1_ k_) ∨ w.heap.size ≤ k_) ∧ k_ ≠ Af ∧ k_ ≠ Al)) k_ ∧ some k_ ≠ (.slice Fb y394.length Fc : Value).ownBlock)) (Ey.out) (fun k_ hk => ⟨⟨hk.1.1, ⟨hk.1.2.1, hk.1.2.2⟩⟩, hk.2⟩)))); (case aB => exact (pE2 HB.out Ay.out Az.out)); (case aF => exact (fun k_ hk => ⟨(.inr (Nat.le_trans (below_size (pE2 HB.out Ay.out Az.out)) hk)), kF Ab.out k_ hk, kF Ae.out k_ hk⟩)); (case aO => exact (pN Do.out)); (case aS => exact (below_size (pE2 HB.out Ay.out Az.out))); (case aL => have := LMc75.out; omega); intro v403 w85 ho hb hg hat; rw [← Ny402.out] at ho; replace Aj := Am (Kd.V_afterv (ok := (fun k_ => ((P0_2_ k_ ∨ P1_ k_) ∨ w.heap.size ≤ k_) ∧ k_ ≠ Af ∧ k_ ≠ Al)) (pV Aj.out) hg hat); replace Aa := Am (Kd.V_afterv (ok := (fun k_ => ((P0_2_ k_ ∨ P1_ k_) ∨ w.heap.size ≤ k_) ∧ k_ ≠ Af ∧ k_ ≠ Al)) (pV Aa.out) hg hat); replace Ab := Am (blk_grown (g := Af) (o := .cells #[.int .i64 a0_0, .int .i64 a0_1, .slice Ep Ai.length Ed, .int .i64 a0_3, .int .i64 a0_4, .int .i64 a0_5, .int .i64 a0_6] 26 (0, 0)) (pK Ab.out) hg (Kd.N_ne Do.out Ab.out (by decide))); replace Ae := Am (blk_grown (g := Al) (o := .cells #[.int .i64 B5, .int .i64 B6, .slice none 0 0, .int .i64 B7, .int .i64 B8, .int .i64 B9, .int .i64 Ca] 26 (0, 0)) (pK Ae.out) hg (Kd.N_ne Do.out Ae.out (by decide))); replace HL384_5 := Am (Kd.V_afterv (ok := (fun k_ => ((P0_2_ k_ ∨ P1_ k_) ∨ w.heap.size ≤ k_) ∧ k_ ≠ Af ∧ k_ ≠ Al)) (pV HL384_5.out) hg hat); replace HL388_5 := Am (Kd.V_afterv (ok := (fun k_ => ((P0_2_ k_ ∨ P1_ k_) ∨ w.heap.size ≤ k_) ∧ k_ ≠ Af ∧ k_ ≠ Al)) (pV HL388_5.out) hg hat); replace Cd := Am (Kd.V_afterv (ok := (fun k_ => ((P0_2_ k_ ∨ P1_ k_) ∨ w.heap.size ≤ k_) ∧ k_ ≠ Af ∧ k_ ≠ Al)) (pV Cd.out) hg hat); replace Ey := Am (Kd.V_afterv (ok := (fun k_ => ((P0_2_ k_ ∨ P1_ k_) ∨ w.heap.size ≤ k_) ∧ k_ ≠ Af ∧ k_ ≠ Al)) (pV Ey.out) hg hat); replace HB := Am (hb); have E6 := Am (ho); clear Do ho hb hg hat; obtain ⟨Fs, Ft, F2⟩ := Kd.N_slice E6.out; subst F2; have hnb87 := Bz.out; have hnc87 := Bi.out; obtain ⟨_, _, _, _, _, _, _⟩ := bc7 Ab.out; obtain ⟨_, _, _, _, _, _, _⟩ := bf7 Ab.out; obtain ⟨_, _, _, _, _, _, _⟩ := bc7 Ae.out; obtain ⟨_, _, _, _, _, _, _⟩ := bf7 Ae.out))
       refine bodyPost_ret (results_ct rfl _ _ Al 26 #[.int .i64 a0_0, .int .i64 a0_1, .slice Fs y402.length Ft, .int .i64 a0_3, .int .i64 a0_4, .int .i64 a0_5, .int .i64 a0_6] (0, 0) _ rfl (kX1 Ae.out Bi.out) Try.underlying26 rfl (by kernel_rfl)) rfl ?_
       exact ⟨_, by first | rfl | (simp [errW_none, errW_some] <;> rfl) | (simp only [← hji58]; first | rfl | (simp [errW_none, errW_some] <;> rfl)) | (simp [*, errW_none, errW_some] <;> rfl), Kd.N_V (by (with_reducible repeat (first | apply Kd.N_alloc | apply Kd.N_drewN | apply Kd.N_drew)); exact Kd.N_mono (Nf7 (g := Al) (Kd.N_far (p := ⟨Af, 2, none⟩) (Kd.N_mono (Kd.N_mono E6.out (fun k_ hk => (⟨hk, hk.2.1⟩ : _ ∧ k_ ≠ Af))) (fun k_ hk => (⟨hk, hk.1.2.2⟩ : _ ∧ k_ ≠ Al))) (fun _ hk => hk.1.2) (.slice Fs y402.length Ft)) (fun _ hk => hk.2)) (fun _ hk => hk.1.1.1)), pE2 HB.out Ay.out Az.out⟩
end Go.Proofs.Ytmcijphmcobjlaa.PWalMakes
