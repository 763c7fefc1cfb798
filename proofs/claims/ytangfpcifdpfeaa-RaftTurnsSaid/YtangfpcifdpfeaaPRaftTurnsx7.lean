/- What the law reaches, as plain Lean functions, and that the machine's calls answer just that. -/
import Derived.Test.YtangfpcifdpfeaaPRaftTurnsx0
import Derived.Test.YtangfpcifdpfeaaPRaftTurnsx4
import Derived.Test.YtangfpcifdpfeaaPRaftTurnsx5
import Derived.Test.YtangfpcifdpfeaaPRaftTurnsx6
namespace Go.Proofs.Ytangfpcifdpfeaa.PRaftTurns
open Go.RowKit Go.Proofs.YtangfpcifdpfeaaW.PrintWords Go.Proofs.YtangfpcifdpfeaaW.PrintLast Go.Proofs.YtangfpcifdpfeaaW.PrintMore
attribute [local go_sem] max2_int min2_int max_two min_two max_three min_three max_four min_four
set_option linter.unusedVariables false
set_option linter.unusedSimpArgs false
attribute [local go_sem] wrap64_l1 wrap64_l2 wrap64_l3 wrap64_l4 wrap64_l5
mutual
def raft_Put.j0 : Nat → List (S55) → Int → Bool → Int → Int → List (S55) → Int → Int → Int → Int → Option (Int × Int × (List (S55)) × Int × Int × Int × Int × Int)
 | 0, _, _, _, _, _, _, _, _, _, _ => none
 | k + 1, x1, x6, x17, x160000, x160001, x160002, x160003, x160004, x160005, x160006 => if x17 = true then (some (0, 0, ([] : List (S55)), 0, 0, 0, 0, 1)) else (if 0 < (x1.length : Int) then (if ((rd_T55 x1 0).f0) ≤ x160000 then (some (0, 0, ([] : List (S55)), 0, 0, 0, 0, 4)) else (if ((rd_T55 x1 0).f0) > (wrap64 (x6 + 1)) then (some (0, 0, ([] : List (S55)), 0, 0, 0, 0, 5)) else ((raft_Term.f k x160000 x160001 x160002 x160003 x160004 x160005 x160006 (wrap64 (((rd_T55 x1 0).f0) - 1))).bind fun bt168 => (if ((rd_T55 x1 0).f1) < bt168.1 then (some (0, 0, ([] : List (S55)), 0, 0, 0, 0, 1)) else ((raft_owns.f k x160002).bind fun t171 => (raft_Put.l0 k x1 x6 0 x160000 x160001 t171 x160003 x160004 x160005 x160006)))))) else (none))
def raft_Put.j2 : Nat → List (S55) → Int → Int → Int → List (S55) → Int → Int → Int → Int → Option (Int × Int × (List (S55)) × Int × Int × Int × Int × Int)
 | 0, _, _, _, _, _, _, _, _, _ => none
 | k + 1, x1, x10, x160000, x160001, x160002, x160003, x160004, x160005, x160006 => if x10 = (x1.length : Int) then (some (x160000, x160001, x160002, x160003, x160004, x160005, x160006, 0)) else (if 0 ≤ x10 then (if x10 < (x1.length : Int) then (if ((rd_T55 x1 x10).f0) ≤ x160005 then (some (0, 0, ([] : List (S55)), 0, 0, 0, 0, 11)) else (if (wrap64 ((wrap64 ((wrap64 ((wrap64 (((rd_T55 x1 x10).f0) - x160000)) - 1)) + (x1.length : Int))) - x10)) > 1000 then (some (0, 0, ([] : List (S55)), 0, 0, 0, 0, 7)) else (if 0 ≤ (wrap64 ((wrap64 (((rd_T55 x1 x10).f0) - x160000)) - 1)) then (if (wrap64 ((wrap64 (((rd_T55 x1 x10).f0) - x160000)) - 1)) ≤ (x160002.length : Int) then ((some (x160002.take ((wrap64 ((wrap64 (((rd_T55 x1 x10).f0) - x160000)) - 1)) : Int).toNat : List (S55))).bind fun y180 => (if x10 ≤ (x1.length : Int) then ((raft_owns.f k (x1.drop (x10 : Int).toNat)).bind fun t187 => (if y180.length + t187.length < 1353245080339 then (some (x160000, x160001, (y180 ++ t187), x160003, x160004, x160005, x160006, 0)) else (none))) else (none))) else (none)) else (none)))) else (none)) else (none))
def raft_Put.l0 : Nat → List (S55) → Int → Int → Int → Int → List (S55) → Int → Int → Int → Int → Option (Int × Int × (List (S55)) × Int × Int × Int × Int × Int)
 | 0, _, _, _, _, _, _, _, _, _, _ => none
 | k + 1, x1, x6, x10, x160000, x160001, x160002, x160003, x160004, x160005, x160006 => if x10 < (x1.length : Int) then (if 0 ≤ x10 then (if ((rd_T55 x1 x10).f0) ≤ x6 then (if 0 ≤ (wrap64 ((wrap64 (((rd_T55 x1 x10).f0) - x160000)) - 1)) then (if (wrap64 ((wrap64 (((rd_T55 x1 x10).f0) - x160000)) - 1)) < (x160002.length : Int) then (if ((rd_T55 x160002 (wrap64 ((wrap64 (((rd_T55 x1 x10).f0) - x160000)) - 1))).f1) = ((rd_T55 x1 x10).f1) then (raft_Put.l0 k x1 x6 (wrap64 (x10 + 1)) x160000 x160001 x160002 x160003 x160004 x160005 x160006) else (raft_Put.j2 k x1 x10 x160000 x160001 x160002 x160003 x160004 x160005 x160006)) else (none)) else (none)) else (raft_Put.j2 k x1 x10 x160000 x160001 x160002 x160003 x160004 x160005 x160006)) else (none)) else (raft_Put.j2 k x1 x10 x160000 x160001 x160002 x160003 x160004 x160005 x160006)
end
def raft_Put.f (k : Nat) (a0_0 : Int) (a0_1 : Int) (l0_2 : List (S55)) (a0_3 : Int) (a0_4 : Int) (a0_5 : Int) (a0_6 : Int) (l1 : List (S55)) : Option (Int × Int × (List (S55)) × Int × Int × Int × Int × Int) := (raft_Last.f k a0_0 a0_1 l0_2 a0_3 a0_4 a0_5 a0_6).bind fun bt161 => ((raft_Check.f k a0_0 a0_1 l0_2 a0_3 a0_4 a0_5 a0_6).bind fun t163 => (if t163 = 0 then (if (l1.length : Int) = 0 then (raft_Put.j0 k l1 bt161.1 true a0_0 a0_1 l0_2 a0_3 a0_4 a0_5 a0_6) else ((raft_rows.f k l1).bind fun t164 => (raft_Put.j0 k l1 bt161.1 (!t164) a0_0 a0_1 l0_2 a0_3 a0_4 a0_5 a0_6))) else (raft_Put.j0 k l1 bt161.1 true a0_0 a0_1 l0_2 a0_3 a0_4 a0_5 a0_6)))
theorem raft_Put.mono_l : ∀ k, (∀ y0 y1 y2 y3 y4 y5 y6 y7 y8 y9, LeO (raft_Put.j0 k y0 y1 y2 y3 y4 y5 y6 y7 y8 y9) (raft_Put.j0 (k + 1) y0 y1 y2 y3 y4 y5 y6 y7 y8 y9)) ∧ (∀ y0 y1 y2 y3 y4 y5 y6 y7 y8, LeO (raft_Put.j2 k y0 y1 y2 y3 y4 y5 y6 y7 y8) (raft_Put.j2 (k + 1) y0 y1 y2 y3 y4 y5 y6 y7 y8)) ∧ (∀ y0 y1 y2 y3 y4 y5 y6 y7 y8 y9, LeO (raft_Put.l0 k y0 y1 y2 y3 y4 y5 y6 y7 y8 y9) (raft_Put.l0 (k + 1) y0 y1 y2 y3 y4 y5 y6 y7 y8 y9))
 | 0 => ⟨fun _ _ _ _ _ _ _ _ _ _ r h => by simp [raft_Put.j0] at h, fun _ _ _ _ _ _ _ _ _ r h => by simp [raft_Put.j2] at h, fun _ _ _ _ _ _ _ _ _ _ r h => by simp [raft_Put.l0] at h⟩
 | k + 1 => by
  obtain ⟨ih0, ih1, ih2⟩ := raft_Put.mono_l k
  refine ⟨?_, ?_, ?_⟩
  ·intro y0 y1 y2 y3 y4 y5 y6 y7 y8 y9
   unfold raft_Put.j0
   repeat' first
   | (with_reducible exact ih0 _ _ _ _ _ _ _ _ _ _)
   | (with_reducible exact ih1 _ _ _ _ _ _ _ _ _)
   | (with_reducible exact ih2 _ _ _ _ _ _ _ _ _ _)
   | (with_reducible exact raft_Check.mono _ _ _ _ _ _ _ _)
   | (with_reducible exact raft_Last.mono _ _ _ _ _ _ _ _)
   | (with_reducible exact raft_Term.mono _ _ _ _ _ _ _ _ _)
   | (with_reducible exact raft_owns.mono _ _)
   | (with_reducible exact raft_rows.mono _ _)
   | (with_reducible exact LeO.refl _)
   | (with_reducible exact LeO.none _)
   | (with_reducible refine LeO.ite ?_ ?_)
   | (with_reducible refine LeO.bind ?_ (fun _ => ?_))
   | exact ih0 _ _ _ _ _ _ _ _ _ _
   | exact ih1 _ _ _ _ _ _ _ _ _
   | exact ih2 _ _ _ _ _ _ _ _ _ _
   | exact raft_Check.mono _ _ _ _ _ _ _ _
   | exact raft_Last.mono _ _ _ _ _ _ _ _
   | exact raft_Term.mono _ _ _ _ _ _ _ _ _
   | exact raft_owns.mono _ _
   | exact raft_rows.mono _ _
   | exact LeO.none _
   | refine LeO.ite ?_ ?_
   | refine LeO.bind ?_ (fun _ => ?_)
  ·intro y0 y1 y2 y3 y4 y5 y6 y7 y8
   unfold raft_Put.j2
   repeat' first
   | (with_reducible exact ih0 _ _ _ _ _ _ _ _ _ _)
   | (with_reducible exact ih1 _ _ _ _ _ _ _ _ _)
   | (with_reducible exact ih2 _ _ _ _ _ _ _ _ _ _)
   | (with_reducible exact raft_Check.mono _ _ _ _ _ _ _ _)
   | (with_reducible exact raft_Last.mono _ _ _ _ _ _ _ _)
   | (with_reducible exact raft_Term.mono _ _ _ _ _ _ _ _ _)
   | (with_reducible exact raft_owns.mono _ _)
   | (with_reducible exact raft_rows.mono _ _)
   | (with_reducible exact LeO.refl _)
   | (with_reducible exact LeO.none _)
   | (with_reducible refine LeO.ite ?_ ?_)
   | (with_reducible refine LeO.bind ?_ (fun _ => ?_))
   | exact ih0 _ _ _ _ _ _ _ _ _ _
   | exact ih1 _ _ _ _ _ _ _ _ _
   | exact ih2 _ _ _ _ _ _ _ _ _ _
   | exact raft_Check.mono _ _ _ _ _ _ _ _
   | exact raft_Last.mono _ _ _ _ _ _ _ _
   | exact raft_Term.mono _ _ _ _ _ _ _ _ _
   | exact raft_owns.mono _ _
   | exact raft_rows.mono _ _
   | exact LeO.none _
   | refine LeO.ite ?_ ?_
   | refine LeO.bind ?_ (fun _ => ?_)
  ·intro y0 y1 y2 y3 y4 y5 y6 y7 y8 y9
   unfold raft_Put.l0
   repeat' first
   | (with_reducible exact ih0 _ _ _ _ _ _ _ _ _ _)
   | (with_reducible exact ih1 _ _ _ _ _ _ _ _ _)
   | (with_reducible exact ih2 _ _ _ _ _ _ _ _ _ _)
   | (with_reducible exact raft_Check.mono _ _ _ _ _ _ _ _)
   | (with_reducible exact raft_Last.mono _ _ _ _ _ _ _ _)
   | (with_reducible exact raft_Term.mono _ _ _ _ _ _ _ _ _)
   | (with_reducible exact raft_owns.mono _ _)
   | (with_reducible exact raft_rows.mono _ _)
   | (with_reducible exact LeO.refl _)
   | (with_reducible exact LeO.none _)
   | (with_reducible refine LeO.ite ?_ ?_)
   | (with_reducible refine LeO.bind ?_ (fun _ => ?_))
   | exact ih0 _ _ _ _ _ _ _ _ _ _
   | exact ih1 _ _ _ _ _ _ _ _ _
   | exact ih2 _ _ _ _ _ _ _ _ _ _
   | exact raft_Check.mono _ _ _ _ _ _ _ _
   | exact raft_Last.mono _ _ _ _ _ _ _ _
   | exact raft_Term.mono _ _ _ _ _ _ _ _ _
   | exact raft_owns.mono _ _
   | exact raft_rows.mono _ _
   | exact LeO.none _
   | refine LeO.ite ?_ ?_
   | refine LeO.bind ?_ (fun _ => ?_)
theorem raft_Put.mono : ∀ a0 a1 a2 a3 a4 a5 a6 a7 k, LeO (raft_Put.f k a0 a1 a2 a3 a4 a5 a6 a7) (raft_Put.f (k + 1) a0 a1 a2 a3 a4 a5 a6 a7) := by
 intro a0 a1 a2 a3 a4 a5 a6 a7 k
 obtain ⟨ih0, ih1, ih2⟩ := raft_Put.mono_l k
 unfold raft_Put.f
 repeat' first
   | (with_reducible exact ih0 _ _ _ _ _ _ _ _ _ _)
   | (with_reducible exact ih1 _ _ _ _ _ _ _ _ _)
   | (with_reducible exact ih2 _ _ _ _ _ _ _ _ _ _)
   | (with_reducible exact raft_Check.mono _ _ _ _ _ _ _ _)
   | (with_reducible exact raft_Last.mono _ _ _ _ _ _ _ _)
   | (with_reducible exact raft_Term.mono _ _ _ _ _ _ _ _ _)
   | (with_reducible exact raft_owns.mono _ _)
   | (with_reducible exact raft_rows.mono _ _)
   | (with_reducible exact LeO.refl _)
   | (with_reducible exact LeO.none _)
   | (with_reducible refine LeO.ite ?_ ?_)
   | (with_reducible refine LeO.bind ?_ (fun _ => ?_))
   | exact ih0 _ _ _ _ _ _ _ _ _ _
   | exact ih1 _ _ _ _ _ _ _ _ _
   | exact ih2 _ _ _ _ _ _ _ _ _ _
   | exact raft_Check.mono _ _ _ _ _ _ _ _
   | exact raft_Last.mono _ _ _ _ _ _ _ _
   | exact raft_Term.mono _ _ _ _ _ _ _ _ _
   | exact raft_owns.mono _ _
   | exact raft_rows.mono _ _
   | exact LeO.none _
   | refine LeO.ite ?_ ?_
   | refine LeO.bind ?_ (fun _ => ?_)
def raft_Put.T4 : Bool × List (List Nat × List Nat) := (true, [([], []), ([0], [0]), ([1], [1]), ([2], [2]), ([], []), ([4], [4]), ([3, 5], [3, 5]), ([6], [6])])
def raft_Put.B4 : List Nat := [0, 1, 3, 7, 0, 16, 63, 127]
theorem raft_Put.tab4 : rtab .any (opsOf Try.f18 4) = raft_Put.T4 := by kernel_rfl
theorem raft_Put.bits4 : waitsOk raft_Put.T4.2 raft_Put.B4 = true := by kernel_rfl
def raft_Put.T8 : Bool × List (List Nat × List Nat) := (true, [([], []), ([], []), ([1], [1]), ([2], [2]), ([3], [3]), ([4], [4]), ([0, 5], [0, 5]), ([6], [6]), ([7], [7]), ([7], [7]), ([8, 6, 0, 1, 2, 3, 4, 5, 6, 7, 8], [8]), ([9, 10, 0, 1, 2, 3, 4, 5, 6, 7, 8, 9, 10], [9])])
def raft_Put.B8 : List Nat := [0, 0, 2, 6, 14, 30, 63, 127, 255, 255, 511, 2047]
theorem raft_Put.tab8 : rtab .any (opsOf Try.f18 8) = raft_Put.T8 := by kernel_rfl
theorem raft_Put.bits8 : waitsOk raft_Put.T8.2 raft_Put.B8 = true := by kernel_rfl
def raft_Put.T13 : Bool × List (List Nat × List Nat) := (true, [([], []), ([], []), ([1], [1]), ([0, 2], [0, 2]), ([3], [3]), ([4], [4]), ([4], [4]), ([5, 6, 4], [4, 5, 6]), ([7, 4], [4, 7]), ([8, 4], [4, 8]), ([4], [4]), ([9, 10, 4], [4, 9, 10]), ([4, 11], [4, 11]), ([12, 4], [12]), ([13], [13]), ([14, 13], [13, 14]), ([13], [13]), ([13], [13]), ([16, 17, 13], [13, 16, 17]), ([18, 13], [13, 18]), ([19, 13], [13, 19]), ([13], [13]), ([21, 13], [13, 21]), ([20, 22, 13], [13, 20, 22]), ([23, 13], [13, 23]), ([15, 24, 13], [13, 15, 24]), ([25, 13], [13, 25]), ([26, 13], [13, 26]), ([13], [13]), ([13], [13]), ([28, 29, 13], [13, 28, 29]), ([30, 13], [13, 30]), ([31, 13], [13, 31]), ([27, 32, 13], [13, 27, 32]), ([13, 33], [13, 33])])
def raft_Put.B13 : List Nat := [0, 0, 2, 7, 15, 31, 31, 127, 255, 511, 31, 2047, 4095, 8191, 16383, 32767, 16383, 16383, 212991, 475135, 999423, 16383, 2113535, 8339455, 16728063, 33554431, 67108863, 134217727, 16383, 16383, 805322751, 1879064575, 4026548223, 8589934591, 17179869183]
theorem raft_Put.tab13 : rtab .any (opsOf Try.f18 13) = raft_Put.T13 := by kernel_rfl
theorem raft_Put.bits13 : waitsOk raft_Put.T13.2 raft_Put.B13 = true := by kernel_rfl
def raft_Put.T17 : Bool × List (List Nat × List Nat) := (true, [([], []), ([], []), ([0, 1], [0, 1]), ([2], [2]), ([3], [3]), ([], []), ([5], [5]), ([4, 6], [4, 6]), ([7], [7]), ([8, 0, 1, 2, 3, 4, 5, 6, 7, 8], [8])])
def raft_Put.B17 : List Nat := [0, 0, 3, 7, 15, 0, 32, 127, 255, 511]
theorem raft_Put.tab17 : rtab .any (opsOf Try.f18 17) = raft_Put.T17 := by kernel_rfl
theorem raft_Put.bits17 : waitsOk raft_Put.T17.2 raft_Put.B17 = true := by kernel_rfl
def raft_Put.T18 : Bool × List (List Nat × List Nat) := (true, [([], []), ([], []), ([0, 1], [0, 1]), ([2], [2]), ([3], [3]), ([], []), ([5], [5]), ([6], [6]), ([4, 7], [4, 7]), ([8], [8])])
def raft_Put.B18 : List Nat := [0, 0, 3, 7, 15, 0, 32, 96, 255, 511]
theorem raft_Put.tab18 : rtab .any (opsOf Try.f18 18) = raft_Put.T18 := by kernel_rfl
theorem raft_Put.bits18 : waitsOk raft_Put.T18.2 raft_Put.B18 = true := by kernel_rfl
def raft_Put.T22 : Bool × List (List Nat × List Nat) := (true, [([], []), ([0], [0]), ([], []), ([1, 2], [1, 2]), ([], []), ([], []), ([4, 5], [4, 5]), ([6], [6]), ([3, 7, 7], [3, 7]), ([0, 1, 2, 3, 4, 5, 6, 7, 8], []), ([9, 8, 8, 0, 1, 2, 3, 4, 5, 6, 7, 8], [8, 9])])
def raft_Put.B22 : List Nat := [0, 1, 0, 7, 0, 0, 48, 112, 255, 511, 1023]
theorem raft_Put.tab22 : rtab .any (opsOf Try.f18 22) = raft_Put.T22 := by kernel_rfl
theorem raft_Put.bits22 : waitsOk raft_Put.T22.2 raft_Put.B22 = true := by kernel_rfl
set_option maxHeartbeats 8000000 in
set_option maxRecDepth 100000 in
theorem raft_Put.calls (k : Nat) (a0_0 : Int) (a0_1 : Int) (A0_2 : Option Addr) (c0_2 : Nat) (l0_2 : List (S55)) (a0_3 : Int) (a0_4 : Int) (a0_5 : Int) (a0_6 : Int) (A1 : Option Addr) (c1 : Nat) (l1 : List (S55)) (r1 : Int) (r2 : Int) (r3 : List (S55)) (r4 : Int) (r5 : Int) (r6 : Int) (r7 : Int) (r8 : Int) (w : World) (hr0_2 : Kd.C k55 w A0_2 l0_2.length l0_2) (hc0_2 : l0_2.length ≤ c0_2) (hr1 : Kd.C k55 w A1 l1.length l1) (hc1 : l1.length ≤ c1) (h : raft_Put.f k a0_0 a0_1 l0_2 a0_3 a0_4 a0_5 a0_6 l1 = some (r1, r2, r3, r4, r5, r6, r7, r8)) :
  Calls Try.prog 18 #[.agg #[.int .i64 a0_0, .int .i64 a0_1, .slice A0_2 l0_2.length c0_2, .int .i64 a0_3, .int .i64 a0_4, .int .i64 a0_5, .int .i64 a0_6], .slice A1 l1.length c1] w fun e w' => ∃ v2_ : Value, e = .returned (.tuple #[.agg #[.int .i64 r1, .int .i64 r2, v2_, .int .i64 r4, .int .i64 r5, .int .i64 r6, .int .i64 r7], .int .i64 r8]) ∧ Kd.N k55 55 w' w.heap.size (fun k_ => (w.heap.size ≤ k_)) v2_ r3 ∧ Below w.heap.size w w' := by
 have hu26 := Try.underlying26
 have Fc := Am hr0_2
 have Fd := Am hc0_2
 clear hr0_2 hc0_2
 have HR1 := Am hr1
 have HC1 := Am hc1
 clear hr1 hc1
 have HB := Am (Below.refl w.heap.size w)
 have H : ((raft_Last.f k a0_0 a0_1 l0_2 a0_3 a0_4 a0_5 a0_6).bind fun bt161 => ((raft_Check.f k a0_0 a0_1 l0_2 a0_3 a0_4 a0_5 a0_6).bind fun t163 => (if t163 = 0 then (if (l1.length : Int) = 0 then (raft_Put.j0 k l1 bt161.1 true a0_0 a0_1 l0_2 a0_3 a0_4 a0_5 a0_6) else ((raft_rows.f k l1).bind fun t164 => (raft_Put.j0 k l1 bt161.1 (!t164) a0_0 a0_1 l0_2 a0_3 a0_4 a0_5 a0_6))) else (raft_Put.j0 k l1 bt161.1 true a0_0 a0_1 l0_2 a0_3 a0_4 a0_5 a0_6)))) = some (r1, r2, r3, r4, r5, r6, r7, r8) := h
 clear h
 replace H := Option.bind_eq_some_iff.mp H
 obtain ⟨⟨t161, t162⟩, A30, H⟩ := H
 replace H : ((raft_Check.f k a0_0 a0_1 l0_2 a0_3 a0_4 a0_5 a0_6).bind fun t163 => (if t163 = 0 then (if (l1.length : Int) = 0 then (raft_Put.j0 k l1 t161 true a0_0 a0_1 l0_2 a0_3 a0_4 a0_5 a0_6) else ((raft_rows.f k l1).bind fun t164 => (raft_Put.j0 k l1 t161 (!t164) a0_0 a0_1 l0_2 a0_3 a0_4 a0_5 a0_6))) else (raft_Put.j0 k l1 t161 true a0_0 a0_1 l0_2 a0_3 a0_4 a0_5 a0_6))) = some (r1, r2, r3, r4, r5, r6, r7, r8) := H
 have A3 := Am A30
 clear A30
 have HC4 := Am H
 clear H
 go_enter Try.func18, Try.ntmps18
 go_upto_region 2 with (first | ((with_reducible refine gate_dst (N := 2) rfl ?_); (try (refine gate_guard (by rfl) ?_; dsimp only)); refine box_event ?hg (N := 2) ?hd (cs := #[.int .i64 a0_0, .int .i64 a0_1, .slice A0_2 l0_2.length c0_2, .int .i64 a0_3, .int .i64 a0_4, .int .i64 a0_5, .int .i64 a0_6]) (t := 26) ?hr ?_; (case hd => rfl); (case hg => rfl); (case hr => first | (go_simp; done) | (go_simp; rfl)); intro Ad hg w5 hbox hb; have Aa := Am (hbox); have Kj := Am ((by rw [hg]; exact (below_size (pB HB.out)) : w.heap.size ≤ Ad)); replace HB := Am (below_step (pB HB.out) hb); have Au := Kj; clear hb hbox hg) | ((with_reducible refine gate_dst (N := 4) rfl ?_); (try (refine gate_guard (by rfl) ?_; dsimp only)); refine box_event ?hg (N := 4) ?hd (cs := #[.int .i64 0, .int .i64 0, .slice none 0 0, .int .i64 0, .int .i64 0, .int .i64 0, .int .i64 0]) (t := 26) ?hr ?_; (case hd => rfl); (case hg => rfl); (case hr => first | (go_simp; done) | (go_simp; rfl)); intro Bj hg w6 hbox hb; have Ae := Am (hbox); have Kk := Am ((by rw [hg]; exact (below_size (pE HB.out Au.out)) : w.heap.size ≤ Bj)); replace HB := Am (below_step (pE HB.out Au.out) hb); have A8 := Kk; have Av := Am ((by rw [hg]; exact Nat.ne_of_lt (kL Aa.out) : Ad ≠ Bj)); have At := Am ((by rw [hg]; exact Nat.ne_of_gt (kL Aa.out) : Bj ≠ Ad)); replace Aa := kBa Aa hb; clear hb hbox hg; have hnb7 := Av.out; have hnc7 := At.out; obtain ⟨Ju, Jv, Jw, Jx, Jy, Jz, J0⟩ := bc7 Aa.out; obtain ⟨J1, J2, J3, J4, J5, J6, J7⟩ := bf7 Aa.out) | ((with_reducible refine gate_callee (f := 20) rfl ?_); refine goesL_ (some 14) rfl rfl Try.func20 (by kernel_rfl) rfl #[.agg #[.int .i64 a0_0, .int .i64 a0_1, .slice A0_2 l0_2.length c0_2, .int .i64 a0_3, .int .i64 a0_4, .int .i64 a0_5, .int .i64 a0_6]] rfl pL ?_; (with_reducible refine (raft_Last.calls k a0_0 a0_1 _ _ l0_2 a0_3 a0_4 a0_5 a0_6 t161 t162 _ ?Bx ?By A3.out).mono ?_); (case Bx => exact pC (Kd.C_below Fc.out HB.out)); (case By => exact Fd.out); rintro e w9 ⟨rfl, hb⟩; refine ⟨_, rfl, ?_⟩; replace Aa := kBa Aa hb; replace Ae := kBa Ae hb; replace HB := Am (below_step (pE2 HB.out Au.out A8.out) hb); (try clear hb); (try clear hb2); (try clear hk); (try clear hi)))
 (try simp only [Act.put, List.setIfInBounds_toArray, List.set_cons_zero, List.set_cons_succ])
 go_cut [17] (fun v17 wc => ∃ (kq : Nat) (Fz : Bool), v17 = .bool Fz ∧ Aside0 (raft_Put.j0 kq l1 t161 Fz a0_0 a0_1 l0_2 a0_3 a0_4 a0_5 a0_6 = some (r1, r2, r3, r4, r5, r6, r7, r8)) ∧ Aside0 (kq ≤ k) ∧ Aside0 (wc.heap[Ad]? = some (.cells #[.int .i64 a0_0, .int .i64 a0_1, (.slice A0_2 l0_2.length c0_2), .int .i64 a0_3, .int .i64 a0_4, .int .i64 a0_5, .int .i64 a0_6] 26 (0, 0))) ∧ Aside0 (wc.heap[Bj]? = some (.cells #[.int .i64 0, .int .i64 0, (.slice none 0 0), .int .i64 0, .int .i64 0, .int .i64 0, .int .i64 0] 26 (0, 0))) ∧ Aside0 (Below w.heap.size w wc))
 case first =>
  have H := HC4.out
  clear HC4
  replace H := Option.bind_eq_some_iff.mp H
  obtain ⟨t163, A100, H⟩ := H
  replace H : (if t163 = 0 then (if (l1.length : Int) = 0 then (raft_Put.j0 k l1 t161 true a0_0 a0_1 l0_2 a0_3 a0_4 a0_5 a0_6) else ((raft_rows.f k l1).bind fun t164 => (raft_Put.j0 k l1 t161 (!t164) a0_0 a0_1 l0_2 a0_3 a0_4 a0_5 a0_6))) else (raft_Put.j0 k l1 t161 true a0_0 a0_1 l0_2 a0_3 a0_4 a0_5 a0_6)) = some (r1, r2, r3, r4, r5, r6, r7, r8) := H
  have A10 := Am A100
  clear A100
  by_cases c11 : t163 = 0
  rotate_left
  ·rw [if_neg c11] at H
   have c11b0 : (t163 == 0) = false := beq_eq_false_iff_ne.mpr c11
   have c11b1 : (t163 != 0) = true := bne_iff_ne.mpr c11
   (first | rw [c11b0] | (simp only [i64_w, i32_w]; rw [c11b0]) | skip)
   have H' := Am H
   clear H
   have hnb21 := Av.out
   have hnc21 := At.out
   obtain ⟨Hf, Hg, Hh, Hi, Hj, Hk, Hl⟩ := bc7 Aa.out
   obtain ⟨Hm, Hn, Ho, Hp, Hq, Hr, Hs⟩ := bf7 Aa.out
   go_wp2_with (first | ((with_reducible refine gate_callee (f := 21) rfl ?_); refine goesL_ (some 19) rfl rfl Try.func21 (by kernel_rfl) rfl #[.agg #[.int .i64 a0_0, .int .i64 a0_1, .slice A0_2 l0_2.length c0_2, .int .i64 a0_3, .int .i64 a0_4, .int .i64 a0_5, .int .i64 a0_6]] rfl pL ?_; (with_reducible refine (raft_Check.calls k a0_0 a0_1 _ _ l0_2 a0_3 a0_4 a0_5 a0_6 t163 _ ?Bx ?By A10.out).mono ?_); (case Bx => exact pC (Kd.C_below Fc.out HB.out)); (case By => exact Fd.out); rintro e w23 ⟨rfl, hb⟩; refine ⟨_, rfl, ?_⟩; replace Aa := kBa Aa hb; replace Ae := kBa Ae hb; replace HB := Am (below_step (pE2 HB.out Au.out A8.out) hb); (try clear hb); (try clear hb2); (try clear hk); (try clear hi)))
   go_meet
   case rel => exact ⟨_, (true), (by first | rfl | (simp; done) | (simp [*]; done)), H', ⟨by first | omega | exact Nat.le_refl _⟩, ⟨pK Aa.out⟩, ⟨pK Ae.out⟩, ⟨pE2 HB.out Au.out A8.out⟩⟩
  rw [if_pos c11] at H
  have c11b0 : (t163 == 0) = true := beq_iff_eq.mpr c11
  have c11b1 : (t163 != 0) = false := bne_eq_false_iff_eq.mpr c11
  clear c11
  (first | rw [c11b0] | (simp only [i64_w, i32_w]; rw [c11b0]) | skip)
  by_cases c12 : (l1.length : Int) = 0
  ·rw [if_pos c12] at H
   have c12b0 : ((l1.length : Int) == 0) = true := beq_iff_eq.mpr c12
   have c12b1 : ((l1.length : Int) != 0) = false := bne_eq_false_iff_eq.mpr c12
   clear c12
   have H' := Am H
   clear H
   have hnb13 := Av.out
   have hnc13 := At.out
   obtain ⟨Gn, Go, Gp, Gq, Gr, Gs, Gt⟩ := bc7 Aa.out
   obtain ⟨Gu, Gv, Gw, Gx, Gy, Gz, G0⟩ := bf7 Aa.out
   go_wp2_with (first | ((with_reducible refine gate_callee (f := 21) rfl ?_); refine goesL_ (some 19) rfl rfl Try.func21 (by kernel_rfl) rfl #[.agg #[.int .i64 a0_0, .int .i64 a0_1, .slice A0_2 l0_2.length c0_2, .int .i64 a0_3, .int .i64 a0_4, .int .i64 a0_5, .int .i64 a0_6]] rfl pL ?_; (with_reducible refine (raft_Check.calls k a0_0 a0_1 _ _ l0_2 a0_3 a0_4 a0_5 a0_6 t163 _ ?Bx ?By A10.out).mono ?_); (case Bx => exact pC (Kd.C_below Fc.out HB.out)); (case By => exact Fd.out); rintro e w15 ⟨rfl, hb⟩; refine ⟨_, rfl, ?_⟩; replace Aa := kBa Aa hb; replace Ae := kBa Ae hb; replace HB := Am (below_step (pE2 HB.out Au.out A8.out) hb); (try clear hb); (try clear hb2); (try clear hk); (try clear hi)))
   go_meet
   case rel => exact ⟨_, (true), (by first | rfl | (simp; done) | (simp [*]; done)), H', ⟨by first | omega | exact Nat.le_refl _⟩, ⟨pK Aa.out⟩, ⟨pK Ae.out⟩, ⟨pE2 HB.out Au.out A8.out⟩⟩
  rw [if_neg c12] at H
  have c12b0 : ((l1.length : Int) == 0) = false := beq_eq_false_iff_ne.mpr c12
  have c12b1 : ((l1.length : Int) != 0) = true := bne_iff_ne.mpr c12
  have c12b2 : ¬ (l1 = []) := fun h_ => c12 (by rw [h_]; rfl)
  replace H := Option.bind_eq_some_iff.mp H
  obtain ⟨t164, A160, H⟩ := H
  replace H : (raft_Put.j0 k l1 t161 (!t164) a0_0 a0_1 l0_2 a0_3 a0_4 a0_5 a0_6) = some (r1, r2, r3, r4, r5, r6, r7, r8) := H
  have A16 := Am A160
  clear A160
  have H' := Am H
  clear H
  have hnb17 := Av.out
  have hnc17 := At.out
  obtain ⟨G1, G2, G3, G4, G5, G6, G7⟩ := bc7 Aa.out
  obtain ⟨G8, G9, Ha, Hb, Hc, Hd, He⟩ := bf7 Aa.out
  go_wp2_with (first | ((with_reducible refine gate_callee (f := 21) rfl ?_); refine goesL_ (some 19) rfl rfl Try.func21 (by kernel_rfl) rfl #[.agg #[.int .i64 a0_0, .int .i64 a0_1, .slice A0_2 l0_2.length c0_2, .int .i64 a0_3, .int .i64 a0_4, .int .i64 a0_5, .int .i64 a0_6]] rfl pL ?_; (with_reducible refine (raft_Check.calls k a0_0 a0_1 _ _ l0_2 a0_3 a0_4 a0_5 a0_6 t163 _ ?Bx ?By A10.out).mono ?_); (case Bx => exact pC (Kd.C_below Fc.out HB.out)); (case By => exact Fd.out); rintro e w19 ⟨rfl, hb⟩; refine ⟨_, rfl, ?_⟩; replace Aa := kBa Aa hb; replace Ae := kBa Ae hb; replace HB := Am (below_step (pE2 HB.out Au.out A8.out) hb); (try clear hb); (try clear hb2); (try clear hk); (try clear hi)) | (go_at_call 34; (with_reducible refine (raft_rows.calls k _ _ l1 t164 _ ?Bx ?By A16.out).mono ?_); (case Bx => exact pC (Kd.C_below HR1.out HB.out)); (case By => exact HC1.out); rintro e w20 ⟨rfl, hb⟩; replace Aa := kBa Aa hb; replace Ae := kBa Ae hb; replace HB := Am (below_step (pE2 HB.out Au.out A8.out) hb); (try clear hb); (try clear hb2); (try clear hk); (try clear hi)))
  go_meet
  case rel => exact ⟨_, (!t164), (by first | rfl | (simp; done) | (simp [*]; done)), H', ⟨by first | omega | exact Nat.le_refl _⟩, ⟨pK Aa.out⟩, ⟨pK Ae.out⟩, ⟨pE2 HB.out Au.out A8.out⟩⟩
 case rest =>
  clear HC4
  try clear c1
  try clear c2
  try clear p2
  try clear c7
  try clear c11
  try clear c11b0
  try clear c11b1
  try clear c12
  try clear c12b0
  try clear c12b1
  try clear c12b2
  try clear c13
  try clear c17
  try clear c18
  try clear c20
  try clear c21
  try clear Gn Go Gp Gq Gr Gs Gt
  try clear G1 G2 G3 G4 G5 G6 G7
  try clear Hf Hg Hh Hi Hj Hk Hl
  try clear Ju Jv Jw Jx Jy Jz J0
  try clear Gu Gv Gw Gx Gy Gz G0
  try clear G8 G9 Ha Hb Hc Hd He
  try clear Hm Hn Ho Hp Hq Hr Hs
  try clear J1 J2 J3 J4 J5 J6 J7
  obtain ⟨kq, Fz, rfl, HA, HJ3, Aa, Ae, HB⟩ := hcut
  cases kq with
  | zero => exact absurd HA.out (by simp [raft_Put.j0])
  | succ kj3 =>
   have H := HA.out
   clear HA
   simp only [raft_Put.j0] at H
   by_cases c24 : Fz = true
   ·subst c24
    have H1 : (some (0, 0, ([] : List (S55)), 0, 0, 0, 0, 1)) = some (r1, r2, r3, r4, r5, r6, r7, r8) := by rw [if_pos rfl] at H; exact H
    clear H
    have H := H1
    clear H1
    simp only [Option.some.injEq, Prod.mk.injEq] at H
    obtain ⟨rfl, rfl, rfl, rfl, rfl, rfl, rfl, rfl⟩ := H
    have hnb25 := At.out
    have hnc25 := Av.out
    obtain ⟨_, _, _, _, _, _, _⟩ := bc7 Ae.out
    obtain ⟨_, _, _, _, _, _, _⟩ := bf7 Ae.out
    go_wp2
    refine bodyPost_ret (results_ct rfl _ _ Bj 26 #[.int .i64 0, .int .i64 0, .slice none 0 0, .int .i64 0, .int .i64 0, .int .i64 0, .int .i64 0] (0, 0) _ rfl (kX0 Ae.out) Try.underlying26 rfl (by kernel_rfl)) rfl ?_
    exact ⟨_, pX, by first | exact Kd.S_nil _ _ _ _ _ | exact Kd.N_nil _ _ _ _ _ | exact Kd.V_nil _ _ _ _ _ | exact Kd.Q_nil _ _ _ _ _ | exact Kd.R_nil _ _ _ _ _, pE2 HB.out Au.out A8.out⟩
   replace c24 := Bool.eq_false_iff.mpr c24
   subst c24
   have H1 : (if 0 < (l1.length : Int) then (if ((rd_T55 l1 0).f0) ≤ a0_0 then (some (0, 0, ([] : List (S55)), 0, 0, 0, 0, 4)) else (if ((rd_T55 l1 0).f0) > (wrap64 (t161 + 1)) then (some (0, 0, ([] : List (S55)), 0, 0, 0, 0, 5)) else ((raft_Term.f kj3 a0_0 a0_1 l0_2 a0_3 a0_4 a0_5 a0_6 (wrap64 (((rd_T55 l1 0).f0) - 1))).bind fun bt168 => (if ((rd_T55 l1 0).f1) < bt168.1 then (some (0, 0, ([] : List (S55)), 0, 0, 0, 0, 1)) else ((raft_owns.f kj3 l0_2).bind fun t171 => (raft_Put.l0 kj3 l1 t161 0 a0_0 a0_1 t171 a0_3 a0_4 a0_5 a0_6)))))) else (none)) = some (r1, r2, r3, r4, r5, r6, r7, r8) := by rw [if_neg (show ¬ (false = true) by decide)] at H; exact H
   clear H
   have H := H1
   clear H1
   by_cases c27 : 0 < (l1.length : Int)
   rotate_left
   ·rw [if_neg c27] at H
    exact absurd H (by simp)
   rw [if_pos c27] at H
   have c27b0 : decide (0 < (l1.length : Int)) = true := decide_eq_true c27
   have c27b1 : decide (0 < l1.length) = true := decide_eq_true (by omega)
   clear c27
   by_cases c28 : ((rd_T55 l1 0).f0) ≤ a0_0
   ·rw [if_pos c28] at H
    have c28b0 : decide (((rd_T55 l1 0).f0) ≤ a0_0) = true := decide_eq_true c28
    clear c28
    simp only [Option.some.injEq, Prod.mk.injEq] at H
    obtain ⟨rfl, rfl, rfl, rfl, rfl, rfl, rfl, rfl⟩ := H
    try go_wp2
    replace Aa := kDa Aa
    replace Ae := kDa Ae
    replace HB := bDa HB
    have p165 : 0 ≤ (0 : Int) := (by omega)
    have q165 : 0 < (l1.length : Int) := of_decide_eq_true pS
    obtain ⟨Ac, Dj, c165_5, e165, Ai, Aj, Ak, Al, An, Ah, Ao, Ap, Aq, Ar, Bl, Bm⟩ := at_T55 HR1.out 0 p165 q165
    have Aw := Ar
    (try rw [tz] at Aw)
    (try rw [show 0 * 10 = 0 from rfl] at Aw)
    (try rw [Addr.add_zero'] at Aw)
    have Ax := Aq
    (try rw [tz] at Ax)
    (try rw [show 0 * 10 = 0 from rfl] at Ax)
    (try rw [Addr.add_zero'] at Ax)
    have Ay := Ap
    (try rw [tz] at Ay)
    (try rw [show 0 * 10 = 0 from rfl] at Ay)
    (try rw [Addr.add_zero'] at Ay)
    have Az := Ao
    (try rw [tz] at Az)
    (try rw [show 0 * 10 = 0 from rfl] at Az)
    (try rw [Addr.add_zero'] at Az)
    have A0 := Ah
    (try rw [tz] at A0)
    (try rw [show 0 * 10 = 0 from rfl] at A0)
    (try rw [Addr.add_zero'] at A0)
    have A2 := An
    (try rw [tz] at A2)
    (try rw [show 0 * 10 = 0 from rfl] at A2)
    (try rw [Addr.add_zero'] at A2)
    have A4 := Al
    (try rw [tz] at A4)
    (try rw [show 0 * 10 = 0 from rfl] at A4)
    (try rw [Addr.add_zero'] at A4)
    have A5 := Ak
    (try rw [tz] at A5)
    (try rw [show 0 * 10 = 0 from rfl] at A5)
    (try rw [Addr.add_zero'] at A5)
    have A6 := Aj
    (try rw [tz] at A6)
    (try rw [show 0 * 10 = 0 from rfl] at A6)
    (try rw [Addr.add_zero'] at A6)
    have A7 := Ai
    (try rw [tz] at A7)
    (try rw [show 0 * 10 = 0 from rfl] at A7)
    (try rw [Addr.add_zero'] at A7)
    cases e165
    have qi165 : (0 < l1.length) = True := eq_true (by omega)
    (try rw [tz] at Ai)
    (try rw [show 0 * 10 = 0 from rfl] at Ai)
    (try rw [Addr.add_zero'] at Ai)
    (try rw [tz] at Aj)
    (try rw [show 0 * 10 = 0 from rfl] at Aj)
    (try rw [Addr.add_zero'] at Aj)
    (try rw [tz] at Ak)
    (try rw [show 0 * 10 = 0 from rfl] at Ak)
    (try rw [Addr.add_zero'] at Ak)
    (try rw [tz] at Al)
    (try rw [show 0 * 10 = 0 from rfl] at Al)
    (try rw [Addr.add_zero'] at Al)
    (try rw [tz] at An)
    (try rw [show 0 * 10 = 0 from rfl] at An)
    (try rw [Addr.add_zero'] at An)
    (try rw [tz] at Ah)
    (try rw [show 0 * 10 = 0 from rfl] at Ah)
    (try rw [Addr.add_zero'] at Ah)
    (try rw [tz] at Ao)
    (try rw [show 0 * 10 = 0 from rfl] at Ao)
    (try rw [Addr.add_zero'] at Ao)
    (try rw [tz] at Ap)
    (try rw [show 0 * 10 = 0 from rfl] at Ap)
    (try rw [Addr.add_zero'] at Ap)
    (try rw [tz] at Aq)
    (try rw [show 0 * 10 = 0 from rfl] at Aq)
    (try rw [Addr.add_zero'] at Aq)
    (try rw [tz] at Ar)
    (try rw [show 0 * 10 = 0 from rfl] at Ar)
    (try rw [Addr.add_zero'] at Ar)
    replace Ai := cU HB.out Ai
    replace Aj := cU HB.out Aj
    replace Ak := cU HB.out Ak
    replace Al := cU HB.out Al
    replace An := cU HB.out An
    replace Ah := cU HB.out Ah
    replace Ao := cU HB.out Ao
    replace Ap := cU HB.out Ap
    replace Aq := cU HB.out Aq
    replace Ar := cU HB.out Ar
    have C6 := Am Bm
    have Fh := Am Bl
    clear Bm Bl
    replace p165 := eq_true p165
    replace q165 := eq_true q165
    refine start_ (n := 8) (S := fun w' => cG w' Ad 0 (.int .i64 a0_0) ∧ cG w' Ad 1 (.int .i64 a0_1) ∧ cG w' Ad 2 (.slice A0_2 l0_2.length c0_2) ∧ cG w' Ad 3 (.int .i64 a0_3) ∧ cG w' Ad 4 (.int .i64 a0_4) ∧ cG w' Ad 5 (.int .i64 a0_5) ∧ cG w' Ad 6 (.int .i64 a0_6) ∧ w'.cell? Ac = some (.int .i64 ((rd_T55 l1 0).f0)) ∧ cA w' Ac 1 (.int .i64 ((rd_T55 l1 0).f1)) ∧ cA w' Ac 2 (.int .i64 ((rd_T55 l1 0).f2)) ∧ cA w' Ac 3 (.string ((rd_T55 l1 0).f3)) ∧ cA w' Ac 4 (.bool ((rd_T55 l1 0).f4.f0)) ∧ cA w' Ac 5 (.slice Dj ((rd_T55 l1 0).f4.f1).length c165_5) ∧ cA w' Ac 6 (.int .i64 ((rd_T55 l1 0).f4.f2.f0)) ∧ cA w' Ac 7 (.int .i64 ((rd_T55 l1 0).f4.f2.f1)) ∧ cA w' Ac 8 (.int .i64 ((rd_T55 l1 0).f4.f2.f2)) ∧ cA w' Ac 9 (.int .u32 ((rd_T55 l1 0).f4.f2.f3))) (ds := []) #[false, false, false, false, false, false, false, false] (by kernel_rfl) rfl rfl ⟨(blk_cell Aa.out 0).trans rfl, (blk_cell Aa.out 1).trans rfl, (blk_cell Aa.out 2).trans rfl, (blk_cell Aa.out 3).trans rfl, (blk_cell Aa.out 4).trans rfl, (blk_cell Aa.out 5).trans rfl, (blk_cell Aa.out 6).trans rfl, (cT HB.out A7), (cT HB.out A6), (cT HB.out A5), (cT HB.out A4), (cT HB.out A2), (cT HB.out A0), (cT HB.out Az), (cT HB.out Ay), (cT HB.out Ax), (cT HB.out Aw)⟩ (fun hHeld => ?_); refine with_tabW raft_Put.tab4 raft_Put.bits4 (fun HT_ HW_ => ?_)
    generalize wc.drew = w29 at Aa Ae HB C6 Ai Aj Ak Al An Ah Ao Ap Aq Ar hHeld ⊢
    refine pui 0 33 8 1 HT_ ?_
    refine pui 1 34 8 3 HT_ ?_
    refine pui 2 35 8 7 HT_ ?_
    refine pui 4 37 8 23 HT_ ?_
    refine tki 3 36 8 31 HT_ HW_ hHeld ?_
    refine tki 5 38 8 63 HT_ HW_ hHeld ?_
    refine pui 6 39 8 127 HT_ ?_
    refine pui 7 32 8 255 HT_ ?_
    refine done_ (done_of HT_.out (by kernel_rfl)) ?_
    have hnb30 := At.out
    have hnc30 := Av.out
    obtain ⟨_, _, _, _, _, _, _⟩ := bc7 Ae.out
    obtain ⟨_, _, _, _, _, _, _⟩ := bf7 Ae.out
    try go_wp2
    refine bodyPost_ret (results_ct rfl _ _ Bj 26 #[.int .i64 0, .int .i64 0, .slice none 0 0, .int .i64 0, .int .i64 0, .int .i64 0, .int .i64 0] (0, 0) _ rfl (kX0 Ae.out) Try.underlying26 rfl (by kernel_rfl)) rfl ?_
    exact ⟨_, pX, by first | exact Kd.S_nil _ _ _ _ _ | exact Kd.N_nil _ _ _ _ _ | exact Kd.V_nil _ _ _ _ _ | exact Kd.Q_nil _ _ _ _ _ | exact Kd.R_nil _ _ _ _ _, pE2 HB.out Au.out A8.out⟩
   rw [if_neg c28] at H
   have c28b0 : decide (((rd_T55 l1 0).f0) ≤ a0_0) = false := decide_eq_false c28
   clear c28
   by_cases c32 : ((rd_T55 l1 0).f0) > (wrap64 (t161 + 1))
   ·rw [if_pos c32] at H
    have c32b0 : decide ((wrap64 (t161 + 1)) < ((rd_T55 l1 0).f0)) = true := decide_eq_true c32
    clear c32
    simp only [Option.some.injEq, Prod.mk.injEq] at H
    obtain ⟨rfl, rfl, rfl, rfl, rfl, rfl, rfl, rfl⟩ := H
    try go_wp2
    replace Aa := kDa Aa
    replace Ae := kDa Ae
    replace HB := bDa HB
    have p165 : 0 ≤ (0 : Int) := (by omega)
    have q165 : 0 < (l1.length : Int) := of_decide_eq_true pS
    obtain ⟨Ac, Dj, c165_5, e165, Ai, Aj, Ak, Al, An, Ah, Ao, Ap, Aq, Ar, Bl, Bm⟩ := at_T55 HR1.out 0 p165 q165
    have Aw := Ar
    (try rw [tz] at Aw)
    (try rw [show 0 * 10 = 0 from rfl] at Aw)
    (try rw [Addr.add_zero'] at Aw)
    have Ax := Aq
    (try rw [tz] at Ax)
    (try rw [show 0 * 10 = 0 from rfl] at Ax)
    (try rw [Addr.add_zero'] at Ax)
    have Ay := Ap
    (try rw [tz] at Ay)
    (try rw [show 0 * 10 = 0 from rfl] at Ay)
    (try rw [Addr.add_zero'] at Ay)
    have Az := Ao
    (try rw [tz] at Az)
    (try rw [show 0 * 10 = 0 from rfl] at Az)
    (try rw [Addr.add_zero'] at Az)
    have A0 := Ah
    (try rw [tz] at A0)
    (try rw [show 0 * 10 = 0 from rfl] at A0)
    (try rw [Addr.add_zero'] at A0)
    have A2 := An
    (try rw [tz] at A2)
    (try rw [show 0 * 10 = 0 from rfl] at A2)
    (try rw [Addr.add_zero'] at A2)
    have A4 := Al
    (try rw [tz] at A4)
    (try rw [show 0 * 10 = 0 from rfl] at A4)
    (try rw [Addr.add_zero'] at A4)
    have A5 := Ak
    (try rw [tz] at A5)
    (try rw [show 0 * 10 = 0 from rfl] at A5)
    (try rw [Addr.add_zero'] at A5)
    have A6 := Aj
    (try rw [tz] at A6)
    (try rw [show 0 * 10 = 0 from rfl] at A6)
    (try rw [Addr.add_zero'] at A6)
    have A7 := Ai
    (try rw [tz] at A7)
    (try rw [show 0 * 10 = 0 from rfl] at A7)
    (try rw [Addr.add_zero'] at A7)
    cases e165
    have qi165 : (0 < l1.length) = True := eq_true (by omega)
    (try rw [tz] at Ai)
    (try rw [show 0 * 10 = 0 from rfl] at Ai)
    (try rw [Addr.add_zero'] at Ai)
    (try rw [tz] at Aj)
    (try rw [show 0 * 10 = 0 from rfl] at Aj)
    (try rw [Addr.add_zero'] at Aj)
    (try rw [tz] at Ak)
    (try rw [show 0 * 10 = 0 from rfl] at Ak)
    (try rw [Addr.add_zero'] at Ak)
    (try rw [tz] at Al)
    (try rw [show 0 * 10 = 0 from rfl] at Al)
    (try rw [Addr.add_zero'] at Al)
    (try rw [tz] at An)
    (try rw [show 0 * 10 = 0 from rfl] at An)
    (try rw [Addr.add_zero'] at An)
    (try rw [tz] at Ah)
    (try rw [show 0 * 10 = 0 from rfl] at Ah)
    (try rw [Addr.add_zero'] at Ah)
    (try rw [tz] at Ao)
    (try rw [show 0 * 10 = 0 from rfl] at Ao)
    (try rw [Addr.add_zero'] at Ao)
    (try rw [tz] at Ap)
    (try rw [show 0 * 10 = 0 from rfl] at Ap)
    (try rw [Addr.add_zero'] at Ap)
    (try rw [tz] at Aq)
    (try rw [show 0 * 10 = 0 from rfl] at Aq)
    (try rw [Addr.add_zero'] at Aq)
    (try rw [tz] at Ar)
    (try rw [show 0 * 10 = 0 from rfl] at Ar)
    (try rw [Addr.add_zero'] at Ar)
    replace Ai := cU HB.out Ai
    replace Aj := cU HB.out Aj
    replace Ak := cU HB.out Ak
    replace Al := cU HB.out Al
    replace An := cU HB.out An
    replace Ah := cU HB.out Ah
    replace Ao := cU HB.out Ao
    replace Ap := cU HB.out Ap
    replace Aq := cU HB.out Aq
    replace Ar := cU HB.out Ar
    have C6 := Am Bm
    have Fh := Am Bl
    clear Bm Bl
    replace p165 := eq_true p165
    replace q165 := eq_true q165
    refine start_ (n := 8) (S := fun w' => cG w' Ad 0 (.int .i64 a0_0) ∧ cG w' Ad 1 (.int .i64 a0_1) ∧ cG w' Ad 2 (.slice A0_2 l0_2.length c0_2) ∧ cG w' Ad 3 (.int .i64 a0_3) ∧ cG w' Ad 4 (.int .i64 a0_4) ∧ cG w' Ad 5 (.int .i64 a0_5) ∧ cG w' Ad 6 (.int .i64 a0_6) ∧ w'.cell? Ac = some (.int .i64 ((rd_T55 l1 0).f0)) ∧ cA w' Ac 1 (.int .i64 ((rd_T55 l1 0).f1)) ∧ cA w' Ac 2 (.int .i64 ((rd_T55 l1 0).f2)) ∧ cA w' Ac 3 (.string ((rd_T55 l1 0).f3)) ∧ cA w' Ac 4 (.bool ((rd_T55 l1 0).f4.f0)) ∧ cA w' Ac 5 (.slice Dj ((rd_T55 l1 0).f4.f1).length c165_5) ∧ cA w' Ac 6 (.int .i64 ((rd_T55 l1 0).f4.f2.f0)) ∧ cA w' Ac 7 (.int .i64 ((rd_T55 l1 0).f4.f2.f1)) ∧ cA w' Ac 8 (.int .i64 ((rd_T55 l1 0).f4.f2.f2)) ∧ cA w' Ac 9 (.int .u32 ((rd_T55 l1 0).f4.f2.f3))) (ds := []) #[false, false, false, false, false, false, false, false] (by kernel_rfl) rfl rfl ⟨(blk_cell Aa.out 0).trans rfl, (blk_cell Aa.out 1).trans rfl, (blk_cell Aa.out 2).trans rfl, (blk_cell Aa.out 3).trans rfl, (blk_cell Aa.out 4).trans rfl, (blk_cell Aa.out 5).trans rfl, (blk_cell Aa.out 6).trans rfl, (cT HB.out A7), (cT HB.out A6), (cT HB.out A5), (cT HB.out A4), (cT HB.out A2), (cT HB.out A0), (cT HB.out Az), (cT HB.out Ay), (cT HB.out Ax), (cT HB.out Aw)⟩ (fun hHeld => ?_); refine with_tabW raft_Put.tab4 raft_Put.bits4 (fun HT_ HW_ => ?_)
    generalize wc.drew = w33 at Aa Ae HB C6 Ai Aj Ak Al An Ah Ao Ap Aq Ar hHeld ⊢
    refine pui 0 33 8 1 HT_ ?_
    refine pui 1 34 8 3 HT_ ?_
    refine pui 2 35 8 7 HT_ ?_
    refine pui 4 37 8 23 HT_ ?_
    refine tki 3 36 8 31 HT_ HW_ hHeld ?_
    refine tki 5 38 8 63 HT_ HW_ hHeld ?_
    refine pui 6 39 8 127 HT_ ?_
    refine pui 7 32 8 255 HT_ ?_
    refine done_ (done_of HT_.out (by kernel_rfl)) ?_
    have p166 : 0 ≤ (0 : Int) := (by omega)
    have q166 : 0 < (l1.length : Int) := of_decide_eq_true pS
    obtain ⟨Ft, Gl, c166_5, e166, Fi, Fj, Fk, Fl, Fm, Di, Fn, Fo, Fp, Fq, Ca, Cb⟩ := at_T55uz HR1.out p166 q166 HB.out
    obtain rfl : Ac = Ft := (by injection e166)
    have qi166 : (0 < l1.length) = True := eq_true (by omega)
    have F1 := Am Cb
    have F2 := Am Ca
    clear Cb Ca
    replace p166 := eq_true p166
    replace q166 := eq_true q166
    have ea_ := Option.some.inj (Ah.symm.trans Di)
    injection ea_ with ea_ en_ ec_
    subst ea_
    subst ec_
    clear en_
    have hnb34 := At.out
    have hnc34 := Av.out
    obtain ⟨_, _, _, _, _, _, _⟩ := bc7 Ae.out
    obtain ⟨_, _, _, _, _, _, _⟩ := bf7 Ae.out
    try go_wp2
    refine bodyPost_ret (results_ct rfl _ _ Bj 26 #[.int .i64 0, .int .i64 0, .slice none 0 0, .int .i64 0, .int .i64 0, .int .i64 0, .int .i64 0] (0, 0) _ rfl (kX0 Ae.out) Try.underlying26 rfl (by kernel_rfl)) rfl ?_
    exact ⟨_, pX, by first | exact Kd.S_nil _ _ _ _ _ | exact Kd.N_nil _ _ _ _ _ | exact Kd.V_nil _ _ _ _ _ | exact Kd.Q_nil _ _ _ _ _ | exact Kd.R_nil _ _ _ _ _, pE2 HB.out Au.out A8.out⟩
   rw [if_neg c32] at H
   have c32b0 : decide ((wrap64 (t161 + 1)) < ((rd_T55 l1 0).f0)) = false := decide_eq_false c32
   clear c32
   replace H := Option.bind_eq_some_iff.mp H
   obtain ⟨⟨t168, t169⟩, A360, H⟩ := H
   replace H : (if ((rd_T55 l1 0).f1) < t168 then (some (0, 0, ([] : List (S55)), 0, 0, 0, 0, 1)) else ((raft_owns.f kj3 l0_2).bind fun t171 => (raft_Put.l0 kj3 l1 t161 0 a0_0 a0_1 t171 a0_3 a0_4 a0_5 a0_6))) = some (r1, r2, r3, r4, r5, r6, r7, r8) := H
   have A36 := Am A360
   clear A360
   by_cases c37 : ((rd_T55 l1 0).f1) < t168
   ·rw [if_pos c37] at H
    have c37b0 : decide (((rd_T55 l1 0).f1) < t168) = true := decide_eq_true c37
    clear c37
    simp only [Option.some.injEq, Prod.mk.injEq] at H
    obtain ⟨rfl, rfl, rfl, rfl, rfl, rfl, rfl, rfl⟩ := H
    try go_wp2
    replace Aa := kDa Aa
    replace Ae := kDa Ae
    replace HB := bDa HB
    have p165 : 0 ≤ (0 : Int) := (by omega)
    have q165 : 0 < (l1.length : Int) := of_decide_eq_true pS
    obtain ⟨Ac, Dj, c165_5, e165, Ai, Aj, Ak, Al, An, Ah, Ao, Ap, Aq, Ar, Bl, Bm⟩ := at_T55 HR1.out 0 p165 q165
    have Aw := Ar
    (try rw [tz] at Aw)
    (try rw [show 0 * 10 = 0 from rfl] at Aw)
    (try rw [Addr.add_zero'] at Aw)
    have Ax := Aq
    (try rw [tz] at Ax)
    (try rw [show 0 * 10 = 0 from rfl] at Ax)
    (try rw [Addr.add_zero'] at Ax)
    have Ay := Ap
    (try rw [tz] at Ay)
    (try rw [show 0 * 10 = 0 from rfl] at Ay)
    (try rw [Addr.add_zero'] at Ay)
    have Az := Ao
    (try rw [tz] at Az)
    (try rw [show 0 * 10 = 0 from rfl] at Az)
    (try rw [Addr.add_zero'] at Az)
    have A0 := Ah
    (try rw [tz] at A0)
    (try rw [show 0 * 10 = 0 from rfl] at A0)
    (try rw [Addr.add_zero'] at A0)
    have A2 := An
    (try rw [tz] at A2)
    (try rw [show 0 * 10 = 0 from rfl] at A2)
    (try rw [Addr.add_zero'] at A2)
    have A4 := Al
    (try rw [tz] at A4)
    (try rw [show 0 * 10 = 0 from rfl] at A4)
    (try rw [Addr.add_zero'] at A4)
    have A5 := Ak
    (try rw [tz] at A5)
    (try rw [show 0 * 10 = 0 from rfl] at A5)
    (try rw [Addr.add_zero'] at A5)
    have A6 := Aj
    (try rw [tz] at A6)
    (try rw [show 0 * 10 = 0 from rfl] at A6)
    (try rw [Addr.add_zero'] at A6)
    have A7 := Ai
    (try rw [tz] at A7)
    (try rw [show 0 * 10 = 0 from rfl] at A7)
    (try rw [Addr.add_zero'] at A7)
    cases e165
    have qi165 : (0 < l1.length) = True := eq_true (by omega)
    (try rw [tz] at Ai)
    (try rw [show 0 * 10 = 0 from rfl] at Ai)
    (try rw [Addr.add_zero'] at Ai)
    (try rw [tz] at Aj)
    (try rw [show 0 * 10 = 0 from rfl] at Aj)
    (try rw [Addr.add_zero'] at Aj)
    (try rw [tz] at Ak)
    (try rw [show 0 * 10 = 0 from rfl] at Ak)
    (try rw [Addr.add_zero'] at Ak)
    (try rw [tz] at Al)
    (try rw [show 0 * 10 = 0 from rfl] at Al)
    (try rw [Addr.add_zero'] at Al)
    (try rw [tz] at An)
    (try rw [show 0 * 10 = 0 from rfl] at An)
    (try rw [Addr.add_zero'] at An)
    (try rw [tz] at Ah)
    (try rw [show 0 * 10 = 0 from rfl] at Ah)
    (try rw [Addr.add_zero'] at Ah)
    (try rw [tz] at Ao)
    (try rw [show 0 * 10 = 0 from rfl] at Ao)
    (try rw [Addr.add_zero'] at Ao)
    (try rw [tz] at Ap)
    (try rw [show 0 * 10 = 0 from rfl] at Ap)
    (try rw [Addr.add_zero'] at Ap)
    (try rw [tz] at Aq)
    (try rw [show 0 * 10 = 0 from rfl] at Aq)
    (try rw [Addr.add_zero'] at Aq)
    (try rw [tz] at Ar)
    (try rw [show 0 * 10 = 0 from rfl] at Ar)
    (try rw [Addr.add_zero'] at Ar)
    replace Ai := cU HB.out Ai
    replace Aj := cU HB.out Aj
    replace Ak := cU HB.out Ak
    replace Al := cU HB.out Al
    replace An := cU HB.out An
    replace Ah := cU HB.out Ah
    replace Ao := cU HB.out Ao
    replace Ap := cU HB.out Ap
    replace Aq := cU HB.out Aq
    replace Ar := cU HB.out Ar
    have C6 := Am Bm
    have Fh := Am Bl
    clear Bm Bl
    replace p165 := eq_true p165
    replace q165 := eq_true q165
    refine start_ (n := 8) (S := fun w' => cG w' Ad 0 (.int .i64 a0_0) ∧ cG w' Ad 1 (.int .i64 a0_1) ∧ cG w' Ad 2 (.slice A0_2 l0_2.length c0_2) ∧ cG w' Ad 3 (.int .i64 a0_3) ∧ cG w' Ad 4 (.int .i64 a0_4) ∧ cG w' Ad 5 (.int .i64 a0_5) ∧ cG w' Ad 6 (.int .i64 a0_6) ∧ w'.cell? Ac = some (.int .i64 ((rd_T55 l1 0).f0)) ∧ cA w' Ac 1 (.int .i64 ((rd_T55 l1 0).f1)) ∧ cA w' Ac 2 (.int .i64 ((rd_T55 l1 0).f2)) ∧ cA w' Ac 3 (.string ((rd_T55 l1 0).f3)) ∧ cA w' Ac 4 (.bool ((rd_T55 l1 0).f4.f0)) ∧ cA w' Ac 5 (.slice Dj ((rd_T55 l1 0).f4.f1).length c165_5) ∧ cA w' Ac 6 (.int .i64 ((rd_T55 l1 0).f4.f2.f0)) ∧ cA w' Ac 7 (.int .i64 ((rd_T55 l1 0).f4.f2.f1)) ∧ cA w' Ac 8 (.int .i64 ((rd_T55 l1 0).f4.f2.f2)) ∧ cA w' Ac 9 (.int .u32 ((rd_T55 l1 0).f4.f2.f3))) (ds := []) #[false, false, false, false, false, false, false, false] (by kernel_rfl) rfl rfl ⟨(blk_cell Aa.out 0).trans rfl, (blk_cell Aa.out 1).trans rfl, (blk_cell Aa.out 2).trans rfl, (blk_cell Aa.out 3).trans rfl, (blk_cell Aa.out 4).trans rfl, (blk_cell Aa.out 5).trans rfl, (blk_cell Aa.out 6).trans rfl, (cT HB.out A7), (cT HB.out A6), (cT HB.out A5), (cT HB.out A4), (cT HB.out A2), (cT HB.out A0), (cT HB.out Az), (cT HB.out Ay), (cT HB.out Ax), (cT HB.out Aw)⟩ (fun hHeld => ?_); refine with_tabW raft_Put.tab4 raft_Put.bits4 (fun HT_ HW_ => ?_)
    generalize wc.drew = w38 at Aa Ae HB C6 Ai Aj Ak Al An Ah Ao Ap Aq Ar hHeld ⊢
    refine pui 0 33 8 1 HT_ ?_
    refine pui 1 34 8 3 HT_ ?_
    refine pui 2 35 8 7 HT_ ?_
    refine pui 4 37 8 23 HT_ ?_
    refine tki 3 36 8 31 HT_ HW_ hHeld ?_
    refine tki 5 38 8 63 HT_ HW_ hHeld ?_
    refine pui 6 39 8 127 HT_ ?_
    refine pui 7 32 8 255 HT_ ?_
    refine done_ (done_of HT_.out (by kernel_rfl)) ?_
    have p166 : 0 ≤ (0 : Int) := (by omega)
    have q166 : 0 < (l1.length : Int) := of_decide_eq_true pS
    obtain ⟨Ft, Gl, c166_5, e166, Fi, Fj, Fk, Fl, Fm, Di, Fn, Fo, Fp, Fq, Ca, Cb⟩ := at_T55uz HR1.out p166 q166 HB.out
    obtain rfl : Ac = Ft := (by injection e166)
    have qi166 : (0 < l1.length) = True := eq_true (by omega)
    have F1 := Am Cb
    have F2 := Am Ca
    clear Cb Ca
    replace p166 := eq_true p166
    replace q166 := eq_true q166
    have ea_ := Option.some.inj (Ah.symm.trans Di)
    injection ea_ with ea_ en_ ec_
    subst ea_
    subst ec_
    clear en_
    try go_wp2
    replace Aa := kDa Aa
    replace Ae := kDa Ae
    replace HB := bDa HB
    have p167 : 0 ≤ (0 : Int) := (by omega)
    have q167 : 0 < (l1.length : Int) := of_decide_eq_true pS
    obtain ⟨Gh, Fx, c167_5, e167, A9, Ba, Bb, Bc, Bd, Be, Bf, Bg, Bh, Bi, Dl, Dm⟩ := at_T55 HR1.out 0 p167 q167
    have Bn := Bi
    (try rw [tz] at Bn)
    (try rw [show 0 * 10 = 0 from rfl] at Bn)
    (try rw [Addr.add_zero'] at Bn)
    have Bo := Bh
    (try rw [tz] at Bo)
    (try rw [show 0 * 10 = 0 from rfl] at Bo)
    (try rw [Addr.add_zero'] at Bo)
    have Bp := Bg
    (try rw [tz] at Bp)
    (try rw [show 0 * 10 = 0 from rfl] at Bp)
    (try rw [Addr.add_zero'] at Bp)
    have Bq := Bf
    (try rw [tz] at Bq)
    (try rw [show 0 * 10 = 0 from rfl] at Bq)
    (try rw [Addr.add_zero'] at Bq)
    have Br := Be
    (try rw [tz] at Br)
    (try rw [show 0 * 10 = 0 from rfl] at Br)
    (try rw [Addr.add_zero'] at Br)
    have Bs := Bd
    (try rw [tz] at Bs)
    (try rw [show 0 * 10 = 0 from rfl] at Bs)
    (try rw [Addr.add_zero'] at Bs)
    have Bt := Bc
    (try rw [tz] at Bt)
    (try rw [show 0 * 10 = 0 from rfl] at Bt)
    (try rw [Addr.add_zero'] at Bt)
    have Bu := Bb
    (try rw [tz] at Bu)
    (try rw [show 0 * 10 = 0 from rfl] at Bu)
    (try rw [Addr.add_zero'] at Bu)
    have Bv := Ba
    (try rw [tz] at Bv)
    (try rw [show 0 * 10 = 0 from rfl] at Bv)
    (try rw [Addr.add_zero'] at Bv)
    have Bw := A9
    (try rw [tz] at Bw)
    (try rw [show 0 * 10 = 0 from rfl] at Bw)
    (try rw [Addr.add_zero'] at Bw)
    obtain rfl : Ac = Gh := (by injection e167)
    have qi167 : (0 < l1.length) = True := eq_true (by omega)
    (try rw [tz] at A9)
    (try rw [show 0 * 10 = 0 from rfl] at A9)
    (try rw [Addr.add_zero'] at A9)
    (try rw [tz] at Ba)
    (try rw [show 0 * 10 = 0 from rfl] at Ba)
    (try rw [Addr.add_zero'] at Ba)
    (try rw [tz] at Bb)
    (try rw [show 0 * 10 = 0 from rfl] at Bb)
    (try rw [Addr.add_zero'] at Bb)
    (try rw [tz] at Bc)
    (try rw [show 0 * 10 = 0 from rfl] at Bc)
    (try rw [Addr.add_zero'] at Bc)
    (try rw [tz] at Bd)
    (try rw [show 0 * 10 = 0 from rfl] at Bd)
    (try rw [Addr.add_zero'] at Bd)
    (try rw [tz] at Be)
    (try rw [show 0 * 10 = 0 from rfl] at Be)
    (try rw [Addr.add_zero'] at Be)
    (try rw [tz] at Bf)
    (try rw [show 0 * 10 = 0 from rfl] at Bf)
    (try rw [Addr.add_zero'] at Bf)
    (try rw [tz] at Bg)
    (try rw [show 0 * 10 = 0 from rfl] at Bg)
    (try rw [Addr.add_zero'] at Bg)
    (try rw [tz] at Bh)
    (try rw [show 0 * 10 = 0 from rfl] at Bh)
    (try rw [Addr.add_zero'] at Bh)
    (try rw [tz] at Bi)
    (try rw [show 0 * 10 = 0 from rfl] at Bi)
    (try rw [Addr.add_zero'] at Bi)
    replace A9 := cU HB.out A9
    replace Ba := cU HB.out Ba
    replace Bb := cU HB.out Bb
    replace Bc := cU HB.out Bc
    replace Bd := cU HB.out Bd
    replace Be := cU HB.out Be
    replace Bf := cU HB.out Bf
    replace Bg := cU HB.out Bg
    replace Bh := cU HB.out Bh
    replace Bi := cU HB.out Bi
    have Fr := Am Dm
    have Ht := Am Dl
    clear Dm Dl
    replace p167 := eq_true p167
    replace q167 := eq_true q167
    refine start_ (n := 12) (S := fun w' => cG w' Ad 0 (.int .i64 a0_0) ∧ cG w' Ad 1 (.int .i64 a0_1) ∧ cG w' Ad 2 (.slice A0_2 l0_2.length c0_2) ∧ cG w' Ad 3 (.int .i64 a0_3) ∧ cG w' Ad 4 (.int .i64 a0_4) ∧ cG w' Ad 5 (.int .i64 a0_5) ∧ cG w' Ad 6 (.int .i64 a0_6) ∧ w'.cell? Ac = some (.int .i64 ((rd_T55 l1 0).f0)) ∧ cA w' Ac 1 (.int .i64 ((rd_T55 l1 0).f1)) ∧ cA w' Ac 2 (.int .i64 ((rd_T55 l1 0).f2)) ∧ cA w' Ac 3 (.string ((rd_T55 l1 0).f3)) ∧ cA w' Ac 4 (.bool ((rd_T55 l1 0).f4.f0)) ∧ cA w' Ac 5 (.slice Fx ((rd_T55 l1 0).f4.f1).length c167_5) ∧ cA w' Ac 6 (.int .i64 ((rd_T55 l1 0).f4.f2.f0)) ∧ cA w' Ac 7 (.int .i64 ((rd_T55 l1 0).f4.f2.f1)) ∧ cA w' Ac 8 (.int .i64 ((rd_T55 l1 0).f4.f2.f2)) ∧ cA w' Ac 9 (.int .u32 ((rd_T55 l1 0).f4.f2.f3))) (ds := []) #[false, false, false, false, false, false, false, false, false, false, false, false] (by kernel_rfl) rfl rfl ⟨(blk_cell Aa.out 0).trans rfl, (blk_cell Aa.out 1).trans rfl, (blk_cell Aa.out 2).trans rfl, (blk_cell Aa.out 3).trans rfl, (blk_cell Aa.out 4).trans rfl, (blk_cell Aa.out 5).trans rfl, (blk_cell Aa.out 6).trans rfl, (cT HB.out Bw), (cT HB.out Bv), (cT HB.out Bu), (cT HB.out Bt), (cT HB.out Bs), (cT HB.out Br), (cT HB.out Bq), (cT HB.out Bp), (cT HB.out Bo), (cT HB.out Bn)⟩ (fun hHeld => ?_); refine with_tabW raft_Put.tab8 raft_Put.bits8 (fun HT_ HW_ => ?_)
    generalize w38.drew = w39 at Aa Ae HB Fr A9 Ba Bb Bc Bd Be Bf Bg Bh Bi hHeld ⊢
    refine pui 1 52 12 2 HT_ ?_
    refine pui 2 53 12 6 HT_ ?_
    refine pui 3 54 12 14 HT_ ?_
    refine tki 0 51 12 15 HT_ HW_ hHeld ?_
    refine tki 4 55 12 31 HT_ HW_ hHeld ?_
    refine pui 5 56 12 63 HT_ ?_
    refine onei 6 57 12 127 HT_ (fun K hK => ?_)
    refine goes_ Try.func25 (by kernel_rfl) rfl #[.agg #[.int .i64 a0_0, .int .i64 a0_1, .slice A0_2 l0_2.length c0_2, .int .i64 a0_3, .int .i64 a0_4, .int .i64 a0_5, .int .i64 a0_6], .int .i64 (wrap64 (((rd_T55 l1 0).f0) - 1))] (by rfl) rfl rfl pL ?_
    with_reducible refine (raft_Term.calls kj3 a0_0 a0_1 _ _ l0_2 a0_3 a0_4 a0_5 a0_6 (wrap64 (((rd_T55 l1 0).f0) - 1)) t168 t169 _ ?Bx ?By A36.out).mono ?_
    (case Bx => exact pC (Kd.C_below Fc.out HB.out))
    (case By => exact Fd.out)
    rintro e w40 ⟨rfl, hb⟩
    refine ⟨_, rfl, ?_⟩
    replace Aa := kBa Aa hb
    replace Ae := kBa Ae hb
    replace HB := Am (below_step (pE2 HB.out Au.out A8.out) hb)
    (try clear hb)
    (try clear hb2)
    (try clear hk)
    (try clear hi)
    refine hK.out _ _ ⟨(blk_cell Aa.out 0).trans rfl, (blk_cell Aa.out 1).trans rfl, (blk_cell Aa.out 2).trans rfl, (blk_cell Aa.out 3).trans rfl, (blk_cell Aa.out 4).trans rfl, (blk_cell Aa.out 5).trans rfl, (blk_cell Aa.out 6).trans rfl, (cT HB.out Bw), (cT HB.out Bv), (cT HB.out Bu), (cT HB.out Bt), (cT HB.out Bs), (cT HB.out Br), (cT HB.out Bq), (cT HB.out Bp), (cT HB.out Bo), (cT HB.out Bn)⟩ (fun hHeld => ?_)
    clear hK K
    refine norm_ (a' := ?_) ?_ ?_
    rotate_left
    ·show Act.put _ (some 57) _ = _
     simp only [Act.put, List.setIfInBounds_toArray, List.set_cons_zero, List.set_cons_succ, i64_w, i32_w]
     rfl
    refine pui 7 50 12 255 HT_ ?_
    refine pui 8 58 12 511 HT_ ?_
    refine pui 9 59 12 1023 HT_ ?_
    refine pui 10 8 12 2047 HT_ ?_
    refine pui 11 9 12 4095 HT_ ?_
    refine done_ (done_of HT_.out (by kernel_rfl)) ?_
    have p170 : 0 ≤ (0 : Int) := (by omega)
    have q170 : 0 < (l1.length : Int) := of_decide_eq_true pS
    obtain ⟨Gi, J8, c170_5, e170, F3, F4, F5, F6, F7, F8, F9, Ga, Gb, Gc, Dn, Do⟩ := at_T55uz HR1.out p170 q170 HB.out
    obtain rfl : Ac = Gi := (by injection e170)
    have qi170 : (0 < l1.length) = True := eq_true (by omega)
    have Hu := Am Do
    have Hv := Am Dn
    clear Do Dn
    replace p170 := eq_true p170
    replace q170 := eq_true q170
    have hnb41 := At.out
    have hnc41 := Av.out
    obtain ⟨Hw, Hx, Hy, Hz, H0, H2, H3⟩ := bc7 Ae.out
    obtain ⟨H4, H5, H6, H7, H8, H9, Ia⟩ := bf7 Ae.out
    try go_wp2
    refine bodyPost_ret (results_ct rfl _ _ Bj 26 #[.int .i64 0, .int .i64 0, .slice none 0 0, .int .i64 0, .int .i64 0, .int .i64 0, .int .i64 0] (0, 0) _ rfl (kX0 Ae.out) Try.underlying26 rfl (by kernel_rfl)) rfl ?_
    exact ⟨_, pX, by first | exact Kd.S_nil _ _ _ _ _ | exact Kd.N_nil _ _ _ _ _ | exact Kd.V_nil _ _ _ _ _ | exact Kd.Q_nil _ _ _ _ _ | exact Kd.R_nil _ _ _ _ _, pE2 HB.out Au.out A8.out⟩
   rw [if_neg c37] at H
   have c37b0 : decide (((rd_T55 l1 0).f1) < t168) = false := decide_eq_false c37
   clear c37
   replace H := Option.bind_eq_some_iff.mp H
   obtain ⟨t171, A430, H⟩ := H
   replace H : (raft_Put.l0 kj3 l1 t161 0 a0_0 a0_1 t171 a0_3 a0_4 a0_5 a0_6) = some (r1, r2, r3, r4, r5, r6, r7, r8) := H
   have A43 := Am A430
   clear A430
   have HC44 := Am H
   clear H
   try go_wp2
   replace Aa := kDa Aa
   replace Ae := kDa Ae
   replace HB := bDa HB
   have p165 : 0 ≤ (0 : Int) := (by omega)
   have q165 : 0 < (l1.length : Int) := of_decide_eq_true pS
   obtain ⟨Ac, Dj, c165_5, e165, Ai, Aj, Ak, Al, An, Ah, Ao, Ap, Aq, Ar, Bl, Bm⟩ := at_T55 HR1.out 0 p165 q165
   have Aw := Ar
   (try rw [tz] at Aw)
   (try rw [show 0 * 10 = 0 from rfl] at Aw)
   (try rw [Addr.add_zero'] at Aw)
   have Ax := Aq
   (try rw [tz] at Ax)
   (try rw [show 0 * 10 = 0 from rfl] at Ax)
   (try rw [Addr.add_zero'] at Ax)
   have Ay := Ap
   (try rw [tz] at Ay)
   (try rw [show 0 * 10 = 0 from rfl] at Ay)
   (try rw [Addr.add_zero'] at Ay)
   have Az := Ao
   (try rw [tz] at Az)
   (try rw [show 0 * 10 = 0 from rfl] at Az)
   (try rw [Addr.add_zero'] at Az)
   have A0 := Ah
   (try rw [tz] at A0)
   (try rw [show 0 * 10 = 0 from rfl] at A0)
   (try rw [Addr.add_zero'] at A0)
   have A2 := An
   (try rw [tz] at A2)
   (try rw [show 0 * 10 = 0 from rfl] at A2)
   (try rw [Addr.add_zero'] at A2)
   have A4 := Al
   (try rw [tz] at A4)
   (try rw [show 0 * 10 = 0 from rfl] at A4)
   (try rw [Addr.add_zero'] at A4)
   have A5 := Ak
   (try rw [tz] at A5)
   (try rw [show 0 * 10 = 0 from rfl] at A5)
   (try rw [Addr.add_zero'] at A5)
   have A6 := Aj
   (try rw [tz] at A6)
   (try rw [show 0 * 10 = 0 from rfl] at A6)
   (try rw [Addr.add_zero'] at A6)
   have A7 := Ai
   (try rw [tz] at A7)
   (try rw [show 0 * 10 = 0 from rfl] at A7)
   (try rw [Addr.add_zero'] at A7)
   cases e165
   have qi165 : (0 < l1.length) = True := eq_true (by omega)
   (try rw [tz] at Ai)
   (try rw [show 0 * 10 = 0 from rfl] at Ai)
   (try rw [Addr.add_zero'] at Ai)
   (try rw [tz] at Aj)
   (try rw [show 0 * 10 = 0 from rfl] at Aj)
   (try rw [Addr.add_zero'] at Aj)
   (try rw [tz] at Ak)
   (try rw [show 0 * 10 = 0 from rfl] at Ak)
   (try rw [Addr.add_zero'] at Ak)
   (try rw [tz] at Al)
   (try rw [show 0 * 10 = 0 from rfl] at Al)
   (try rw [Addr.add_zero'] at Al)
   (try rw [tz] at An)
   (try rw [show 0 * 10 = 0 from rfl] at An)
   (try rw [Addr.add_zero'] at An)
   (try rw [tz] at Ah)
   (try rw [show 0 * 10 = 0 from rfl] at Ah)
   (try rw [Addr.add_zero'] at Ah)
   (try rw [tz] at Ao)
   (try rw [show 0 * 10 = 0 from rfl] at Ao)
   (try rw [Addr.add_zero'] at Ao)
   (try rw [tz] at Ap)
   (try rw [show 0 * 10 = 0 from rfl] at Ap)
   (try rw [Addr.add_zero'] at Ap)
   (try rw [tz] at Aq)
   (try rw [show 0 * 10 = 0 from rfl] at Aq)
   (try rw [Addr.add_zero'] at Aq)
   (try rw [tz] at Ar)
   (try rw [show 0 * 10 = 0 from rfl] at Ar)
   (try rw [Addr.add_zero'] at Ar)
   replace Ai := cU HB.out Ai
   replace Aj := cU HB.out Aj
   replace Ak := cU HB.out Ak
   replace Al := cU HB.out Al
   replace An := cU HB.out An
   replace Ah := cU HB.out Ah
   replace Ao := cU HB.out Ao
   replace Ap := cU HB.out Ap
   replace Aq := cU HB.out Aq
   replace Ar := cU HB.out Ar
   have C6 := Am Bm
   have Fh := Am Bl
   clear Bm Bl
   replace p165 := eq_true p165
   replace q165 := eq_true q165
   refine start_ (n := 8) (S := fun w' => cG w' Ad 0 (.int .i64 a0_0) ∧ cG w' Ad 1 (.int .i64 a0_1) ∧ cG w' Ad 2 (.slice A0_2 l0_2.length c0_2) ∧ cG w' Ad 3 (.int .i64 a0_3) ∧ cG w' Ad 4 (.int .i64 a0_4) ∧ cG w' Ad 5 (.int .i64 a0_5) ∧ cG w' Ad 6 (.int .i64 a0_6) ∧ w'.cell? Ac = some (.int .i64 ((rd_T55 l1 0).f0)) ∧ cA w' Ac 1 (.int .i64 ((rd_T55 l1 0).f1)) ∧ cA w' Ac 2 (.int .i64 ((rd_T55 l1 0).f2)) ∧ cA w' Ac 3 (.string ((rd_T55 l1 0).f3)) ∧ cA w' Ac 4 (.bool ((rd_T55 l1 0).f4.f0)) ∧ cA w' Ac 5 (.slice Dj ((rd_T55 l1 0).f4.f1).length c165_5) ∧ cA w' Ac 6 (.int .i64 ((rd_T55 l1 0).f4.f2.f0)) ∧ cA w' Ac 7 (.int .i64 ((rd_T55 l1 0).f4.f2.f1)) ∧ cA w' Ac 8 (.int .i64 ((rd_T55 l1 0).f4.f2.f2)) ∧ cA w' Ac 9 (.int .u32 ((rd_T55 l1 0).f4.f2.f3))) (ds := []) #[false, false, false, false, false, false, false, false] (by kernel_rfl) rfl rfl ⟨(blk_cell Aa.out 0).trans rfl, (blk_cell Aa.out 1).trans rfl, (blk_cell Aa.out 2).trans rfl, (blk_cell Aa.out 3).trans rfl, (blk_cell Aa.out 4).trans rfl, (blk_cell Aa.out 5).trans rfl, (blk_cell Aa.out 6).trans rfl, (cT HB.out A7), (cT HB.out A6), (cT HB.out A5), (cT HB.out A4), (cT HB.out A2), (cT HB.out A0), (cT HB.out Az), (cT HB.out Ay), (cT HB.out Ax), (cT HB.out Aw)⟩ (fun hHeld => ?_); refine with_tabW raft_Put.tab4 raft_Put.bits4 (fun HT_ HW_ => ?_)
   generalize wc.drew = w45 at Aa Ae HB C6 Ai Aj Ak Al An Ah Ao Ap Aq Ar hHeld ⊢
   refine pui 0 33 8 1 HT_ ?_
   refine pui 1 34 8 3 HT_ ?_
   refine pui 2 35 8 7 HT_ ?_
   refine pui 4 37 8 23 HT_ ?_
   refine tki 3 36 8 31 HT_ HW_ hHeld ?_
   refine tki 5 38 8 63 HT_ HW_ hHeld ?_
   refine pui 6 39 8 127 HT_ ?_
   refine pui 7 32 8 255 HT_ ?_
   refine done_ (done_of HT_.out (by kernel_rfl)) ?_
   have p166 : 0 ≤ (0 : Int) := (by omega)
   have q166 : 0 < (l1.length : Int) := of_decide_eq_true pS
   obtain ⟨Ft, Gl, c166_5, e166, Fi, Fj, Fk, Fl, Fm, Di, Fn, Fo, Fp, Fq, Ca, Cb⟩ := at_T55uz HR1.out p166 q166 HB.out
   obtain rfl : Ac = Ft := (by injection e166)
   have qi166 : (0 < l1.length) = True := eq_true (by omega)
   have F1 := Am Cb
   have F2 := Am Ca
   clear Cb Ca
   replace p166 := eq_true p166
   replace q166 := eq_true q166
   have ea_ := Option.some.inj (Ah.symm.trans Di)
   injection ea_ with ea_ en_ ec_
   subst ea_
   subst ec_
   clear en_
   try go_wp2
   replace Aa := kDa Aa
   replace Ae := kDa Ae
   replace HB := bDa HB
   have p167 : 0 ≤ (0 : Int) := (by omega)
   have q167 : 0 < (l1.length : Int) := of_decide_eq_true pS
   obtain ⟨Gh, Fx, c167_5, e167, A9, Ba, Bb, Bc, Bd, Be, Bf, Bg, Bh, Bi, Dl, Dm⟩ := at_T55 HR1.out 0 p167 q167
   have Bn := Bi
   (try rw [tz] at Bn)
   (try rw [show 0 * 10 = 0 from rfl] at Bn)
   (try rw [Addr.add_zero'] at Bn)
   have Bo := Bh
   (try rw [tz] at Bo)
   (try rw [show 0 * 10 = 0 from rfl] at Bo)
   (try rw [Addr.add_zero'] at Bo)
   have Bp := Bg
   (try rw [tz] at Bp)
   (try rw [show 0 * 10 = 0 from rfl] at Bp)
   (try rw [Addr.add_zero'] at Bp)
   have Bq := Bf
   (try rw [tz] at Bq)
   (try rw [show 0 * 10 = 0 from rfl] at Bq)
   (try rw [Addr.add_zero'] at Bq)
   have Br := Be
   (try rw [tz] at Br)
   (try rw [show 0 * 10 = 0 from rfl] at Br)
   (try rw [Addr.add_zero'] at Br)
   have Bs := Bd
   (try rw [tz] at Bs)
   (try rw [show 0 * 10 = 0 from rfl] at Bs)
   (try rw [Addr.add_zero'] at Bs)
   have Bt := Bc
   (try rw [tz] at Bt)
   (try rw [show 0 * 10 = 0 from rfl] at Bt)
   (try rw [Addr.add_zero'] at Bt)
   have Bu := Bb
   (try rw [tz] at Bu)
   (try rw [show 0 * 10 = 0 from rfl] at Bu)
   (try rw [Addr.add_zero'] at Bu)
   have Bv := Ba
   (try rw [tz] at Bv)
   (try rw [show 0 * 10 = 0 from rfl] at Bv)
   (try rw [Addr.add_zero'] at Bv)
   have Bw := A9
   (try rw [tz] at Bw)
   (try rw [show 0 * 10 = 0 from rfl] at Bw)
   (try rw [Addr.add_zero'] at Bw)
   obtain rfl : Ac = Gh := (by injection e167)
   have qi167 : (0 < l1.length) = True := eq_true (by omega)
   (try rw [tz] at A9)
   (try rw [show 0 * 10 = 0 from rfl] at A9)
   (try rw [Addr.add_zero'] at A9)
   (try rw [tz] at Ba)
   (try rw [show 0 * 10 = 0 from rfl] at Ba)
   (try rw [Addr.add_zero'] at Ba)
   (try rw [tz] at Bb)
   (try rw [show 0 * 10 = 0 from rfl] at Bb)
   (try rw [Addr.add_zero'] at Bb)
   (try rw [tz] at Bc)
   (try rw [show 0 * 10 = 0 from rfl] at Bc)
   (try rw [Addr.add_zero'] at Bc)
   (try rw [tz] at Bd)
   (try rw [show 0 * 10 = 0 from rfl] at Bd)
   (try rw [Addr.add_zero'] at Bd)
   (try rw [tz] at Be)
   (try rw [show 0 * 10 = 0 from rfl] at Be)
   (try rw [Addr.add_zero'] at Be)
   (try rw [tz] at Bf)
   (try rw [show 0 * 10 = 0 from rfl] at Bf)
   (try rw [Addr.add_zero'] at Bf)
   (try rw [tz] at Bg)
   (try rw [show 0 * 10 = 0 from rfl] at Bg)
   (try rw [Addr.add_zero'] at Bg)
   (try rw [tz] at Bh)
   (try rw [show 0 * 10 = 0 from rfl] at Bh)
   (try rw [Addr.add_zero'] at Bh)
   (try rw [tz] at Bi)
   (try rw [show 0 * 10 = 0 from rfl] at Bi)
   (try rw [Addr.add_zero'] at Bi)
   replace A9 := cU HB.out A9
   replace Ba := cU HB.out Ba
   replace Bb := cU HB.out Bb
   replace Bc := cU HB.out Bc
   replace Bd := cU HB.out Bd
   replace Be := cU HB.out Be
   replace Bf := cU HB.out Bf
   replace Bg := cU HB.out Bg
   replace Bh := cU HB.out Bh
   replace Bi := cU HB.out Bi
   have Fr := Am Dm
   have Ht := Am Dl
   clear Dm Dl
   replace p167 := eq_true p167
   replace q167 := eq_true q167
   refine start_ (n := 12) (S := fun w' => cG w' Ad 0 (.int .i64 a0_0) ∧ cG w' Ad 1 (.int .i64 a0_1) ∧ cG w' Ad 2 (.slice A0_2 l0_2.length c0_2) ∧ cG w' Ad 3 (.int .i64 a0_3) ∧ cG w' Ad 4 (.int .i64 a0_4) ∧ cG w' Ad 5 (.int .i64 a0_5) ∧ cG w' Ad 6 (.int .i64 a0_6) ∧ w'.cell? Ac = some (.int .i64 ((rd_T55 l1 0).f0)) ∧ cA w' Ac 1 (.int .i64 ((rd_T55 l1 0).f1)) ∧ cA w' Ac 2 (.int .i64 ((rd_T55 l1 0).f2)) ∧ cA w' Ac 3 (.string ((rd_T55 l1 0).f3)) ∧ cA w' Ac 4 (.bool ((rd_T55 l1 0).f4.f0)) ∧ cA w' Ac 5 (.slice Fx ((rd_T55 l1 0).f4.f1).length c167_5) ∧ cA w' Ac 6 (.int .i64 ((rd_T55 l1 0).f4.f2.f0)) ∧ cA w' Ac 7 (.int .i64 ((rd_T55 l1 0).f4.f2.f1)) ∧ cA w' Ac 8 (.int .i64 ((rd_T55 l1 0).f4.f2.f2)) ∧ cA w' Ac 9 (.int .u32 ((rd_T55 l1 0).f4.f2.f3))) (ds := []) #[false, false, false, false, false, false, false, false, false, false, false, false] (by kernel_rfl) rfl rfl ⟨(blk_cell Aa.out 0).trans rfl, (blk_cell Aa.out 1).trans rfl, (blk_cell Aa.out 2).trans rfl, (blk_cell Aa.out 3).trans rfl, (blk_cell Aa.out 4).trans rfl, (blk_cell Aa.out 5).trans rfl, (blk_cell Aa.out 6).trans rfl, (cT HB.out Bw), (cT HB.out Bv), (cT HB.out Bu), (cT HB.out Bt), (cT HB.out Bs), (cT HB.out Br), (cT HB.out Bq), (cT HB.out Bp), (cT HB.out Bo), (cT HB.out Bn)⟩ (fun hHeld => ?_); refine with_tabW raft_Put.tab8 raft_Put.bits8 (fun HT_ HW_ => ?_)
   generalize w45.drew = w46 at Aa Ae HB Fr A9 Ba Bb Bc Bd Be Bf Bg Bh Bi hHeld ⊢
   refine pui 1 52 12 2 HT_ ?_
   refine pui 2 53 12 6 HT_ ?_
   refine pui 3 54 12 14 HT_ ?_
   refine tki 0 51 12 15 HT_ HW_ hHeld ?_
   refine tki 4 55 12 31 HT_ HW_ hHeld ?_
   refine pui 5 56 12 63 HT_ ?_
   refine onei 6 57 12 127 HT_ (fun K hK => ?_)
   refine goes_ Try.func25 (by kernel_rfl) rfl #[.agg #[.int .i64 a0_0, .int .i64 a0_1, .slice A0_2 l0_2.length c0_2, .int .i64 a0_3, .int .i64 a0_4, .int .i64 a0_5, .int .i64 a0_6], .int .i64 (wrap64 (((rd_T55 l1 0).f0) - 1))] (by rfl) rfl rfl pL ?_
   with_reducible refine (raft_Term.calls kj3 a0_0 a0_1 _ _ l0_2 a0_3 a0_4 a0_5 a0_6 (wrap64 (((rd_T55 l1 0).f0) - 1)) t168 t169 _ ?Bx ?By A36.out).mono ?_
   (case Bx => exact pC (Kd.C_below Fc.out HB.out))
   (case By => exact Fd.out)
   rintro e w47 ⟨rfl, hb⟩
   refine ⟨_, rfl, ?_⟩
   replace Aa := kBa Aa hb
   replace Ae := kBa Ae hb
   replace HB := Am (below_step (pE2 HB.out Au.out A8.out) hb)
   (try clear hb)
   (try clear hb2)
   (try clear hk)
   (try clear hi)
   refine hK.out _ _ ⟨(blk_cell Aa.out 0).trans rfl, (blk_cell Aa.out 1).trans rfl, (blk_cell Aa.out 2).trans rfl, (blk_cell Aa.out 3).trans rfl, (blk_cell Aa.out 4).trans rfl, (blk_cell Aa.out 5).trans rfl, (blk_cell Aa.out 6).trans rfl, (cT HB.out Bw), (cT HB.out Bv), (cT HB.out Bu), (cT HB.out Bt), (cT HB.out Bs), (cT HB.out Br), (cT HB.out Bq), (cT HB.out Bp), (cT HB.out Bo), (cT HB.out Bn)⟩ (fun hHeld => ?_)
   clear hK K
   refine norm_ (a' := ?_) ?_ ?_
   rotate_left
   ·show Act.put _ (some 57) _ = _
    simp only [Act.put, List.setIfInBounds_toArray, List.set_cons_zero, List.set_cons_succ, i64_w, i32_w]
    rfl
   refine pui 7 50 12 255 HT_ ?_
   refine pui 8 58 12 511 HT_ ?_
   refine pui 9 59 12 1023 HT_ ?_
   refine pui 10 8 12 2047 HT_ ?_
   refine pui 11 9 12 4095 HT_ ?_
   refine done_ (done_of HT_.out (by kernel_rfl)) ?_
   have p170 : 0 ≤ (0 : Int) := (by omega)
   have q170 : 0 < (l1.length : Int) := of_decide_eq_true pS
   obtain ⟨Gi, J8, c170_5, e170, F3, F4, F5, F6, F7, F8, F9, Ga, Gb, Gc, Dn, Do⟩ := at_T55uz HR1.out p170 q170 HB.out
   obtain rfl : Ac = Gi := (by injection e170)
   have qi170 : (0 < l1.length) = True := eq_true (by omega)
   have Hu := Am Do
   have Hv := Am Dn
   clear Do Dn
   replace p170 := eq_true p170
   replace q170 := eq_true q170
   have hnb48 := Av.out
   have hnc48 := At.out
   obtain ⟨Ib, Ic, Ie, If, Ig, Ih, Ii⟩ := bc7 Aa.out
   obtain ⟨Ij, Ik, Il, Im, In, Io, Ip⟩ := bf7 Aa.out
   go_upto_block 1 with (first | ((with_reducible refine gate_callee (f := 23) rfl ?_); refine goesL_ (some 69) rfl rfl Try.func23 (by kernel_rfl) rfl #[.slice A0_2 l0_2.length c0_2] rfl pL ?_; (with_reducible refine (raft_owns.calls kj3 _ _ l0_2 t171 _ ?Bx ?By A43.out).mono ?_); (case Bx => exact pC (Kd.C_below Fc.out HB.out)); (case By => exact Fd.out); rintro e w50 ⟨v172, rfl, ho0, hb⟩; refine ⟨_, rfl, ?_⟩; have Jr := Am (Kd.N_lower (Kd.N_mono (ok' := fun k_ => (w.heap.size ≤ k_) ∧ k_ ≠ Ad ∧ k_ ≠ Bj) (Kd.S_N (Kd.S_bound ho0)) (fun k_ hk_ => ⟨(Nat.le_trans (below_size (pE2 HB.out Au.out A8.out)) hk_.2.1), (kF Aa.out k_ hk_.2.1), (kF Ae.out k_ hk_.2.1)⟩)) (below_size (pE2 HB.out Au.out A8.out))); replace Aa := kBa Aa hb; replace Ae := kBa Ae hb; replace HB := Am (below_step (pE2 HB.out Au.out A8.out) hb); (try clear hb); (try clear hb2); (try clear hk); (try clear hi); (try clear ho0); obtain ⟨C5, B9, Km⟩ := Kd.N_slice Jr.out; subst Km; obtain ⟨Iq, Ir, Is, It, Iu, Iv, Iw⟩ := bc7 Aa.out; obtain ⟨Ix, Iy, Iz, I0, I1, I2, I3⟩ := bf7 Aa.out))
   (try simp only [Act.put, List.setIfInBounds_toArray, List.set_cons_zero, List.set_cons_succ])
   go_cut [10] (fun v10 wc => ∃ (kq : Nat) (Ab : Int), v10 = .int .i64 Ab ∧ Aside0 (raft_Put.j2 kq l1 Ab a0_0 a0_1 t171 a0_3 a0_4 a0_5 a0_6 = some (r1, r2, r3, r4, r5, r6, r7, r8)) ∧ Aside0 (kq ≤ kj3) ∧ Aside0 (Kd.N k55 55 wc w.heap.size (fun k_ => (w.heap.size ≤ k_) ∧ k_ ≠ Ad ∧ k_ ≠ Bj) (.slice C5 t171.length B9) t171) ∧ Aside0 (wc.heap[Ad]? = some (.cells #[.int .i64 a0_0, .int .i64 a0_1, (.slice C5 t171.length B9), .int .i64 a0_3, .int .i64 a0_4, .int .i64 a0_5, .int .i64 a0_6] 26 (0, 0))) ∧ Aside0 (wc.heap[Bj]? = some (.cells #[.int .i64 0, .int .i64 0, (.slice none 0 0), .int .i64 0, .int .i64 0, .int .i64 0, .int .i64 0] 26 (0, 0))) ∧ Aside0 (Below w.heap.size w wc))
   case first =>
    have H := HC44.out
    clear HC44
    have H' := Am H
    clear H
    go_wp2
    go_loopg [10] kj3 (fun kq v10 w' => ∃ (Ag : Int), v10 = .int .i64 Ag ∧ Aside0 (raft_Put.l0 kq l1 t161 Ag a0_0 a0_1 t171 a0_3 a0_4 a0_5 a0_6 = some (r1, r2, r3, r4, r5, r6, r7, r8)) ∧ Aside0 (kq ≤ kj3) ∧ Aside0 (Kd.N k55 55 w' w.heap.size (fun k_ => (w.heap.size ≤ k_) ∧ k_ ≠ Ad ∧ k_ ≠ Bj) (.slice C5 t171.length B9) t171) ∧ Aside0 (w'.heap[Ad]? = some (.cells #[.int .i64 a0_0, .int .i64 a0_1, (.slice C5 t171.length B9), .int .i64 a0_3, .int .i64 a0_4, .int .i64 a0_5, .int .i64 a0_6] 26 (0, 0))) ∧ Aside0 (w'.heap[Bj]? = some (.cells #[.int .i64 0, .int .i64 0, (.slice none 0 0), .int .i64 0, .int .i64 0, .int .i64 0, .int .i64 0] 26 (0, 0))) ∧ Aside0 (Below w.heap.size w w'))
    case atStart => exact ⟨(0), (by first | rfl | (simp; done) | (simp [*]; done)), H', ⟨Nat.le_refl _⟩, ⟨by (with_reducible repeat (first | apply Kd.N_alloc | apply Kd.N_drewN | apply Kd.N_drew)); exact Kd.N_mono (Kd.N_far (p := ⟨Ad, 2, none⟩) (Kd.N_mono Jr.out (fun k_ hk => (⟨hk, hk.2.1⟩ : _ ∧ k_ ≠ Ad))) (fun _ hk => hk.2) (.slice C5 t171.length B9)) (fun _ hk => ⟨hk.1.1, ⟨hk.1.2.1, hk.1.2.2⟩⟩)⟩, ⟨by (with_reducible repeat (first | refine blk_drewN ?_ _ | refine blk_drew ?_ | refine blk_alloc ?_ _)); refine blk_put (cs := #[.int .i64 a0_0, .int .i64 a0_1, .slice A0_2 l0_2.length c0_2, .int .i64 a0_3, .int .i64 a0_4, .int .i64 a0_5, .int .i64 a0_6]) ?_ 2 _ rfl; (with_reducible repeat (first | refine blk_drewN ?_ _ | refine blk_drew ?_ | refine blk_alloc ?_ _)); exact Aa.out⟩, ⟨kX1 Ae.out At.out⟩, ⟨pE2 HB.out Au.out A8.out⟩⟩
    case round =>
     clear H'
     try clear c1
     try clear p1
     try clear q1
     try clear hx1
     try clear qi1
     try clear c2
     try clear p2
     try clear c3
     try clear c4
     try clear p6
     try clear c16
     try clear p16
     try clear q16
     try clear hx16
     try clear qi16
     try clear c17
     try clear p17
     try clear q17
     try clear hx17
     try clear qi17
     try clear c23
     try clear c25
     try clear c37
     try clear c37b0
     try clear c41
     try clear c48
     try clear Hw Hx Hy Hz H0 H2 H3
     try clear Ib Ic Ie If Ig Ih Ii
     try clear Iq Ir Is It Iu Iv Iw
     try clear H4 H5 H6 H7 H8 H9 Ia
     try clear Ij Ik Il Im In Io Ip
     try clear Ix Iy Iz I0 I1 I2 I3
     try clear Ai
     try clear Aj
     try clear Ak
     try clear Al
     try clear An
     try clear Ah
     try clear Ao
     try clear Ap
     try clear Aq
     try clear Ar
     try clear Fi
     try clear Fj
     try clear Fk
     try clear Fl
     try clear Fm
     try clear Di
     try clear Fn
     try clear Fo
     try clear Fp
     try clear Fq
     try clear A9
     try clear Ba
     try clear Bb
     try clear Bc
     try clear Bd
     try clear Be
     try clear Bf
     try clear Bg
     try clear Bh
     try clear Bi
     try clear F3
     try clear F4
     try clear F5
     try clear F6
     try clear F7
     try clear F8
     try clear F9
     try clear Ga
     try clear Gb
     try clear Gc
     try clear p165
     try clear p166
     try clear p167
     try clear p170
     try clear q165
     try clear q166
     try clear q167
     try clear q170
     obtain ⟨Ag, rfl, HA, HK2, Af, Aa, Ae, HB⟩ := hrel
     cases gk with
     | zero => exact absurd HA.out (by simp [raft_Put.l0])
     | succ k2 =>
      have H := HA.out
      clear HA
      simp only [raft_Put.l0] at H
      by_cases c53 : Ag < (l1.length : Int)
      rotate_left
      ·rw [if_neg c53] at H
       have c53b0 : decide (Ag < (l1.length : Int)) = false := decide_eq_false c53
       clear c53
       (first | rw [c53b0] | (simp only [i64_w, i32_w]; rw [c53b0]) | skip)
       have H' := Am H
       clear H
       try go_wp2
       replace Af := dNa Af
       replace Aa := kDa Aa
       replace Ae := kDa Ae
       replace HB := bDa HB
       refine start_ (n := 35) (S := fun w' => True) (ds := []) #[false, false, false, false, false, false, false, false, false, false, false, false, false, false, false, false, false, false, false, false, false, false, false, false, false, false, false, false, false, false, false, false, false, false, false] (by kernel_rfl) rfl rfl trivial (fun hHeld => ?_); refine with_tabW raft_Put.tab13 raft_Put.bits13 (fun HT_ HW_ => ?_)
       (first | generalize wr.drew = w63 at Af Aa Ae HB hHeld ⊢ | generalize wr.drew = w63 at Aa Ae HB hHeld ⊢)
       refine pui 0 71 35 1 HT_ ?_
       refine pui 1 72 35 3 HT_ ?_
       refine pui 2 73 35 7 HT_ ?_
       refine pui 3 74 35 15 HT_ ?_
       refine pui 4 75 35 31 HT_ ?_
       refine pdi 5 76 35 63 HT_ ?_
       refine pdi 6 77 35 127 HT_ ?_
       refine pdi 7 78 35 255 HT_ ?_
       refine pdi 8 79 35 511 HT_ ?_
       refine pdi 9 80 35 1023 HT_ ?_
       refine pdi 10 81 35 2047 HT_ ?_
       refine pdi 11 82 35 4095 HT_ ?_
       refine pui 12 83 35 8191 HT_ ?_
       refine pui 13 84 35 16383 HT_ ?_
       refine pdi 14 85 35 32767 HT_ ?_
       refine pdi 15 86 35 65535 HT_ ?_
       refine pdi 16 87 35 131071 HT_ ?_
       refine pdi 17 88 35 262143 HT_ ?_
       refine pdi 18 89 35 524287 HT_ ?_
       refine pdi 19 90 35 1048575 HT_ ?_
       refine pdi 20 91 35 2097151 HT_ ?_
       refine pdi 21 92 35 4194303 HT_ ?_
       refine pdi 22 93 35 8388607 HT_ ?_
       refine pdi 23 94 35 16777215 HT_ ?_
       refine pdi 24 95 35 33554431 HT_ ?_
       refine pdi 25 96 35 67108863 HT_ ?_
       refine pdi 26 97 35 134217727 HT_ ?_
       refine pdi 27 98 35 268435455 HT_ ?_
       refine pdi 28 99 35 536870911 HT_ ?_
       refine pdi 29 100 35 1073741823 HT_ ?_
       refine pdi 30 101 35 2147483647 HT_ ?_
       refine pdi 31 102 35 4294967295 HT_ ?_
       refine pdi 32 103 35 8589934591 HT_ ?_
       refine pdi 33 104 35 17179869183 HT_ ?_
       refine pui 34 105 35 34359738367 HT_ ?_
       refine done_ (done_of HT_.out (by kernel_rfl)) ?_
       try go_wp2
       go_meet
       case rel => exact ⟨_, (Ag), (by first | rfl | (simp; done) | (simp [*]; done)), H', ⟨by have := HJ3.out; have := HK2.out; first | omega | exact Nat.le_refl _⟩, ⟨by (with_reducible repeat (first | apply Kd.N_alloc | apply Kd.N_drewN | apply Kd.N_drew)); exact Af.out⟩, ⟨pK Aa.out⟩, ⟨pK Ae.out⟩, ⟨pE2 HB.out Au.out A8.out⟩⟩
      rw [if_pos c53] at H
      have c53b0 : decide (Ag < (l1.length : Int)) = true := decide_eq_true c53
      clear c53
      (first | rw [c53b0] | (simp only [i64_w, i32_w]; rw [c53b0]) | skip)
      by_cases c54 : 0 ≤ Ag
      rotate_left
      ·rw [if_neg c54] at H
       exact absurd H (by simp)
      rw [if_pos c54] at H
      have c54b0 : decide (0 ≤ Ag) = true := decide_eq_true c54
      clear c54
      by_cases c55 : ((rd_T55 l1 Ag).f0) ≤ t161
      rotate_left
      ·rw [if_neg c55] at H
       have c55b0 : decide (((rd_T55 l1 Ag).f0) ≤ t161) = false := decide_eq_false c55
       clear c55
       have H' := Am H
       clear H
       try go_wp2
       replace Af := dNa Af
       replace Aa := kDa Aa
       replace Ae := kDa Ae
       replace HB := bDa HB
       have p174 : 0 ≤ (Ag : Int) := of_decide_eq_true pS
       have q174 : Ag < (l1.length : Int) := of_decide_eq_true pS
       obtain ⟨Fu, Fe, c174_5, e174, Bz, B0, B1, B2, B3, Bk, B4, B5, B6, B7, Cc, Cd, Dp, Dq, Dr, Ds, Dt, Du, Dv, Dw, Dx, Dy⟩ := at_T55w HR1.out Ag p174 q174 HB.out
       obtain rfl : Ac = Fu := (by injection e174)
       have Ce := Am Cd
       have Gd := Am Cc
       clear Cd Cc
       replace p174 := eq_true p174
       replace q174 := eq_true q174
       refine start_ (n := 35) (S := fun w' => w'.cell? (Ac.add ((Ag).toNat * 10)) = some (.int .i64 ((rd_T55 l1 Ag).f0)) ∧ cA w' (Ac.add ((Ag).toNat * 10)) 1 (.int .i64 ((rd_T55 l1 Ag).f1)) ∧ cA w' (Ac.add ((Ag).toNat * 10)) 2 (.int .i64 ((rd_T55 l1 Ag).f2)) ∧ cA w' (Ac.add ((Ag).toNat * 10)) 3 (.string ((rd_T55 l1 Ag).f3)) ∧ cA w' (Ac.add ((Ag).toNat * 10)) 4 (.bool ((rd_T55 l1 Ag).f4.f0)) ∧ cA w' (Ac.add ((Ag).toNat * 10)) 5 (.slice Fe ((rd_T55 l1 Ag).f4.f1).length c174_5) ∧ cA w' (Ac.add ((Ag).toNat * 10)) 6 (.int .i64 ((rd_T55 l1 Ag).f4.f2.f0)) ∧ cA w' (Ac.add ((Ag).toNat * 10)) 7 (.int .i64 ((rd_T55 l1 Ag).f4.f2.f1)) ∧ cA w' (Ac.add ((Ag).toNat * 10)) 8 (.int .i64 ((rd_T55 l1 Ag).f4.f2.f2)) ∧ cA w' (Ac.add ((Ag).toNat * 10)) 9 (.int .u32 ((rd_T55 l1 Ag).f4.f2.f3))) (ds := []) #[false, false, false, false, false, false, false, false, false, false, false, false, false, false, false, false, false, false, false, false, false, false, false, false, false, false, false, false, false, false, false, false, false, false, false] (by kernel_rfl) rfl rfl ⟨(cT HB.out Dp), (cT HB.out Dq), (cT HB.out Dr), (cT HB.out Ds), (cT HB.out Dt), (cT HB.out Du), (cT HB.out Dv), (cT HB.out Dw), (cT HB.out Dx), (cT HB.out Dy)⟩ (fun hHeld => ?_); refine with_tabW raft_Put.tab13 raft_Put.bits13 (fun HT_ HW_ => ?_)
       (first | generalize wr.drew = w62 at Af Aa Ae HB Ce Bz B0 B1 B2 B3 Bk B4 B5 B6 B7 hHeld ⊢ | generalize wr.drew = w62 at Aa Ae HB Ce Bz B0 B1 B2 B3 Bk B4 B5 B6 B7 hHeld ⊢)
       refine pui 0 71 35 1 HT_ ?_
       refine pui 1 72 35 3 HT_ ?_
       refine pui 2 73 35 7 HT_ ?_
       refine pui 3 74 35 15 HT_ ?_
       refine pui 4 75 35 31 HT_ ?_
       refine pui 5 76 35 63 HT_ ?_
       refine pui 6 77 35 127 HT_ ?_
       refine pui 7 78 35 255 HT_ ?_
       refine pui 8 79 35 511 HT_ ?_
       refine pui 10 81 35 1535 HT_ ?_
       refine tki 9 80 35 2047 HT_ HW_ hHeld ?_
       refine pui 11 82 35 4095 HT_ ?_
       refine pui 12 83 35 8191 HT_ ?_
       refine pui 13 84 35 16383 HT_ ?_
       refine pdi 14 85 35 32767 HT_ ?_
       refine pdi 15 86 35 65535 HT_ ?_
       refine pdi 16 87 35 131071 HT_ ?_
       refine pdi 17 88 35 262143 HT_ ?_
       refine pdi 18 89 35 524287 HT_ ?_
       refine pdi 19 90 35 1048575 HT_ ?_
       refine pdi 20 91 35 2097151 HT_ ?_
       refine pdi 21 92 35 4194303 HT_ ?_
       refine pdi 22 93 35 8388607 HT_ ?_
       refine pdi 23 94 35 16777215 HT_ ?_
       refine pdi 24 95 35 33554431 HT_ ?_
       refine pdi 25 96 35 67108863 HT_ ?_
       refine pdi 26 97 35 134217727 HT_ ?_
       refine pdi 27 98 35 268435455 HT_ ?_
       refine pdi 28 99 35 536870911 HT_ ?_
       refine pdi 29 100 35 1073741823 HT_ ?_
       refine pdi 30 101 35 2147483647 HT_ ?_
       refine pdi 31 102 35 4294967295 HT_ ?_
       refine pdi 32 103 35 8589934591 HT_ ?_
       refine pdi 33 104 35 17179869183 HT_ ?_
       refine pui 34 105 35 34359738367 HT_ ?_
       refine done_ (done_of HT_.out (by kernel_rfl)) ?_
       try go_wp2
       go_meet
       case rel => exact ⟨_, (Ag), (by first | rfl | (simp; done) | (simp [*]; done)), H', ⟨by have := HJ3.out; have := HK2.out; first | omega | exact Nat.le_refl _⟩, ⟨by (with_reducible repeat (first | apply Kd.N_alloc | apply Kd.N_drewN | apply Kd.N_drew)); exact Af.out⟩, ⟨pK Aa.out⟩, ⟨pK Ae.out⟩, ⟨pE2 HB.out Au.out A8.out⟩⟩
      rw [if_pos c55] at H
      have c55b0 : decide (((rd_T55 l1 Ag).f0) ≤ t161) = true := decide_eq_true c55
      clear c55
      obtain ⟨ji56, hji56⟩ : ∃ j_ : Int, (wrap64 ((wrap64 (((rd_T55 l1 Ag).f0) - a0_0)) - 1)) = j_ := ⟨_, rfl⟩
      replace H : (if 0 ≤ (ji56) then (if (ji56) < (t171.length : Int) then (if ((rd_T55 t171 (ji56)).f1) = ((rd_T55 l1 Ag).f1) then (raft_Put.l0 k2 l1 t161 (wrap64 (Ag + 1)) a0_0 a0_1 t171 a0_3 a0_4 a0_5 a0_6) else (raft_Put.j2 k2 l1 Ag a0_0 a0_1 t171 a0_3 a0_4 a0_5 a0_6)) else (none)) else (none)) = some (r1, r2, r3, r4, r5, r6, r7, r8) := by first | (rw [hji56] at H; exact H) | (simp only [hji56] at H ⊢; exact H)
      (try rw [hji56] at c32b0)
      have hji56w : (IntKind.i64.wrap ((wrap64 (((rd_T55 l1 Ag).f0) - a0_0)) - 1)) = ji56 := (i64_w _).trans hji56
      by_cases c57 : 0 ≤ (ji56)
      rotate_left
      ·rw [if_neg c57] at H
       exact absurd H (by simp)
      rw [if_pos c57] at H
      have c57b0 : decide (0 ≤ (ji56)) = true := decide_eq_true c57
      clear c57
      by_cases c58 : (ji56) < (t171.length : Int)
      rotate_left
      ·rw [if_neg c58] at H
       exact absurd H (by simp)
      rw [if_pos c58] at H
      have c58b0 : decide ((ji56) < (t171.length : Int)) = true := decide_eq_true c58
      clear c58
      by_cases c59 : ((rd_T55 t171 (ji56)).f1) = ((rd_T55 l1 Ag).f1)
      rotate_left
      ·rw [if_neg c59] at H
       have c59b0 : (((rd_T55 t171 (ji56)).f1) == ((rd_T55 l1 Ag).f1)) = false := beq_eq_false_iff_ne.mpr c59
       have c59b1 : (((rd_T55 t171 (ji56)).f1) != ((rd_T55 l1 Ag).f1)) = true := bne_iff_ne.mpr c59
       have H' := Am H
       clear H
       try go_wp2
       replace Af := dNa Af
       replace Aa := kDa Aa
       replace Ae := kDa Ae
       replace HB := bDa HB
       have p174 : 0 ≤ (Ag : Int) := of_decide_eq_true pS
       have q174 : Ag < (l1.length : Int) := of_decide_eq_true pS
       obtain ⟨Fu, Fe, c174_5, e174, Bz, B0, B1, B2, B3, Bk, B4, B5, B6, B7, Cc, Cd, Dp, Dq, Dr, Ds, Dt, Du, Dv, Dw, Dx, Dy⟩ := at_T55w HR1.out Ag p174 q174 HB.out
       obtain rfl : Ac = Fu := (by injection e174)
       have Ce := Am Cd
       have Gd := Am Cc
       clear Cd Cc
       replace p174 := eq_true p174
       replace q174 := eq_true q174
       have p175 : 0 ≤ (Ag : Int) := of_decide_eq_true pS
       have q175 : Ag < (l1.length : Int) := of_decide_eq_true pS
       obtain ⟨Gj, J9, c175_5, e175, Dz, D0, D1, D2, D3, C7, D4, D5, D6, D7, D8, D9, I4, I5, I6, I7, I8, I9, Ja, Jb, Jc, Jd⟩ := at_T55w HR1.out Ag p175 q175 HB.out
       obtain rfl : Ac = Gj := (by injection e175)
       have Ea := Am D9
       have Je := Am D8
       clear D9 D8
       replace p175 := eq_true p175
       replace q175 := eq_true q175
       have ea_ := Option.some.inj (Bk.symm.trans C7)
       injection ea_ with ea_ en_ ec_
       subst ea_
       subst ec_
       clear en_
       have p176 : 0 ≤ ((ji56) : Int) := of_decide_eq_true pS
       have q176 : (ji56) < (t171.length : Int) := of_decide_eq_true pS
       obtain ⟨As, Fy, c176_5, e176, C8, C9, Da, Db, Dc, B8, Dd, De, Df, Dg, Eb, Ec⟩ := at_T55 (Kd.N_reads' Af.out).2.2 (ji56) p176 q176
       cases e176
       obtain ⟨ce176, hce176, hMe176, hcc176⟩ := Kd.N_get Af.out z55 (ji56) p176 (by first | exact q176 | exact of_decide_eq_true pS | (have e_ := (Kd.N_reads' Af.out).1; omega))
       obtain ⟨ua176_5, uc176_5, rfl, ul176_5, ge176_5⟩ := k55_openF hMe176
       have hv176_5 := hcc176 5 _ rfl
       rw [add_field _ _ 5 (by omega)] at hv176_5
       replace hv176_5 := Option.some.inj (hv176_5.symm.trans B8)
       injection hv176_5 with hva_ hvn_ hvc_
       rw [hva_] at ge176_5
       rw [hvc_] at ul176_5
       have HL176_5 := Am (show Kd.V (Kd.int .u8) 5 _ w.heap.size _ _ ((rd_T55 t171 (ji56)).f4.f1) from Kd.V_mk ul176_5 ge176_5)
       clear hva_ hvn_ hvc_ ge176_5 ul176_5
       clear hcc176 hce176
       have Ed := Am Ec
       have Jf := Am Eb
       clear Ec Eb
       replace p176 := eq_true p176
       replace q176 := eq_true q176
       have p177 : 0 ≤ (Ag : Int) := of_decide_eq_true pS
       have q177 : Ag < (l1.length : Int) := of_decide_eq_true pS
       obtain ⟨Gk, Ka, c177_5, e177, Ee, Ef, Eg, Eh, Ei, Dh, Ej, Ek, El, Em, En, Eo, Jg, Jh, Ji, Jj, Jk, Jl, Jm, Jn, Jo, Jp⟩ := at_T55w HR1.out Ag p177 q177 HB.out
       obtain rfl : Ac = Gk := (by injection e177)
       have Ep := Am Eo
       have Jq := Am En
       clear Eo En
       replace p177 := eq_true p177
       replace q177 := eq_true q177
       have ea_ := Option.some.inj (Bk.symm.trans Dh)
       injection ea_ with ea_ en_ ec_
       subst ea_
       subst ec_
       clear en_
       refine start_ (n := 35) (S := fun w' => cG w' Ad 0 (.int .i64 a0_0) ∧ cG w' Ad 1 (.int .i64 a0_1) ∧ cG w' Ad 2 (.slice (some As) t171.length B9) ∧ cG w' Ad 3 (.int .i64 a0_3) ∧ cG w' Ad 4 (.int .i64 a0_4) ∧ cG w' Ad 5 (.int .i64 a0_5) ∧ cG w' Ad 6 (.int .i64 a0_6) ∧ w'.cell? (Ac.add ((Ag).toNat * 10)) = some (.int .i64 ((rd_T55 l1 Ag).f0)) ∧ cA w' (Ac.add ((Ag).toNat * 10)) 1 (.int .i64 ((rd_T55 l1 Ag).f1)) ∧ cA w' (Ac.add ((Ag).toNat * 10)) 2 (.int .i64 ((rd_T55 l1 Ag).f2)) ∧ cA w' (Ac.add ((Ag).toNat * 10)) 3 (.string ((rd_T55 l1 Ag).f3)) ∧ cA w' (Ac.add ((Ag).toNat * 10)) 4 (.bool ((rd_T55 l1 Ag).f4.f0)) ∧ cA w' (Ac.add ((Ag).toNat * 10)) 5 (.slice Fe ((rd_T55 l1 Ag).f4.f1).length c174_5) ∧ cA w' (Ac.add ((Ag).toNat * 10)) 6 (.int .i64 ((rd_T55 l1 Ag).f4.f2.f0)) ∧ cA w' (Ac.add ((Ag).toNat * 10)) 7 (.int .i64 ((rd_T55 l1 Ag).f4.f2.f1)) ∧ cA w' (Ac.add ((Ag).toNat * 10)) 8 (.int .i64 ((rd_T55 l1 Ag).f4.f2.f2)) ∧ cA w' (Ac.add ((Ag).toNat * 10)) 9 (.int .u32 ((rd_T55 l1 Ag).f4.f2.f3)) ∧ w'.cell? (As.add (((ji56)).toNat * 10)) = some (.int .i64 ((rd_T55 t171 (ji56)).f0)) ∧ w'.cell? ⟨(As.add (((ji56)).toNat * 10)).block, (As.add (((ji56)).toNat * 10)).off + 1, none⟩ = some (.int .i64 ((rd_T55 t171 (ji56)).f1)) ∧ w'.cell? ⟨(As.add (((ji56)).toNat * 10)).block, (As.add (((ji56)).toNat * 10)).off + 2, none⟩ = some (.int .i64 ((rd_T55 t171 (ji56)).f2)) ∧ w'.cell? ⟨(As.add (((ji56)).toNat * 10)).block, (As.add (((ji56)).toNat * 10)).off + 3, none⟩ = some (.string ((rd_T55 t171 (ji56)).f3)) ∧ w'.cell? ⟨(As.add (((ji56)).toNat * 10)).block, (As.add (((ji56)).toNat * 10)).off + 4, none⟩ = some (.bool ((rd_T55 t171 (ji56)).f4.f0)) ∧ w'.cell? ⟨(As.add (((ji56)).toNat * 10)).block, (As.add (((ji56)).toNat * 10)).off + 5, none⟩ = some (.slice Fy ((rd_T55 t171 (ji56)).f4.f1).length c176_5) ∧ w'.cell? ⟨(As.add (((ji56)).toNat * 10)).block, (As.add (((ji56)).toNat * 10)).off + 6, none⟩ = some (.int .i64 ((rd_T55 t171 (ji56)).f4.f2.f0)) ∧ w'.cell? ⟨(As.add (((ji56)).toNat * 10)).block, (As.add (((ji56)).toNat * 10)).off + 7, none⟩ = some (.int .i64 ((rd_T55 t171 (ji56)).f4.f2.f1)) ∧ w'.cell? ⟨(As.add (((ji56)).toNat * 10)).block, (As.add (((ji56)).toNat * 10)).off + 8, none⟩ = some (.int .i64 ((rd_T55 t171 (ji56)).f4.f2.f2)) ∧ w'.cell? ⟨(As.add (((ji56)).toNat * 10)).block, (As.add (((ji56)).toNat * 10)).off + 9, none⟩ = some (.int .u32 ((rd_T55 t171 (ji56)).f4.f2.f3))) (ds := []) #[false, false, false, false, false, false, false, false, false, false, false, false, false, false, false, false, false, false, false, false, false, false, false, false, false, false, false, false, false, false, false, false, false, false, false] (by kernel_rfl) rfl rfl ⟨(blk_cell Aa.out 0).trans rfl, (blk_cell Aa.out 1).trans rfl, (blk_cell Aa.out 2).trans rfl, (blk_cell Aa.out 3).trans rfl, (blk_cell Aa.out 4).trans rfl, (blk_cell Aa.out 5).trans rfl, (blk_cell Aa.out 6).trans rfl, (cT HB.out Dp), (cT HB.out Dq), (cT HB.out Dr), (cT HB.out Ds), (cT HB.out Dt), (cT HB.out Du), (cT HB.out Dv), (cT HB.out Dw), (cT HB.out Dx), (cT HB.out Dy), C8, C9, Da, Db, Dc, B8, Dd, De, Df, Dg⟩ (fun hHeld => ?_); refine with_tabW raft_Put.tab13 raft_Put.bits13 (fun HT_ HW_ => ?_)
       (first | generalize wr.drew = w61 at Af Aa Ae HB HL176_5 Ce Ea Ed Ep Bz B0 B1 B2 B3 Bk B4 B5 B6 B7 Dz D0 D1 D2 D3 C7 D4 D5 D6 D7 C8 C9 Da Db Dc B8 Dd De Df Dg Ee Ef Eg Eh Ei Dh Ej Ek El Em hHeld ⊢ | generalize wr.drew = w61 at Aa Ae HB HL176_5 Ce Ea Ed Ep Bz B0 B1 B2 B3 Bk B4 B5 B6 B7 Dz D0 D1 D2 D3 C7 D4 D5 D6 D7 C8 C9 Da Db Dc B8 Dd De Df Dg Ee Ef Eg Eh Ei Dh Ej Ek El Em hHeld ⊢)
       refine pui 0 71 35 1 HT_ ?_
       refine pui 1 72 35 3 HT_ ?_
       refine pui 2 73 35 7 HT_ ?_
       refine pui 3 74 35 15 HT_ ?_
       refine pui 4 75 35 31 HT_ ?_
       refine pui 5 76 35 63 HT_ ?_
       refine pui 6 77 35 127 HT_ ?_
       refine pui 7 78 35 255 HT_ ?_
       refine pui 8 79 35 511 HT_ ?_
       refine pui 10 81 35 1535 HT_ ?_
       refine tki 9 80 35 2047 HT_ HW_ hHeld ?_
       refine pui 11 82 35 4095 HT_ ?_
       refine pui 12 83 35 8191 HT_ ?_
       refine pui 13 84 35 16383 HT_ ?_
       refine pui 14 85 35 32767 HT_ ?_
       refine pui 16 87 35 98303 HT_ ?_
       refine pui 17 88 35 229375 HT_ ?_
       refine pui 18 89 35 491519 HT_ ?_
       refine pui 19 90 35 1015807 HT_ ?_
       refine pui 21 92 35 3112959 HT_ ?_
       refine pui 28 99 35 271548415 HT_ ?_
       refine pui 29 100 35 808419327 HT_ ?_
       refine pui 30 101 35 1882161151 HT_ ?_
       refine pui 31 102 35 4029644799 HT_ ?_
       refine tki 15 86 35 4029677567 HT_ HW_ hHeld ?_
       refine tki 20 91 35 4030726143 HT_ HW_ hHeld ?_
       refine tki 22 93 35 4034920447 HT_ HW_ hHeld ?_
       refine pui 23 94 35 4043309055 HT_ ?_
       refine pui 24 95 35 4060086271 HT_ ?_
       refine pui 25 96 35 4093640703 HT_ ?_
       refine pui 26 97 35 4160749567 HT_ ?_
       refine tki 27 98 35 4294967295 HT_ HW_ hHeld ?_
       refine tki 32 103 35 8589934591 HT_ HW_ hHeld ?_
       refine pui 33 104 35 17179869183 HT_ ?_
       refine pui 34 105 35 34359738367 HT_ ?_
       refine done_ (done_of HT_.out (by kernel_rfl)) ?_
       try go_wp2
       go_meet
       case rel => exact ⟨_, (Ag), (by first | rfl | (simp; done) | (simp [*]; done)), H', ⟨by have := HJ3.out; have := HK2.out; first | omega | exact Nat.le_refl _⟩, ⟨by (with_reducible repeat (first | apply Kd.N_alloc | apply Kd.N_drewN | apply Kd.N_drew)); exact Af.out⟩, ⟨pK Aa.out⟩, ⟨pK Ae.out⟩, ⟨pE2 HB.out Au.out A8.out⟩⟩
      rw [if_pos c59] at H
      have c59b0 : (((rd_T55 t171 (ji56)).f1) == ((rd_T55 l1 Ag).f1)) = true := beq_iff_eq.mpr c59
      have c59b1 : (((rd_T55 t171 (ji56)).f1) != ((rd_T55 l1 Ag).f1)) = false := bne_eq_false_iff_eq.mpr c59
      clear c59
      have H' := Am H
      clear H
      try go_wp2
      replace Af := dNa Af
      replace Aa := kDa Aa
      replace Ae := kDa Ae
      replace HB := bDa HB
      have p174 : 0 ≤ (Ag : Int) := of_decide_eq_true pS
      have q174 : Ag < (l1.length : Int) := of_decide_eq_true pS
      obtain ⟨Fu, Fe, c174_5, e174, Bz, B0, B1, B2, B3, Bk, B4, B5, B6, B7, Cc, Cd, Dp, Dq, Dr, Ds, Dt, Du, Dv, Dw, Dx, Dy⟩ := at_T55w HR1.out Ag p174 q174 HB.out
      obtain rfl : Ac = Fu := (by injection e174)
      have Ce := Am Cd
      have Gd := Am Cc
      clear Cd Cc
      replace p174 := eq_true p174
      replace q174 := eq_true q174
      have p175 : 0 ≤ (Ag : Int) := of_decide_eq_true pS
      have q175 : Ag < (l1.length : Int) := of_decide_eq_true pS
      obtain ⟨Gj, J9, c175_5, e175, Dz, D0, D1, D2, D3, C7, D4, D5, D6, D7, D8, D9, I4, I5, I6, I7, I8, I9, Ja, Jb, Jc, Jd⟩ := at_T55w HR1.out Ag p175 q175 HB.out
      obtain rfl : Ac = Gj := (by injection e175)
      have Ea := Am D9
      have Je := Am D8
      clear D9 D8
      replace p175 := eq_true p175
      replace q175 := eq_true q175
      have ea_ := Option.some.inj (Bk.symm.trans C7)
      injection ea_ with ea_ en_ ec_
      subst ea_
      subst ec_
      clear en_
      have p176 : 0 ≤ ((ji56) : Int) := of_decide_eq_true pS
      have q176 : (ji56) < (t171.length : Int) := of_decide_eq_true pS
      obtain ⟨As, Fy, c176_5, e176, C8, C9, Da, Db, Dc, B8, Dd, De, Df, Dg, Eb, Ec⟩ := at_T55 (Kd.N_reads' Af.out).2.2 (ji56) p176 q176
      cases e176
      obtain ⟨ce176, hce176, hMe176, hcc176⟩ := Kd.N_get Af.out z55 (ji56) p176 (by first | exact q176 | exact of_decide_eq_true pS | (have e_ := (Kd.N_reads' Af.out).1; omega))
      obtain ⟨ua176_5, uc176_5, rfl, ul176_5, ge176_5⟩ := k55_openF hMe176
      have hv176_5 := hcc176 5 _ rfl
      rw [add_field _ _ 5 (by omega)] at hv176_5
      replace hv176_5 := Option.some.inj (hv176_5.symm.trans B8)
      injection hv176_5 with hva_ hvn_ hvc_
      rw [hva_] at ge176_5
      rw [hvc_] at ul176_5
      have HL176_5 := Am (show Kd.V (Kd.int .u8) 5 _ w.heap.size _ _ ((rd_T55 t171 (ji56)).f4.f1) from Kd.V_mk ul176_5 ge176_5)
      clear hva_ hvn_ hvc_ ge176_5 ul176_5
      clear hcc176 hce176
      have Ed := Am Ec
      have Jf := Am Eb
      clear Ec Eb
      replace p176 := eq_true p176
      replace q176 := eq_true q176
      have p177 : 0 ≤ (Ag : Int) := of_decide_eq_true pS
      have q177 : Ag < (l1.length : Int) := of_decide_eq_true pS
      obtain ⟨Gk, Ka, c177_5, e177, Ee, Ef, Eg, Eh, Ei, Dh, Ej, Ek, El, Em, En, Eo, Jg, Jh, Ji, Jj, Jk, Jl, Jm, Jn, Jo, Jp⟩ := at_T55w HR1.out Ag p177 q177 HB.out
      obtain rfl : Ac = Gk := (by injection e177)
      have Ep := Am Eo
      have Jq := Am En
      clear Eo En
      replace p177 := eq_true p177
      replace q177 := eq_true q177
      have ea_ := Option.some.inj (Bk.symm.trans Dh)
      injection ea_ with ea_ en_ ec_
      subst ea_
      subst ec_
      clear en_
      refine start_ (n := 35) (S := fun w' => cG w' Ad 0 (.int .i64 a0_0) ∧ cG w' Ad 1 (.int .i64 a0_1) ∧ cG w' Ad 2 (.slice (some As) t171.length B9) ∧ cG w' Ad 3 (.int .i64 a0_3) ∧ cG w' Ad 4 (.int .i64 a0_4) ∧ cG w' Ad 5 (.int .i64 a0_5) ∧ cG w' Ad 6 (.int .i64 a0_6) ∧ w'.cell? (Ac.add ((Ag).toNat * 10)) = some (.int .i64 ((rd_T55 l1 Ag).f0)) ∧ cA w' (Ac.add ((Ag).toNat * 10)) 1 (.int .i64 ((rd_T55 l1 Ag).f1)) ∧ cA w' (Ac.add ((Ag).toNat * 10)) 2 (.int .i64 ((rd_T55 l1 Ag).f2)) ∧ cA w' (Ac.add ((Ag).toNat * 10)) 3 (.string ((rd_T55 l1 Ag).f3)) ∧ cA w' (Ac.add ((Ag).toNat * 10)) 4 (.bool ((rd_T55 l1 Ag).f4.f0)) ∧ cA w' (Ac.add ((Ag).toNat * 10)) 5 (.slice Fe ((rd_T55 l1 Ag).f4.f1).length c174_5) ∧ cA w' (Ac.add ((Ag).toNat * 10)) 6 (.int .i64 ((rd_T55 l1 Ag).f4.f2.f0)) ∧ cA w' (Ac.add ((Ag).toNat * 10)) 7 (.int .i64 ((rd_T55 l1 Ag).f4.f2.f1)) ∧ cA w' (Ac.add ((Ag).toNat * 10)) 8 (.int .i64 ((rd_T55 l1 Ag).f4.f2.f2)) ∧ cA w' (Ac.add ((Ag).toNat * 10)) 9 (.int .u32 ((rd_T55 l1 Ag).f4.f2.f3)) ∧ w'.cell? (As.add (((ji56)).toNat * 10)) = some (.int .i64 ((rd_T55 t171 (ji56)).f0)) ∧ w'.cell? ⟨(As.add (((ji56)).toNat * 10)).block, (As.add (((ji56)).toNat * 10)).off + 1, none⟩ = some (.int .i64 ((rd_T55 t171 (ji56)).f1)) ∧ w'.cell? ⟨(As.add (((ji56)).toNat * 10)).block, (As.add (((ji56)).toNat * 10)).off + 2, none⟩ = some (.int .i64 ((rd_T55 t171 (ji56)).f2)) ∧ w'.cell? ⟨(As.add (((ji56)).toNat * 10)).block, (As.add (((ji56)).toNat * 10)).off + 3, none⟩ = some (.string ((rd_T55 t171 (ji56)).f3)) ∧ w'.cell? ⟨(As.add (((ji56)).toNat * 10)).block, (As.add (((ji56)).toNat * 10)).off + 4, none⟩ = some (.bool ((rd_T55 t171 (ji56)).f4.f0)) ∧ w'.cell? ⟨(As.add (((ji56)).toNat * 10)).block, (As.add (((ji56)).toNat * 10)).off + 5, none⟩ = some (.slice Fy ((rd_T55 t171 (ji56)).f4.f1).length c176_5) ∧ w'.cell? ⟨(As.add (((ji56)).toNat * 10)).block, (As.add (((ji56)).toNat * 10)).off + 6, none⟩ = some (.int .i64 ((rd_T55 t171 (ji56)).f4.f2.f0)) ∧ w'.cell? ⟨(As.add (((ji56)).toNat * 10)).block, (As.add (((ji56)).toNat * 10)).off + 7, none⟩ = some (.int .i64 ((rd_T55 t171 (ji56)).f4.f2.f1)) ∧ w'.cell? ⟨(As.add (((ji56)).toNat * 10)).block, (As.add (((ji56)).toNat * 10)).off + 8, none⟩ = some (.int .i64 ((rd_T55 t171 (ji56)).f4.f2.f2)) ∧ w'.cell? ⟨(As.add (((ji56)).toNat * 10)).block, (As.add (((ji56)).toNat * 10)).off + 9, none⟩ = some (.int .u32 ((rd_T55 t171 (ji56)).f4.f2.f3))) (ds := []) #[false, false, false, false, false, false, false, false, false, false, false, false, false, false, false, false, false, false, false, false, false, false, false, false, false, false, false, false, false, false, false, false, false, false, false] (by kernel_rfl) rfl rfl ⟨(blk_cell Aa.out 0).trans rfl, (blk_cell Aa.out 1).trans rfl, (blk_cell Aa.out 2).trans rfl, (blk_cell Aa.out 3).trans rfl, (blk_cell Aa.out 4).trans rfl, (blk_cell Aa.out 5).trans rfl, (blk_cell Aa.out 6).trans rfl, (cT HB.out Dp), (cT HB.out Dq), (cT HB.out Dr), (cT HB.out Ds), (cT HB.out Dt), (cT HB.out Du), (cT HB.out Dv), (cT HB.out Dw), (cT HB.out Dx), (cT HB.out Dy), C8, C9, Da, Db, Dc, B8, Dd, De, Df, Dg⟩ (fun hHeld => ?_); refine with_tabW raft_Put.tab13 raft_Put.bits13 (fun HT_ HW_ => ?_)
      (first | generalize wr.drew = w60 at Af Aa Ae HB HL176_5 Ce Ea Ed Ep Bz B0 B1 B2 B3 Bk B4 B5 B6 B7 Dz D0 D1 D2 D3 C7 D4 D5 D6 D7 C8 C9 Da Db Dc B8 Dd De Df Dg Ee Ef Eg Eh Ei Dh Ej Ek El Em hHeld ⊢ | generalize wr.drew = w60 at Aa Ae HB HL176_5 Ce Ea Ed Ep Bz B0 B1 B2 B3 Bk B4 B5 B6 B7 Dz D0 D1 D2 D3 C7 D4 D5 D6 D7 C8 C9 Da Db Dc B8 Dd De Df Dg Ee Ef Eg Eh Ei Dh Ej Ek El Em hHeld ⊢)
      refine pui 0 71 35 1 HT_ ?_
      refine pui 1 72 35 3 HT_ ?_
      refine pui 2 73 35 7 HT_ ?_
      refine pui 3 74 35 15 HT_ ?_
      refine pui 4 75 35 31 HT_ ?_
      refine pui 5 76 35 63 HT_ ?_
      refine pui 6 77 35 127 HT_ ?_
      refine pui 7 78 35 255 HT_ ?_
      refine pui 8 79 35 511 HT_ ?_
      refine pui 10 81 35 1535 HT_ ?_
      refine tki 9 80 35 2047 HT_ HW_ hHeld ?_
      refine pui 11 82 35 4095 HT_ ?_
      refine pui 12 83 35 8191 HT_ ?_
      refine pui 13 84 35 16383 HT_ ?_
      refine pui 14 85 35 32767 HT_ ?_
      refine pui 16 87 35 98303 HT_ ?_
      refine pui 17 88 35 229375 HT_ ?_
      refine pui 18 89 35 491519 HT_ ?_
      refine pui 19 90 35 1015807 HT_ ?_
      refine pui 21 92 35 3112959 HT_ ?_
      refine pui 28 99 35 271548415 HT_ ?_
      refine pui 29 100 35 808419327 HT_ ?_
      refine pui 30 101 35 1882161151 HT_ ?_
      refine pui 31 102 35 4029644799 HT_ ?_
      refine tki 15 86 35 4029677567 HT_ HW_ hHeld ?_
      refine tki 20 91 35 4030726143 HT_ HW_ hHeld ?_
      refine tki 22 93 35 4034920447 HT_ HW_ hHeld ?_
      refine pui 23 94 35 4043309055 HT_ ?_
      refine pui 24 95 35 4060086271 HT_ ?_
      refine pui 25 96 35 4093640703 HT_ ?_
      refine pui 26 97 35 4160749567 HT_ ?_
      refine tki 27 98 35 4294967295 HT_ HW_ hHeld ?_
      refine tki 32 103 35 8589934591 HT_ HW_ hHeld ?_
      refine pui 33 104 35 17179869183 HT_ ?_
      refine pui 34 105 35 34359738367 HT_ ?_
      refine done_ (done_of HT_.out (by kernel_rfl)) ?_
      try go_wp2
      go_roundg k2
      case measure => have := HJ3.out; have := HK2.out; omega
      case rel => exact ⟨(wrap64 (Ag + 1)), (by first | rfl | (simp; done) | (simp [*]; done)), H', ⟨by have := HJ3.out; have := HK2.out; omega⟩, ⟨by (with_reducible repeat (first | apply Kd.N_alloc | apply Kd.N_drewN | apply Kd.N_drew)); exact Af.out⟩, ⟨pK Aa.out⟩, ⟨pK Ae.out⟩, ⟨pE2 HB.out Au.out A8.out⟩⟩
   case rest =>
    clear HC44
    try clear c1
    try clear p1
    try clear q1
    try clear hx1
    try clear p2
    try clear c5
    try clear c17
    try clear p17
    try clear q17
    try clear hx17
    try clear c53
    try clear c53b0
    try clear c54
    try clear c55
    try clear c55b0
    try clear c57
    try clear c58
    try clear Bz
    try clear B0
    try clear B1
    try clear B2
    try clear B3
    try clear Bk
    try clear B4
    try clear B5
    try clear B6
    try clear B7
    try clear p174
    try clear q174
    obtain ⟨kq, Ab, rfl, HA, HJ43, Af, Aa, Ae, HB⟩ := hcut
    cases kq with
    | zero => exact absurd HA.out (by simp [raft_Put.j2])
    | succ kj43 =>
     have H := HA.out
     clear HA
     simp only [raft_Put.j2] at H
     by_cases c64 : Ab = (l1.length : Int)
     ·rw [if_pos c64] at H
      have c64b0 : (Ab == (l1.length : Int)) = true := beq_iff_eq.mpr c64
      have c64b1 : (Ab != (l1.length : Int)) = false := bne_eq_false_iff_eq.mpr c64
      clear c64
      simp only [Option.some.injEq, Prod.mk.injEq] at H
      obtain ⟨rfl, rfl, rfl, rfl, rfl, rfl, rfl, rfl⟩ := H
      have hnb65 := Av.out
      have hnc65 := At.out
      obtain ⟨_, _, _, _, _, _, _⟩ := bc7 Aa.out
      obtain ⟨_, _, _, _, _, _, _⟩ := bf7 Aa.out
      obtain ⟨_, _, _, _, _, _, _⟩ := bc7 Ae.out
      obtain ⟨_, _, _, _, _, _, _⟩ := bf7 Ae.out
      go_wp2
      refine bodyPost_ret (results_ct rfl _ _ Bj 26 #[.int .i64 a0_0, .int .i64 a0_1, .slice C5 t171.length B9, .int .i64 a0_3, .int .i64 a0_4, .int .i64 a0_5, .int .i64 a0_6] (0, 0) _ rfl (kX0 Ae.out) Try.underlying26 rfl (by kernel_rfl)) rfl ?_
      exact ⟨_, pX, by (with_reducible repeat (first | apply Kd.N_alloc | apply Kd.N_drewN | apply Kd.N_drew)); exact Kd.N_mono (Nf7 (g := Bj) (Kd.N_mono Af.out (fun k_ hk => (⟨hk, hk.2.2⟩ : _ ∧ k_ ≠ Bj))) (fun _ hk => hk.2)) (fun _ hk => hk.1.1), pE2 HB.out Au.out A8.out⟩
     rw [if_neg c64] at H
     have c64b0 : (Ab == (l1.length : Int)) = false := beq_eq_false_iff_ne.mpr c64
     have c64b1 : (Ab != (l1.length : Int)) = true := bne_iff_ne.mpr c64
     by_cases c68 : 0 ≤ Ab
     rotate_left
     ·rw [if_neg c68] at H
      exact absurd H (by simp)
     rw [if_pos c68] at H
     have c68b0 : decide (0 ≤ Ab) = true := decide_eq_true c68
     clear c68
     by_cases c69 : Ab < (l1.length : Int)
     rotate_left
     ·rw [if_neg c69] at H
      exact absurd H (by simp)
     rw [if_pos c69] at H
     have c69b0 : decide (Ab < (l1.length : Int)) = true := decide_eq_true c69
     clear c69
     by_cases c70 : ((rd_T55 l1 Ab).f0) ≤ a0_5
     ·rw [if_pos c70] at H
      have c70b0 : decide (((rd_T55 l1 Ab).f0) ≤ a0_5) = true := decide_eq_true c70
      clear c70
      simp only [Option.some.injEq, Prod.mk.injEq] at H
      obtain ⟨rfl, rfl, rfl, rfl, rfl, rfl, rfl, rfl⟩ := H
      try go_wp2
      replace Af := dNa Af
      replace Aa := kDa Aa
      replace Ae := kDa Ae
      replace HB := bDa HB
      have p178 : 0 ≤ (Ab : Int) := of_decide_eq_true pS
      have q178 : Ab < (l1.length : Int) := of_decide_eq_true pS
      obtain ⟨Fv, Ff, c178_5, e178, Cf, Cg, Ch, Ci, Cj, Ck, Cl, Cm, Cn, Co, Cp, Cq, Er, Es, Et, Eu, Ew, Ex, Ey, Ez, E0, E1⟩ := at_T55w HR1.out Ab p178 q178 HB.out
      obtain rfl : Ac = Fv := (by injection e178)
      have Cr := Am Cq
      have Ge := Am Cp
      clear Cq Cp
      replace p178 := eq_true p178
      replace q178 := eq_true q178
      refine start_ (n := 10) (S := fun w' => cG w' Ad 0 (.int .i64 a0_0) ∧ cG w' Ad 1 (.int .i64 a0_1) ∧ cG w' Ad 2 (.slice C5 t171.length B9) ∧ cG w' Ad 3 (.int .i64 a0_3) ∧ cG w' Ad 4 (.int .i64 a0_4) ∧ cG w' Ad 5 (.int .i64 a0_5) ∧ cG w' Ad 6 (.int .i64 a0_6) ∧ w'.cell? (Ac.add ((Ab).toNat * 10)) = some (.int .i64 ((rd_T55 l1 Ab).f0)) ∧ cA w' (Ac.add ((Ab).toNat * 10)) 1 (.int .i64 ((rd_T55 l1 Ab).f1)) ∧ cA w' (Ac.add ((Ab).toNat * 10)) 2 (.int .i64 ((rd_T55 l1 Ab).f2)) ∧ cA w' (Ac.add ((Ab).toNat * 10)) 3 (.string ((rd_T55 l1 Ab).f3)) ∧ cA w' (Ac.add ((Ab).toNat * 10)) 4 (.bool ((rd_T55 l1 Ab).f4.f0)) ∧ cA w' (Ac.add ((Ab).toNat * 10)) 5 (.slice Ff ((rd_T55 l1 Ab).f4.f1).length c178_5) ∧ cA w' (Ac.add ((Ab).toNat * 10)) 6 (.int .i64 ((rd_T55 l1 Ab).f4.f2.f0)) ∧ cA w' (Ac.add ((Ab).toNat * 10)) 7 (.int .i64 ((rd_T55 l1 Ab).f4.f2.f1)) ∧ cA w' (Ac.add ((Ab).toNat * 10)) 8 (.int .i64 ((rd_T55 l1 Ab).f4.f2.f2)) ∧ cA w' (Ac.add ((Ab).toNat * 10)) 9 (.int .u32 ((rd_T55 l1 Ab).f4.f2.f3))) (ds := []) #[false, false, false, false, false, false, false, false, false, false] (by kernel_rfl) rfl rfl ⟨(blk_cell Aa.out 0).trans rfl, (blk_cell Aa.out 1).trans rfl, (blk_cell Aa.out 2).trans rfl, (blk_cell Aa.out 3).trans rfl, (blk_cell Aa.out 4).trans rfl, (blk_cell Aa.out 5).trans rfl, (blk_cell Aa.out 6).trans rfl, (cT HB.out Er), (cT HB.out Es), (cT HB.out Et), (cT HB.out Eu), (cT HB.out Ew), (cT HB.out Ex), (cT HB.out Ey), (cT HB.out Ez), (cT HB.out E0), (cT HB.out E1)⟩ (fun hHeld => ?_); refine with_tabW raft_Put.tab17 raft_Put.bits17 (fun HT_ HW_ => ?_)
      (first | generalize wc.drew = w71 at Af Aa Ae HB Cr Cf Cg Ch Ci Cj Ck Cl Cm Cn Co hHeld ⊢ | generalize wc.drew = w71 at Aa Ae HB Cr Cf Cg Ch Ci Cj Ck Cl Cm Cn Co hHeld ⊢)
      refine pui 0 113 10 1 HT_ ?_
      refine pui 1 114 10 3 HT_ ?_
      refine pui 2 115 10 7 HT_ ?_
      refine pui 3 116 10 15 HT_ ?_
      refine pui 5 118 10 47 HT_ ?_
      refine tki 4 117 10 63 HT_ HW_ hHeld ?_
      refine tki 6 119 10 127 HT_ HW_ hHeld ?_
      refine pui 7 120 10 255 HT_ ?_
      refine pui 8 121 10 511 HT_ ?_
      refine pui 9 11 10 1023 HT_ ?_
      refine done_ (done_of HT_.out (by kernel_rfl)) ?_
      try go_wp2
      replace Af := dNa Af
      replace Aa := kDa Aa
      replace Ae := kDa Ae
      replace HB := bDa HB
      have p179 : 0 ≤ (Ab : Int) := of_decide_eq_true pS
      have q179 : Ab < (l1.length : Int) := of_decide_eq_true pS
      obtain ⟨Fw, Fg, c179_5, e179, Cs, Ct, Cu, Cv, Cw, Cx, Cy, Cz, C0, C1, C2, C3, E2, E3, E4, E5, E6, E7, E8, E9, Fa, Fb⟩ := at_T55w HR1.out Ab p179 q179 HB.out
      obtain rfl : Ac = Fw := (by injection e179)
      have C4 := Am C3
      have Gf := Am C2
      clear C3 C2
      replace p179 := eq_true p179
      replace q179 := eq_true q179
      refine start_ (n := 10) (S := fun w' => cG w' Ad 0 (.int .i64 a0_0) ∧ cG w' Ad 1 (.int .i64 a0_1) ∧ cG w' Ad 2 (.slice C5 t171.length B9) ∧ cG w' Ad 3 (.int .i64 a0_3) ∧ cG w' Ad 4 (.int .i64 a0_4) ∧ cG w' Ad 5 (.int .i64 a0_5) ∧ cG w' Ad 6 (.int .i64 a0_6) ∧ w'.cell? (Ac.add ((Ab).toNat * 10)) = some (.int .i64 ((rd_T55 l1 Ab).f0)) ∧ cA w' (Ac.add ((Ab).toNat * 10)) 1 (.int .i64 ((rd_T55 l1 Ab).f1)) ∧ cA w' (Ac.add ((Ab).toNat * 10)) 2 (.int .i64 ((rd_T55 l1 Ab).f2)) ∧ cA w' (Ac.add ((Ab).toNat * 10)) 3 (.string ((rd_T55 l1 Ab).f3)) ∧ cA w' (Ac.add ((Ab).toNat * 10)) 4 (.bool ((rd_T55 l1 Ab).f4.f0)) ∧ cA w' (Ac.add ((Ab).toNat * 10)) 5 (.slice Fg ((rd_T55 l1 Ab).f4.f1).length c179_5) ∧ cA w' (Ac.add ((Ab).toNat * 10)) 6 (.int .i64 ((rd_T55 l1 Ab).f4.f2.f0)) ∧ cA w' (Ac.add ((Ab).toNat * 10)) 7 (.int .i64 ((rd_T55 l1 Ab).f4.f2.f1)) ∧ cA w' (Ac.add ((Ab).toNat * 10)) 8 (.int .i64 ((rd_T55 l1 Ab).f4.f2.f2)) ∧ cA w' (Ac.add ((Ab).toNat * 10)) 9 (.int .u32 ((rd_T55 l1 Ab).f4.f2.f3))) (ds := []) #[false, false, false, false, false, false, false, false, false, false] (by kernel_rfl) rfl rfl ⟨(blk_cell Aa.out 0).trans rfl, (blk_cell Aa.out 1).trans rfl, (blk_cell Aa.out 2).trans rfl, (blk_cell Aa.out 3).trans rfl, (blk_cell Aa.out 4).trans rfl, (blk_cell Aa.out 5).trans rfl, (blk_cell Aa.out 6).trans rfl, (cT HB.out E2), (cT HB.out E3), (cT HB.out E4), (cT HB.out E5), (cT HB.out E6), (cT HB.out E7), (cT HB.out E8), (cT HB.out E9), (cT HB.out Fa), (cT HB.out Fb)⟩ (fun hHeld => ?_); refine with_tabW raft_Put.tab18 raft_Put.bits18 (fun HT_ HW_ => ?_)
      (first | generalize w71.drew = w72 at Af Aa Ae HB C4 Cs Ct Cu Cv Cw Cx Cy Cz C0 C1 hHeld ⊢ | generalize w71.drew = w72 at Aa Ae HB C4 Cs Ct Cu Cv Cw Cx Cy Cz C0 C1 hHeld ⊢)
      refine pui 0 123 10 1 HT_ ?_
      refine pui 1 124 10 3 HT_ ?_
      refine pui 2 125 10 7 HT_ ?_
      refine pui 3 126 10 15 HT_ ?_
      refine pui 5 128 10 47 HT_ ?_
      refine pui 6 129 10 111 HT_ ?_
      refine tki 4 127 10 127 HT_ HW_ hHeld ?_
      refine tki 7 130 10 255 HT_ HW_ hHeld ?_
      refine pui 8 131 10 511 HT_ ?_
      refine pui 9 122 10 1023 HT_ ?_
      refine done_ (done_of HT_.out (by kernel_rfl)) ?_
      have hnb73 := At.out
      have hnc73 := Av.out
      obtain ⟨_, _, _, _, _, _, _⟩ := bc7 Ae.out
      obtain ⟨_, _, _, _, _, _, _⟩ := bf7 Ae.out
      try go_wp2
      refine bodyPost_ret (results_ct rfl _ _ Bj 26 #[.int .i64 0, .int .i64 0, .slice none 0 0, .int .i64 0, .int .i64 0, .int .i64 0, .int .i64 0] (0, 0) _ rfl (kX0 Ae.out) Try.underlying26 rfl (by kernel_rfl)) rfl ?_
      exact ⟨_, pX, by first | exact Kd.S_nil _ _ _ _ _ | exact Kd.N_nil _ _ _ _ _ | exact Kd.V_nil _ _ _ _ _ | exact Kd.Q_nil _ _ _ _ _ | exact Kd.R_nil _ _ _ _ _, pE2 HB.out Au.out A8.out⟩
     rw [if_neg c70] at H
     have c70b0 : decide (((rd_T55 l1 Ab).f0) ≤ a0_5) = false := decide_eq_false c70
     clear c70
     by_cases c75 : (wrap64 ((wrap64 ((wrap64 ((wrap64 (((rd_T55 l1 Ab).f0) - a0_0)) - 1)) + (l1.length : Int))) - Ab)) > 1000
     ·rw [if_pos c75] at H
      have c75b0 : decide (1000 < (wrap64 ((wrap64 ((wrap64 ((wrap64 (((rd_T55 l1 Ab).f0) - a0_0)) - 1)) + (l1.length : Int))) - Ab))) = true := decide_eq_true c75
      clear c75
      simp only [Option.some.injEq, Prod.mk.injEq] at H
      obtain ⟨rfl, rfl, rfl, rfl, rfl, rfl, rfl, rfl⟩ := H
      try go_wp2
      replace Af := dNa Af
      replace Aa := kDa Aa
      replace Ae := kDa Ae
      replace HB := bDa HB
      have p178 : 0 ≤ (Ab : Int) := of_decide_eq_true pS
      have q178 : Ab < (l1.length : Int) := of_decide_eq_true pS
      obtain ⟨Fv, Ff, c178_5, e178, Cf, Cg, Ch, Ci, Cj, Ck, Cl, Cm, Cn, Co, Cp, Cq, Er, Es, Et, Eu, Ew, Ex, Ey, Ez, E0, E1⟩ := at_T55w HR1.out Ab p178 q178 HB.out
      obtain rfl : Ac = Fv := (by injection e178)
      have Cr := Am Cq
      have Ge := Am Cp
      clear Cq Cp
      replace p178 := eq_true p178
      replace q178 := eq_true q178
      refine start_ (n := 10) (S := fun w' => cG w' Ad 0 (.int .i64 a0_0) ∧ cG w' Ad 1 (.int .i64 a0_1) ∧ cG w' Ad 2 (.slice C5 t171.length B9) ∧ cG w' Ad 3 (.int .i64 a0_3) ∧ cG w' Ad 4 (.int .i64 a0_4) ∧ cG w' Ad 5 (.int .i64 a0_5) ∧ cG w' Ad 6 (.int .i64 a0_6) ∧ w'.cell? (Ac.add ((Ab).toNat * 10)) = some (.int .i64 ((rd_T55 l1 Ab).f0)) ∧ cA w' (Ac.add ((Ab).toNat * 10)) 1 (.int .i64 ((rd_T55 l1 Ab).f1)) ∧ cA w' (Ac.add ((Ab).toNat * 10)) 2 (.int .i64 ((rd_T55 l1 Ab).f2)) ∧ cA w' (Ac.add ((Ab).toNat * 10)) 3 (.string ((rd_T55 l1 Ab).f3)) ∧ cA w' (Ac.add ((Ab).toNat * 10)) 4 (.bool ((rd_T55 l1 Ab).f4.f0)) ∧ cA w' (Ac.add ((Ab).toNat * 10)) 5 (.slice Ff ((rd_T55 l1 Ab).f4.f1).length c178_5) ∧ cA w' (Ac.add ((Ab).toNat * 10)) 6 (.int .i64 ((rd_T55 l1 Ab).f4.f2.f0)) ∧ cA w' (Ac.add ((Ab).toNat * 10)) 7 (.int .i64 ((rd_T55 l1 Ab).f4.f2.f1)) ∧ cA w' (Ac.add ((Ab).toNat * 10)) 8 (.int .i64 ((rd_T55 l1 Ab).f4.f2.f2)) ∧ cA w' (Ac.add ((Ab).toNat * 10)) 9 (.int .u32 ((rd_T55 l1 Ab).f4.f2.f3))) (ds := []) #[false, false, false, false, false, false, false, false, false, false] (by kernel_rfl) rfl rfl ⟨(blk_cell Aa.out 0).trans rfl, (blk_cell Aa.out 1).trans rfl, (blk_cell Aa.out 2).trans rfl, (blk_cell Aa.out 3).trans rfl, (blk_cell Aa.out 4).trans rfl, (blk_cell Aa.out 5).trans rfl, (blk_cell Aa.out 6).trans rfl, (cT HB.out Er), (cT HB.out Es), (cT HB.out Et), (cT HB.out Eu), (cT HB.out Ew), (cT HB.out Ex), (cT HB.out Ey), (cT HB.out Ez), (cT HB.out E0), (cT HB.out E1)⟩ (fun hHeld => ?_); refine with_tabW raft_Put.tab17 raft_Put.bits17 (fun HT_ HW_ => ?_)
      (first | generalize wc.drew = w76 at Af Aa Ae HB Cr Cf Cg Ch Ci Cj Ck Cl Cm Cn Co hHeld ⊢ | generalize wc.drew = w76 at Aa Ae HB Cr Cf Cg Ch Ci Cj Ck Cl Cm Cn Co hHeld ⊢)
      refine pui 0 113 10 1 HT_ ?_
      refine pui 1 114 10 3 HT_ ?_
      refine pui 2 115 10 7 HT_ ?_
      refine pui 3 116 10 15 HT_ ?_
      refine pui 5 118 10 47 HT_ ?_
      refine tki 4 117 10 63 HT_ HW_ hHeld ?_
      refine tki 6 119 10 127 HT_ HW_ hHeld ?_
      refine pui 7 120 10 255 HT_ ?_
      refine pui 8 121 10 511 HT_ ?_
      refine pui 9 11 10 1023 HT_ ?_
      refine done_ (done_of HT_.out (by kernel_rfl)) ?_
      try go_wp2
      replace Af := dNa Af
      replace Aa := kDa Aa
      replace Ae := kDa Ae
      replace HB := bDa HB
      have p179 : 0 ≤ (Ab : Int) := of_decide_eq_true pS
      have q179 : Ab < (l1.length : Int) := of_decide_eq_true pS
      obtain ⟨Fw, Fg, c179_5, e179, Cs, Ct, Cu, Cv, Cw, Cx, Cy, Cz, C0, C1, C2, C3, E2, E3, E4, E5, E6, E7, E8, E9, Fa, Fb⟩ := at_T55w HR1.out Ab p179 q179 HB.out
      obtain rfl : Ac = Fw := (by injection e179)
      have C4 := Am C3
      have Gf := Am C2
      clear C3 C2
      replace p179 := eq_true p179
      replace q179 := eq_true q179
      refine start_ (n := 10) (S := fun w' => cG w' Ad 0 (.int .i64 a0_0) ∧ cG w' Ad 1 (.int .i64 a0_1) ∧ cG w' Ad 2 (.slice C5 t171.length B9) ∧ cG w' Ad 3 (.int .i64 a0_3) ∧ cG w' Ad 4 (.int .i64 a0_4) ∧ cG w' Ad 5 (.int .i64 a0_5) ∧ cG w' Ad 6 (.int .i64 a0_6) ∧ w'.cell? (Ac.add ((Ab).toNat * 10)) = some (.int .i64 ((rd_T55 l1 Ab).f0)) ∧ cA w' (Ac.add ((Ab).toNat * 10)) 1 (.int .i64 ((rd_T55 l1 Ab).f1)) ∧ cA w' (Ac.add ((Ab).toNat * 10)) 2 (.int .i64 ((rd_T55 l1 Ab).f2)) ∧ cA w' (Ac.add ((Ab).toNat * 10)) 3 (.string ((rd_T55 l1 Ab).f3)) ∧ cA w' (Ac.add ((Ab).toNat * 10)) 4 (.bool ((rd_T55 l1 Ab).f4.f0)) ∧ cA w' (Ac.add ((Ab).toNat * 10)) 5 (.slice Fg ((rd_T55 l1 Ab).f4.f1).length c179_5) ∧ cA w' (Ac.add ((Ab).toNat * 10)) 6 (.int .i64 ((rd_T55 l1 Ab).f4.f2.f0)) ∧ cA w' (Ac.add ((Ab).toNat * 10)) 7 (.int .i64 ((rd_T55 l1 Ab).f4.f2.f1)) ∧ cA w' (Ac.add ((Ab).toNat * 10)) 8 (.int .i64 ((rd_T55 l1 Ab).f4.f2.f2)) ∧ cA w' (Ac.add ((Ab).toNat * 10)) 9 (.int .u32 ((rd_T55 l1 Ab).f4.f2.f3))) (ds := []) #[false, false, false, false, false, false, false, false, false, false] (by kernel_rfl) rfl rfl ⟨(blk_cell Aa.out 0).trans rfl, (blk_cell Aa.out 1).trans rfl, (blk_cell Aa.out 2).trans rfl, (blk_cell Aa.out 3).trans rfl, (blk_cell Aa.out 4).trans rfl, (blk_cell Aa.out 5).trans rfl, (blk_cell Aa.out 6).trans rfl, (cT HB.out E2), (cT HB.out E3), (cT HB.out E4), (cT HB.out E5), (cT HB.out E6), (cT HB.out E7), (cT HB.out E8), (cT HB.out E9), (cT HB.out Fa), (cT HB.out Fb)⟩ (fun hHeld => ?_); refine with_tabW raft_Put.tab18 raft_Put.bits18 (fun HT_ HW_ => ?_)
      (first | generalize w76.drew = w77 at Af Aa Ae HB C4 Cs Ct Cu Cv Cw Cx Cy Cz C0 C1 hHeld ⊢ | generalize w76.drew = w77 at Aa Ae HB C4 Cs Ct Cu Cv Cw Cx Cy Cz C0 C1 hHeld ⊢)
      refine pui 0 123 10 1 HT_ ?_
      refine pui 1 124 10 3 HT_ ?_
      refine pui 2 125 10 7 HT_ ?_
      refine pui 3 126 10 15 HT_ ?_
      refine pui 5 128 10 47 HT_ ?_
      refine pui 6 129 10 111 HT_ ?_
      refine tki 4 127 10 127 HT_ HW_ hHeld ?_
      refine tki 7 130 10 255 HT_ HW_ hHeld ?_
      refine pui 8 131 10 511 HT_ ?_
      refine pui 9 122 10 1023 HT_ ?_
      refine done_ (done_of HT_.out (by kernel_rfl)) ?_
      have hnb78 := At.out
      have hnc78 := Av.out
      obtain ⟨_, _, _, _, _, _, _⟩ := bc7 Ae.out
      obtain ⟨_, _, _, _, _, _, _⟩ := bf7 Ae.out
      try go_wp2
      refine bodyPost_ret (results_ct rfl _ _ Bj 26 #[.int .i64 0, .int .i64 0, .slice none 0 0, .int .i64 0, .int .i64 0, .int .i64 0, .int .i64 0] (0, 0) _ rfl (kX0 Ae.out) Try.underlying26 rfl (by kernel_rfl)) rfl ?_
      exact ⟨_, pX, by first | exact Kd.S_nil _ _ _ _ _ | exact Kd.N_nil _ _ _ _ _ | exact Kd.V_nil _ _ _ _ _ | exact Kd.Q_nil _ _ _ _ _ | exact Kd.R_nil _ _ _ _ _, pE2 HB.out Au.out A8.out⟩
     rw [if_neg c75] at H
     have c75b0 : decide (1000 < (wrap64 ((wrap64 ((wrap64 ((wrap64 (((rd_T55 l1 Ab).f0) - a0_0)) - 1)) + (l1.length : Int))) - Ab))) = false := decide_eq_false c75
     clear c75
     obtain ⟨ji80, hji80⟩ : ∃ j_ : Int, (wrap64 ((wrap64 (((rd_T55 l1 Ab).f0) - a0_0)) - 1)) = j_ := ⟨_, rfl⟩
     replace H : (if 0 ≤ (ji80) then (if (ji80) ≤ (t171.length : Int) then ((some (t171.take ((ji80) : Int).toNat : List (S55))).bind fun y180 => (if Ab ≤ (l1.length : Int) then ((raft_owns.f kj43 (l1.drop (Ab : Int).toNat)).bind fun t187 => (if y180.length + t187.length < 1353245080339 then (some (a0_0, a0_1, (y180 ++ t187), a0_3, a0_4, a0_5, a0_6, 0)) else (none))) else (none))) else (none)) else (none)) = some (r1, r2, r3, r4, r5, r6, r7, r8) := by first | (rw [hji80] at H; exact H) | (simp only [hji80] at H ⊢; exact H)
     (try rw [hji80] at c32b0)
     (try rw [hji80] at c75b0)
     have hji80w : (IntKind.i64.wrap ((wrap64 (((rd_T55 l1 Ab).f0) - a0_0)) - 1)) = ji80 := (i64_w _).trans hji80
     by_cases c81 : 0 ≤ (ji80)
     rotate_left
     ·rw [if_neg c81] at H
      exact absurd H (by simp)
     rw [if_pos c81] at H
     have c81b0 := eq_true c81
     have c81b1 : decide (0 ≤ (ji80)) = true := decide_eq_true c81
     clear c81
     by_cases c82 : (ji80) ≤ (t171.length : Int)
     rotate_left
     ·rw [if_neg c82] at H
      exact absurd H (by simp)
     rw [if_pos c82] at H
     have c82b0 := eq_true c82
     have c82b1 : decide ((ji80) ≤ (t171.length : Int)) = true := decide_eq_true c82
     clear c82
     obtain ⟨y180, hy180⟩ : ∃ y_ : List (S55), y_ = (t171.take ((ji80) : Int).toNat) := ⟨_, rfl⟩
     replace H : (if Ab ≤ (l1.length : Int) then ((raft_owns.f kj43 (l1.drop (Ab : Int).toNat)).bind fun t187 => (if y180.length + t187.length < 1353245080339 then (some (a0_0, a0_1, (y180 ++ t187), a0_3, a0_4, a0_5, a0_6, 0)) else (none))) else (none)) = some (r1, r2, r3, r4, r5, r6, r7, r8) := by first | (rw [hy180]; with_reducible exact H) | (have H2_ := (Option.bind_some _ _).symm.trans H; rw [hy180]; with_reducible exact H2_) | (have H2_ := (Option.bind_some _ _).symm.trans H; with_reducible exact H2_) | with_reducible exact H | (rw [hy180]; exact H) | exact H
     have Ny180 := Am hy180
     clear hy180
     have c83b0 := eq_true (of_decide_eq_true pS : 0 ≤ Ab)
     by_cases c84 : Ab ≤ (l1.length : Int)
     rotate_left
     ·rw [if_neg c84] at H
      exact absurd H (by simp)
     rw [if_pos c84] at H
     have c84b0 := eq_true c84
     have c84b1 : decide (Ab ≤ (l1.length : Int)) = true := decide_eq_true c84
     clear c84
     obtain ⟨y183, hy183⟩ : ∃ y_ : List (S55), y_ = (l1.drop (Ab : Int).toNat) := ⟨_, rfl⟩
     replace H : ((raft_owns.f kj43 y183).bind fun t187 => (if y180.length + t187.length < 1353245080339 then (some (a0_0, a0_1, (y180 ++ t187), a0_3, a0_4, a0_5, a0_6, 0)) else (none))) = some (r1, r2, r3, r4, r5, r6, r7, r8) := by first | (rw [hy183]; with_reducible exact H) | (have H2_ := (Option.bind_some _ _).symm.trans H; rw [hy183]; with_reducible exact H2_) | (have H2_ := (Option.bind_some _ _).symm.trans H; with_reducible exact H2_) | with_reducible exact H | (rw [hy183]; exact H) | exact H
     have Ny183 := Am hy183
     clear hy183
     replace H := Option.bind_eq_some_iff.mp H
     obtain ⟨t187, A850, H⟩ := H
     replace H : (if y180.length + t187.length < 1353245080339 then (some (a0_0, a0_1, (y180 ++ t187), a0_3, a0_4, a0_5, a0_6, 0)) else (none)) = some (r1, r2, r3, r4, r5, r6, r7, r8) := H
     have A85 := Am A850
     clear A850
     by_cases c86 : y180.length + t187.length < 1353245080339
     rotate_left
     ·rw [if_neg c86] at H
      exact absurd H (by simp)
     rw [if_pos c86] at H
     have LMc86 := Am c86
     clear c86
     obtain ⟨y190, hy190⟩ : ∃ y_ : List (S55), y_ = (y180 ++ t187) := ⟨_, rfl⟩
     replace H : (some (a0_0, a0_1, y190, a0_3, a0_4, a0_5, a0_6, 0)) = some (r1, r2, r3, r4, r5, r6, r7, r8) := by first | (rw [hy190]; with_reducible exact H) | (have H2_ := (Option.bind_some _ _).symm.trans H; rw [hy190]; with_reducible exact H2_) | (have H2_ := (Option.bind_some _ _).symm.trans H; with_reducible exact H2_) | with_reducible exact H | (rw [hy190]; exact H) | exact H
     have Ny190 := Am hy190
     clear hy190
     simp only [Option.some.injEq, Prod.mk.injEq] at H
     obtain ⟨rfl, rfl, rfl, rfl, rfl, rfl, rfl, rfl⟩ := H
     try go_wp2
     replace Af := dNa Af
     replace Aa := kDa Aa
     replace Ae := kDa Ae
     replace HB := bDa HB
     have p178 : 0 ≤ (Ab : Int) := of_decide_eq_true pS
     have q178 : Ab < (l1.length : Int) := of_decide_eq_true pS
     obtain ⟨Fv, Ff, c178_5, e178, Cf, Cg, Ch, Ci, Cj, Ck, Cl, Cm, Cn, Co, Cp, Cq, Er, Es, Et, Eu, Ew, Ex, Ey, Ez, E0, E1⟩ := at_T55w HR1.out Ab p178 q178 HB.out
     obtain rfl : Ac = Fv := (by injection e178)
     have Cr := Am Cq
     have Ge := Am Cp
     clear Cq Cp
     replace p178 := eq_true p178
     replace q178 := eq_true q178
     refine start_ (n := 10) (S := fun w' => cG w' Ad 0 (.int .i64 a0_0) ∧ cG w' Ad 1 (.int .i64 a0_1) ∧ cG w' Ad 2 (.slice C5 t171.length B9) ∧ cG w' Ad 3 (.int .i64 a0_3) ∧ cG w' Ad 4 (.int .i64 a0_4) ∧ cG w' Ad 5 (.int .i64 a0_5) ∧ cG w' Ad 6 (.int .i64 a0_6) ∧ w'.cell? (Ac.add ((Ab).toNat * 10)) = some (.int .i64 ((rd_T55 l1 Ab).f0)) ∧ cA w' (Ac.add ((Ab).toNat * 10)) 1 (.int .i64 ((rd_T55 l1 Ab).f1)) ∧ cA w' (Ac.add ((Ab).toNat * 10)) 2 (.int .i64 ((rd_T55 l1 Ab).f2)) ∧ cA w' (Ac.add ((Ab).toNat * 10)) 3 (.string ((rd_T55 l1 Ab).f3)) ∧ cA w' (Ac.add ((Ab).toNat * 10)) 4 (.bool ((rd_T55 l1 Ab).f4.f0)) ∧ cA w' (Ac.add ((Ab).toNat * 10)) 5 (.slice Ff ((rd_T55 l1 Ab).f4.f1).length c178_5) ∧ cA w' (Ac.add ((Ab).toNat * 10)) 6 (.int .i64 ((rd_T55 l1 Ab).f4.f2.f0)) ∧ cA w' (Ac.add ((Ab).toNat * 10)) 7 (.int .i64 ((rd_T55 l1 Ab).f4.f2.f1)) ∧ cA w' (Ac.add ((Ab).toNat * 10)) 8 (.int .i64 ((rd_T55 l1 Ab).f4.f2.f2)) ∧ cA w' (Ac.add ((Ab).toNat * 10)) 9 (.int .u32 ((rd_T55 l1 Ab).f4.f2.f3))) (ds := []) #[false, false, false, false, false, false, false, false, false, false] (by kernel_rfl) rfl rfl ⟨(blk_cell Aa.out 0).trans rfl, (blk_cell Aa.out 1).trans rfl, (blk_cell Aa.out 2).trans rfl, (blk_cell Aa.out 3).trans rfl, (blk_cell Aa.out 4).trans rfl, (blk_cell Aa.out 5).trans rfl, (blk_cell Aa.out 6).trans rfl, (cT HB.out Er), (cT HB.out Es), (cT HB.out Et), (cT HB.out Eu), (cT HB.out Ew), (cT HB.out Ex), (cT HB.out Ey), (cT HB.out Ez), (cT HB.out E0), (cT HB.out E1)⟩ (fun hHeld => ?_); refine with_tabW raft_Put.tab17 raft_Put.bits17 (fun HT_ HW_ => ?_)
     (first | generalize wc.drew = w87 at Af Aa Ae HB Cr Cf Cg Ch Ci Cj Ck Cl Cm Cn Co hHeld ⊢ | generalize wc.drew = w87 at Aa Ae HB Cr Cf Cg Ch Ci Cj Ck Cl Cm Cn Co hHeld ⊢)
     refine pui 0 113 10 1 HT_ ?_
     refine pui 1 114 10 3 HT_ ?_
     refine pui 2 115 10 7 HT_ ?_
     refine pui 3 116 10 15 HT_ ?_
     refine pui 5 118 10 47 HT_ ?_
     refine tki 4 117 10 63 HT_ HW_ hHeld ?_
     refine tki 6 119 10 127 HT_ HW_ hHeld ?_
     refine pui 7 120 10 255 HT_ ?_
     refine pui 8 121 10 511 HT_ ?_
     refine pui 9 11 10 1023 HT_ ?_
     refine done_ (done_of HT_.out (by kernel_rfl)) ?_
     try go_wp2
     replace Af := dNa Af
     replace Aa := kDa Aa
     replace Ae := kDa Ae
     replace HB := bDa HB
     have p179 : 0 ≤ (Ab : Int) := of_decide_eq_true pS
     have q179 : Ab < (l1.length : Int) := of_decide_eq_true pS
     obtain ⟨Fw, Fg, c179_5, e179, Cs, Ct, Cu, Cv, Cw, Cx, Cy, Cz, C0, C1, C2, C3, E2, E3, E4, E5, E6, E7, E8, E9, Fa, Fb⟩ := at_T55w HR1.out Ab p179 q179 HB.out
     obtain rfl : Ac = Fw := (by injection e179)
     have C4 := Am C3
     have Gf := Am C2
     clear C3 C2
     replace p179 := eq_true p179
     replace q179 := eq_true q179
     refine start_ (n := 10) (S := fun w' => cG w' Ad 0 (.int .i64 a0_0) ∧ cG w' Ad 1 (.int .i64 a0_1) ∧ cG w' Ad 2 (.slice C5 t171.length B9) ∧ cG w' Ad 3 (.int .i64 a0_3) ∧ cG w' Ad 4 (.int .i64 a0_4) ∧ cG w' Ad 5 (.int .i64 a0_5) ∧ cG w' Ad 6 (.int .i64 a0_6) ∧ w'.cell? (Ac.add ((Ab).toNat * 10)) = some (.int .i64 ((rd_T55 l1 Ab).f0)) ∧ cA w' (Ac.add ((Ab).toNat * 10)) 1 (.int .i64 ((rd_T55 l1 Ab).f1)) ∧ cA w' (Ac.add ((Ab).toNat * 10)) 2 (.int .i64 ((rd_T55 l1 Ab).f2)) ∧ cA w' (Ac.add ((Ab).toNat * 10)) 3 (.string ((rd_T55 l1 Ab).f3)) ∧ cA w' (Ac.add ((Ab).toNat * 10)) 4 (.bool ((rd_T55 l1 Ab).f4.f0)) ∧ cA w' (Ac.add ((Ab).toNat * 10)) 5 (.slice Fg ((rd_T55 l1 Ab).f4.f1).length c179_5) ∧ cA w' (Ac.add ((Ab).toNat * 10)) 6 (.int .i64 ((rd_T55 l1 Ab).f4.f2.f0)) ∧ cA w' (Ac.add ((Ab).toNat * 10)) 7 (.int .i64 ((rd_T55 l1 Ab).f4.f2.f1)) ∧ cA w' (Ac.add ((Ab).toNat * 10)) 8 (.int .i64 ((rd_T55 l1 Ab).f4.f2.f2)) ∧ cA w' (Ac.add ((Ab).toNat * 10)) 9 (.int .u32 ((rd_T55 l1 Ab).f4.f2.f3))) (ds := []) #[false, false, false, false, false, false, false, false, false, false] (by kernel_rfl) rfl rfl ⟨(blk_cell Aa.out 0).trans rfl, (blk_cell Aa.out 1).trans rfl, (blk_cell Aa.out 2).trans rfl, (blk_cell Aa.out 3).trans rfl, (blk_cell Aa.out 4).trans rfl, (blk_cell Aa.out 5).trans rfl, (blk_cell Aa.out 6).trans rfl, (cT HB.out E2), (cT HB.out E3), (cT HB.out E4), (cT HB.out E5), (cT HB.out E6), (cT HB.out E7), (cT HB.out E8), (cT HB.out E9), (cT HB.out Fa), (cT HB.out Fb)⟩ (fun hHeld => ?_); refine with_tabW raft_Put.tab18 raft_Put.bits18 (fun HT_ HW_ => ?_)
     (first | generalize w87.drew = w88 at Af Aa Ae HB C4 Cs Ct Cu Cv Cw Cx Cy Cz C0 C1 hHeld ⊢ | generalize w87.drew = w88 at Aa Ae HB C4 Cs Ct Cu Cv Cw Cx Cy Cz C0 C1 hHeld ⊢)
     refine pui 0 123 10 1 HT_ ?_
     refine pui 1 124 10 3 HT_ ?_
     refine pui 2 125 10 7 HT_ ?_
     refine pui 3 126 10 15 HT_ ?_
     refine pui 5 128 10 47 HT_ ?_
     refine pui 6 129 10 111 HT_ ?_
     refine tki 4 127 10 127 HT_ HW_ hHeld ?_
     refine tki 7 130 10 255 HT_ HW_ hHeld ?_
     refine pui 8 131 10 511 HT_ ?_
     refine pui 9 122 10 1023 HT_ ?_
     refine done_ (done_of HT_.out (by kernel_rfl)) ?_
     try go_wp2
     replace Af := dNa Af
     replace Aa := kDa Aa
     replace Ae := kDa Ae
     replace HB := bDa HB
     have q90 : ((ji80) : Int) ≤ ((t171.length : Int) : Int) := of_decide_eq_true pS
     obtain ⟨i090, hi090, _, Kl, _⟩ := info_parts info55
     have Kb := cut_to (P := Try.prog) 22 55 .i64 Try.underlying22 hi090 C5 t171.length B9 (ji80) (of_decide_eq_true pS) q90 (Kd.N_reads' Af.out).2.1
     have Gm := Kd.N_take (m := ((ji80) : Int).toNat) Af.out (by omega)
     have hy90 : y180.length = ((ji80) : Int).toNat := (by rw [Ny180.out, List.length_take]; omega)
     rw [← Ny180.out] at Gm
     rw [← hy90] at Gm Kb
     clear hy90 hi090 Kl Af
     have Dk := Am Gm
     clear Gm
     replace q90 := eq_true q90
     have q91 : (Ab : Int) ≤ ((l1.length : Int) : Int) := of_decide_eq_true pS
     obtain ⟨i091, hi091, _, Js, _⟩ := info_parts info55
     have Fs : l1.length ≤ c1 := HC1.out
     have Ke : Kd.C k55 _ (some Ac) l1.length l1 := HR1.out
     have q091 : (0 : Int) ≤ (Ab : Int) := of_decide_eq_true pS
     have Kc := cut_from (P := Try.prog) 22 55 .i64 Try.underlying22 hi091 10 Js (some Ac) l1.length c1 Ab q091 q91
     have Gg := Kd.C_drop (m := (Ab : Int).toNat) (c := c1) Ke (by omega) Fs
     obtain ⟨A91, hA91⟩ : ∃ AX_, AX_ = (if c1 = (Ab : Int).toNat then (some Ac) else ((some Ac) : Option Addr).map (·.add ((Ab : Int).toNat * 10))) := ⟨_, rfl⟩
     obtain ⟨c91, hc91⟩ : ∃ cX_, cX_ = c1 - (Ab : Int).toNat := ⟨_, rfl⟩
     have hy91 : y183.length = l1.length - (Ab : Int).toNat := (by rw [Ny183.out, List.length_drop] <;> omega)
     rw [show (l1).drop (Ab : Int).toNat = y183 from Ny183.out.symm] at Gg
     replace Gg : Kd.C k55 _ A91 y183.length y183 := (by rw [hA91]; exact Gg)
     rw [← hy91, ← hA91, ← hc91] at Kc
     have HR186 := Am Gg
     have HC186 := Am (show y183.length ≤ c91 from by rw [hy91, hc91]; exact Nat.sub_le_sub_right Fs _)
     clear Gg Ke Fs hi091 Js hc91
     have KY91 := Am hy91
     have KA91 := Am hA91
     clear hy91 hA91
     replace q91 := eq_true q91
     refine start_ (n := 11) (S := fun w' => cG w' Ad 0 (.int .i64 a0_0) ∧ cG w' Ad 1 (.int .i64 a0_1) ∧ cG w' Ad 2 (.slice C5 t171.length B9) ∧ cG w' Ad 3 (.int .i64 a0_3) ∧ cG w' Ad 4 (.int .i64 a0_4) ∧ cG w' Ad 5 (.int .i64 a0_5) ∧ cG w' Ad 6 (.int .i64 a0_6)) (ds := [10]) #[false, false, false, false, false, false, false, false, false, false, false] (by kernel_rfl) rfl rfl ⟨(blk_cell Aa.out 0).trans rfl, (blk_cell Aa.out 1).trans rfl, (blk_cell Aa.out 2).trans rfl, (blk_cell Aa.out 3).trans rfl, (blk_cell Aa.out 4).trans rfl, (blk_cell Aa.out 5).trans rfl, (blk_cell Aa.out 6).trans rfl⟩ (fun hHeld => ?_); refine with_tabW raft_Put.tab22 raft_Put.bits22 (fun HT_ HW_ => ?_)
     (first | generalize w88.drew = w89 at Af Aa Ae HB Dk HR186 hHeld ⊢ | generalize w88.drew = w89 at Aa Ae HB Dk HR186 hHeld ⊢)
     refine pui 0 142 11 1 HT_ ?_
     refine pui 2 144 11 5 HT_ ?_
     refine pui 4 146 11 21 HT_ ?_
     refine pui 5 147 11 53 HT_ ?_
     refine pui 6 148 11 117 HT_ ?_
     refine tki 1 143 11 119 HT_ HW_ hHeld ?_
     refine pui 3 145 11 127 HT_ ?_
     refine onei 7 149 11 255 HT_ (fun K hK => ?_)
     refine goes_ Try.func23 (by kernel_rfl) rfl #[.slice A91 y183.length c91] (by rfl) rfl rfl pL ?_
     with_reducible refine (raft_owns.calls kj43 _ _ y183 t187 _ ?Bx ?By A85.out).mono ?_
     (case Bx => exact pC (Kd.C_below HR186.out HB.out))
     (case By => exact HC186.out)
     rintro e w92 ⟨v188, rfl, ho0, hb⟩
     refine ⟨_, rfl, ?_⟩
     have F0 := Am (Kd.N_lower (Kd.N_mono (ok' := fun k_ => (w.heap.size ≤ k_) ∧ some k_ ≠ (.slice C5 y180.length B9 : Value).ownBlock ∧ k_ ≠ Ad ∧ k_ ≠ Bj) (Kd.S_N (Kd.S_bound ho0)) (fun k_ hk_ => ⟨(Nat.le_trans (below_size (pE2 HB.out Au.out A8.out)) hk_.2.1), (Kd.fresh' (Kd.N_lt (pN Dk.out)) k_ hk_.2.1), (kF Aa.out k_ hk_.2.1), (kF Ae.out k_ hk_.2.1)⟩)) (below_size (pE2 HB.out Au.out A8.out)))
     replace Dk := Am (Kd.N_elder' (pN Dk.out) (Kd.N_base (Kd.S_N ho0)) hb)
     replace Aa := kBa Aa hb
     replace Ae := kBa Ae hb
     replace HB := Am (below_step (pE2 HB.out Au.out A8.out) hb)
     (try clear hb)
     (try clear hb2)
     (try clear hk)
     (try clear hi)
     (try clear ho0)
     obtain ⟨Ao94, co94, Kf⟩ := Kd.N_slice F0.out
     (first | subst Kf | (injection Kf with f1_ f2_ f3_; have f4_ := f1_.symm; have f5_ := f3_.symm; clear f1_ f2_ f3_; subst f4_; subst f5_))
     refine hK.out _ _ ⟨(blk_cell Aa.out 0).trans rfl, (blk_cell Aa.out 1).trans rfl, (blk_cell Aa.out 2).trans rfl, (blk_cell Aa.out 3).trans rfl, (blk_cell Aa.out 4).trans rfl, (blk_cell Aa.out 5).trans rfl, (blk_cell Aa.out 6).trans rfl⟩ (fun hHeld => ?_)
     clear hK K
     refine norm_ (a' := ?_) ?_ ?_
     rotate_left
     ·show Act.put _ (some 149) _ = _
      simp only [Act.put, List.setIfInBounds_toArray, List.set_cons_zero, List.set_cons_succ, i64_w, i32_w]
      rfl
     refine onei 8 150 11 511 HT_ (fun K hK => ?_)
     refine Kd.N_append_rows_step k55 (w0 := w) w.heap.size (by rfl) (.tmp 145) (.tmp 149) 22 55 (.agg #[(.int .i64 0), (.int .i64 0), (.int .i64 0), (.string ⟨#[]⟩), (.bool false), (.slice none 0 0), (.int .i64 0), (.int .i64 0), (.int .i64 0), (.int .u32 0)]) 104 rfl Try.underlying22 info55 rfl (by decide) (by omega) (.slice C5 y180.length B9) y180 t187 _ _ _ (fun k_ => (w.heap.size ≤ k_) ∧ k_ ≠ Ad ∧ k_ ≠ Bj) (fun k_ => ((fun k_ => (w.heap.size ≤ k_) ∧ k_ ≠ Ad ∧ k_ ≠ Bj)) k_ ∧ some k_ ≠ (.slice C5 y180.length B9 : Value).ownBlock) rfl rfl ?aO ?aR (fun _ hk => hk) ?aF ?aB ?aS ?aL ?_
     (case aR => exact (by skip; exact Kd.N_F (Kd.N_mono (ok' := (fun k_ => ((fun k_ => (w.heap.size ≤ k_) ∧ k_ ≠ Ad ∧ k_ ≠ Bj)) k_ ∧ some k_ ≠ (.slice C5 y180.length B9 : Value).ownBlock)) (F0.out) (fun k_ hk => ⟨⟨hk.1, ⟨hk.2.2.1, hk.2.2.2⟩⟩, hk.2.1⟩))))
     (case aB => exact (pE2 HB.out Au.out A8.out))
     (case aF => exact (fun k_ hk => ⟨(Nat.le_trans (below_size (pE2 HB.out Au.out A8.out)) hk), kF Aa.out k_ hk, kF Ae.out k_ hk⟩))
     (case aO => exact (by (with_reducible repeat (first | apply Kd.N_alloc | apply Kd.N_drewN | apply Kd.N_drew)); exact Kd.N_mono Dk.out (fun _ hk => ⟨hk.1.1, ⟨hk.1.2.1, hk.1.2.2⟩⟩)))
     (case aS => exact (below_size (pE2 HB.out Au.out A8.out)))
     (case aL => have := LMc86.out; omega)
     intro v191 w93 ho hb hg hat
     rw [← Ny190.out] at ho
     replace Aa := Am (blk_grown (g := Ad) (o := .cells #[.int .i64 a0_0, .int .i64 a0_1, .slice C5 t171.length B9, .int .i64 a0_3, .int .i64 a0_4, .int .i64 a0_5, .int .i64 a0_6] 26 (0, 0)) (pK Aa.out) hg (Kd.N_ne Dk.out Aa.out (by decide)))
     replace Ae := Am (blk_grown (g := Bj) (o := .cells #[.int .i64 0, .int .i64 0, .slice none 0 0, .int .i64 0, .int .i64 0, .int .i64 0, .int .i64 0] 26 (0, 0)) (pK Ae.out) hg (Kd.N_ne Dk.out Ae.out (by decide)))
     replace F0 := Am (Kd.N_afterv (ok := (fun k_ => (w.heap.size ≤ k_) ∧ k_ ≠ Ad ∧ k_ ≠ Bj)) (by (with_reducible repeat (first | apply Kd.N_alloc | apply Kd.N_drewN | apply Kd.N_drew)); exact Kd.N_mono F0.out (fun _ hk => ⟨⟨hk.1, ⟨hk.2.2.1, hk.2.2.2⟩⟩, hk.2.1⟩)) hg hat)
     replace HB := Am (hb)
     have Jt := Am (ho)
     clear Dk
     clear ho hb hg hat
     obtain ⟨Kg, Kh, Ki⟩ := Kd.N_slice Jt.out
     (first | subst Ki | (injection Ki with f1_ f2_ f3_; have f4_ := f1_.symm; have f5_ := f3_.symm; clear f1_ f2_ f3_; subst f4_; subst f5_))
     refine hK.out _ _ ⟨(blk_cell Aa.out 0).trans rfl, (blk_cell Aa.out 1).trans rfl, (blk_cell Aa.out 2).trans rfl, (blk_cell Aa.out 3).trans rfl, (blk_cell Aa.out 4).trans rfl, (blk_cell Aa.out 5).trans rfl, (blk_cell Aa.out 6).trans rfl⟩ (fun hHeld => ?_)
     clear hK K
     refine norm_ (a' := ?_) ?_ ?_
     rotate_left
     ·show Act.put _ (some 150) _ = _
      simp only [Act.put, List.setIfInBounds_toArray, List.set_cons_zero, List.set_cons_succ, i64_w, i32_w]
      rfl
     refine pui 9 151 11 1023 HT_ ?_
     refine last_ (i := 10) (N := none) (bw 11 2047) rfl rfl (one_of HT_.out (by kernel_rfl)) (by decide) (fun K hK => ?_)
     have hs96 : w93.cell? ⟨Ad, 2, none⟩ = some (.slice C5 t171.length B9) := (blk_cell Aa.out 2).trans rfl
     have hfs96 := blk_frozen Aa.out 2
     have hns96_1 := At.out
     have hms96_1 := Av.out
     refine skip_ (w1 := ?_) (by rfl) rfl ?_ ?_
     rotate_left
     ·go_simp
      rfl
     refine hK.out _ _ ?_
     clear hK K
     refine done_ (done_of HT_.out (by kernel_rfl)) ?_
     have hnb97 := Av.out
     have hnc97 := At.out
     obtain ⟨_, _, _, _, _, _, _⟩ := bc7 Aa.out
     obtain ⟨_, _, _, _, _, _, _⟩ := bf7 Aa.out
     obtain ⟨_, _, _, _, _, _, _⟩ := bc7 Ae.out
     obtain ⟨_, _, _, _, _, _, _⟩ := bf7 Ae.out
     try go_wp2
     refine bodyPost_ret (results_ct rfl _ _ Bj 26 #[.int .i64 a0_0, .int .i64 a0_1, .slice Kg y190.length Kh, .int .i64 a0_3, .int .i64 a0_4, .int .i64 a0_5, .int .i64 a0_6] (0, 0) _ rfl (kX1 Ae.out At.out) Try.underlying26 rfl (by kernel_rfl)) rfl ?_
     exact ⟨_, by first | rfl | (simp [errW_none, errW_some] <;> rfl) | (simp only [← hji80]; first | rfl | (simp [errW_none, errW_some] <;> rfl)) | (simp [*, errW_none, errW_some] <;> rfl), by (with_reducible repeat (first | apply Kd.N_alloc | apply Kd.N_drewN | apply Kd.N_drew)); exact Kd.N_mono (Nf7 (g := Bj) (Kd.N_far (p := ⟨Ad, 2, none⟩) (Kd.N_mono (Kd.N_mono Jt.out (fun k_ hk => (⟨hk, hk.2.1⟩ : _ ∧ k_ ≠ Ad))) (fun k_ hk => (⟨hk, hk.1.2.2⟩ : _ ∧ k_ ≠ Bj))) (fun _ hk => hk.1.2) (.slice Kg y190.length Kh)) (fun _ hk => hk.2)) (fun _ hk => hk.1.1.1), pE2 HB.out Au.out A8.out⟩
end Go.Proofs.Ytangfpcifdpfeaa.PRaftTurns
