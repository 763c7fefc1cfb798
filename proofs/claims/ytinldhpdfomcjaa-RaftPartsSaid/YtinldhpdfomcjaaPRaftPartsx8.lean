/- What the law reaches, as plain Lean functions, and that the machine's calls answer just that. -/
import Derived.Test.YtinldhpdfomcjaaPRaftPartsx0
import Derived.Test.YtinldhpdfomcjaaPRaftPartsx4
import Derived.Test.YtinldhpdfomcjaaPRaftPartsx6
import Derived.Test.YtinldhpdfomcjaaPRaftPartsx7
namespace Go.Proofs.Ytinldhpdfomcjaa.PRaftParts
open Go.RowKit Go.Proofs.YtinldhpdfomcjaaW.PrintWords Go.Proofs.YtinldhpdfomcjaaW.PrintLast Go.Proofs.YtinldhpdfomcjaaW.PrintMore
attribute [local go_sem] max2_int min2_int max_two min_two max_three min_three max_four min_four
set_option linter.unusedVariables false
set_option linter.unusedSimpArgs false
attribute [local go_sem] wrap64_l1 wrap64_l2 wrap64_l3 wrap64_l4 wrap64_l5
mutual
def raft_Put.j0 : Nat → List (S46) → Int → Bool → Int → Int → List (S46) → Int → Int → Int → Int → Option (Int × Int × (List (S46)) × Int × Int × Int × Int × Int)
 | 0, _, _, _, _, _, _, _, _, _, _ => none
 | k + 1, x1, x6, x17, x160000, x160001, x160002, x160003, x160004, x160005, x160006 => if x17 = true then (some (0, 0, ([] : List (S46)), 0, 0, 0, 0, 1)) else (if 0 < (x1.length : Int) then (if ((rd_T46 x1 0).f0) ≤ x160000 then (some (0, 0, ([] : List (S46)), 0, 0, 0, 0, 4)) else (if ((rd_T46 x1 0).f0) > (wrap64 (x6 + 1)) then (some (0, 0, ([] : List (S46)), 0, 0, 0, 0, 5)) else ((raft_Term.f k x160000 x160001 x160002 x160003 x160004 x160005 x160006 (wrap64 (((rd_T46 x1 0).f0) - 1))).bind fun bt168 => (if ((rd_T46 x1 0).f1) < bt168.1 then (some (0, 0, ([] : List (S46)), 0, 0, 0, 0, 1)) else ((raft_owns.f k x160002).bind fun t171 => (raft_Put.l0 k x1 x6 0 x160000 x160001 t171 x160003 x160004 x160005 x160006)))))) else (none))
def raft_Put.j2 : Nat → List (S46) → Int → Int → Int → List (S46) → Int → Int → Int → Int → Option (Int × Int × (List (S46)) × Int × Int × Int × Int × Int)
 | 0, _, _, _, _, _, _, _, _, _ => none
 | k + 1, x1, x10, x160000, x160001, x160002, x160003, x160004, x160005, x160006 => if x10 = (x1.length : Int) then (some (x160000, x160001, x160002, x160003, x160004, x160005, x160006, 0)) else (if 0 ≤ x10 then (if x10 < (x1.length : Int) then (if ((rd_T46 x1 x10).f0) ≤ x160005 then (some (0, 0, ([] : List (S46)), 0, 0, 0, 0, 11)) else (if (wrap64 ((wrap64 ((wrap64 ((wrap64 (((rd_T46 x1 x10).f0) - x160000)) - 1)) + (x1.length : Int))) - x10)) > 1000 then (some (0, 0, ([] : List (S46)), 0, 0, 0, 0, 7)) else (if 0 ≤ (wrap64 ((wrap64 (((rd_T46 x1 x10).f0) - x160000)) - 1)) then (if (wrap64 ((wrap64 (((rd_T46 x1 x10).f0) - x160000)) - 1)) ≤ (x160002.length : Int) then ((some (x160002.take ((wrap64 ((wrap64 (((rd_T46 x1 x10).f0) - x160000)) - 1)) : Int).toNat : List (S46))).bind fun y180 => (if x10 ≤ (x1.length : Int) then ((raft_owns.f k (x1.drop (x10 : Int).toNat)).bind fun t187 => (if y180.length + t187.length < 1353245080339 then (some (x160000, x160001, (y180 ++ t187), x160003, x160004, x160005, x160006, 0)) else (none))) else (none))) else (none)) else (none)))) else (none)) else (none))
def raft_Put.l0 : Nat → List (S46) → Int → Int → Int → Int → List (S46) → Int → Int → Int → Int → Option (Int × Int × (List (S46)) × Int × Int × Int × Int × Int)
 | 0, _, _, _, _, _, _, _, _, _, _ => none
 | k + 1, x1, x6, x10, x160000, x160001, x160002, x160003, x160004, x160005, x160006 => if x10 < (x1.length : Int) then (if 0 ≤ x10 then (if ((rd_T46 x1 x10).f0) ≤ x6 then (if 0 ≤ (wrap64 ((wrap64 (((rd_T46 x1 x10).f0) - x160000)) - 1)) then (if (wrap64 ((wrap64 (((rd_T46 x1 x10).f0) - x160000)) - 1)) < (x160002.length : Int) then (if ((rd_T46 x160002 (wrap64 ((wrap64 (((rd_T46 x1 x10).f0) - x160000)) - 1))).f1) = ((rd_T46 x1 x10).f1) then (raft_Put.l0 k x1 x6 (wrap64 (x10 + 1)) x160000 x160001 x160002 x160003 x160004 x160005 x160006) else (raft_Put.j2 k x1 x10 x160000 x160001 x160002 x160003 x160004 x160005 x160006)) else (none)) else (none)) else (raft_Put.j2 k x1 x10 x160000 x160001 x160002 x160003 x160004 x160005 x160006)) else (none)) else (raft_Put.j2 k x1 x10 x160000 x160001 x160002 x160003 x160004 x160005 x160006)
end
def raft_Put.f (k : Nat) (a0_0 : Int) (a0_1 : Int) (l0_2 : List (S46)) (a0_3 : Int) (a0_4 : Int) (a0_5 : Int) (a0_6 : Int) (l1 : List (S46)) : Option (Int × Int × (List (S46)) × Int × Int × Int × Int × Int) := (raft_Last.f k a0_0 a0_1 l0_2 a0_3 a0_4 a0_5 a0_6).bind fun bt161 => ((raft_Check.f k a0_0 a0_1 l0_2 a0_3 a0_4 a0_5 a0_6).bind fun t163 => (if t163 = 0 then (if (l1.length : Int) = 0 then (raft_Put.j0 k l1 bt161.1 true a0_0 a0_1 l0_2 a0_3 a0_4 a0_5 a0_6) else ((raft_rows.f k l1).bind fun t164 => (raft_Put.j0 k l1 bt161.1 (!t164) a0_0 a0_1 l0_2 a0_3 a0_4 a0_5 a0_6))) else (raft_Put.j0 k l1 bt161.1 true a0_0 a0_1 l0_2 a0_3 a0_4 a0_5 a0_6)))
theorem raft_Put.mono_l : ∀ k, (∀ y0 y1 y2 y3 y4 y5 y6 y7 y8 y9, LeO (raft_Put.j0 k y0 y1 y2 y3 y4 y5 y6 y7 y8 y9) (raft_Put.j0 (k + 1) y0 y1 y2 y3 y4 y5 y6 y7 y8 y9)) ∧ (∀ y0 y1 y2 y3 y4 y5 y6 y7 y8, LeO (raft_Put.j2 k y0 y1 y2 y3 y4 y5 y6 y7 y8) (raft_Put.j2 (k + 1) y0 y1 y2 y3 y4 y5 y6 y7 y8)) ∧ (∀ y0 y1 y2 y3 y4 y5 y6 y7 y8 y9, LeO (raft_Put.l0 k y0 y1 y2 y3 y4 y5 y6 y7 y8 y9) (raft_Put.l0 (k + 1) y0 y1 y2 y3 y4 y5 y6 y7 y8 y9))
 | 0 => ⟨fun _ _ _ _ _ _ _ _ _ _ r h => by simp [raft_Put.j0] at h, fun _ _ _ _ _ _ _ _ _ r h => by simp [raft_Put.j2] at h, fun _ _ _ _ _ _ _ _ _ _ r h => by simp [raft_Put.l0] at h⟩
 | k + 1 => by
  obtain ⟨ih0, ih1, ih2⟩ := raft_Put.mono_l k
  refine ⟨?_, ?_, ?_⟩
  ·intro y0 y1 y2 y3 y4 y5 y6 y7 y8 y9
   unfold raft_Put.j0
   repeat' first
   | (with_reducible exact ih0 _ _ _ _ _ _ _ _ _ _)
   | (with_reducible exact ih1 _ _ _ _ _ _ _ _ _)
   | (with_reducible exact ih2 _ _ _ _ _ _ _ _ _ _)
   | (with_reducible exact raft_Check.mono _ _ _ _ _ _ _ _)
   | (with_reducible exact raft_Last.mono _ _ _ _ _ _ _ _)
   | (with_reducible exact raft_Term.mono _ _ _ _ _ _ _ _ _)
   | (with_reducible exact raft_owns.mono _ _)
   | (with_reducible exact raft_rows.mono _ _)
   | (with_reducible exact LeO.refl _)
   | (with_reducible exact LeO.none _)
   | (with_reducible refine LeO.ite ?_ ?_)
   | (with_reducible refine LeO.bind ?_ (fun _ => ?_))
   | exact ih0 _ _ _ _ _ _ _ _ _ _
   | exact ih1 _ _ _ _ _ _ _ _ _
   | exact ih2 _ _ _ _ _ _ _ _ _ _
   | exact raft_Check.mono _ _ _ _ _ _ _ _
   | exact raft_Last.mono _ _ _ _ _ _ _ _
   | exact raft_Term.mono _ _ _ _ _ _ _ _ _
   | exact raft_owns.mono _ _
   | exact raft_rows.mono _ _
   | exact LeO.none _
   | refine LeO.ite ?_ ?_
   | refine LeO.bind ?_ (fun _ => ?_)
  ·intro y0 y1 y2 y3 y4 y5 y6 y7 y8
   unfold raft_Put.j2
   repeat' first
   | (with_reducible exact ih0 _ _ _ _ _ _ _ _ _ _)
   | (with_reducible exact ih1 _ _ _ _ _ _ _ _ _)
   | (with_reducible exact ih2 _ _ _ _ _ _ _ _ _ _)
   | (with_reducible exact raft_Check.mono _ _ _ _ _ _ _ _)
   | (with_reducible exact raft_Last.mono _ _ _ _ _ _ _ _)
   | (with_reducible exact raft_Term.mono _ _ _ _ _ _ _ _ _)
   | (with_reducible exact raft_owns.mono _ _)
   | (with_reducible exact raft_rows.mono _ _)
   | (with_reducible exact LeO.refl _)
   | (with_reducible exact LeO.none _)
   | (with_reducible refine LeO.ite ?_ ?_)
   | (with_reducible refine LeO.bind ?_ (fun _ => ?_))
   | exact ih0 _ _ _ _ _ _ _ _ _ _
   | exact ih1 _ _ _ _ _ _ _ _ _
   | exact ih2 _ _ _ _ _ _ _ _ _ _
   | exact raft_Check.mono _ _ _ _ _ _ _ _
   | exact raft_Last.mono _ _ _ _ _ _ _ _
   | exact raft_Term.mono _ _ _ _ _ _ _ _ _
   | exact raft_owns.mono _ _
   | exact raft_rows.mono _ _
   | exact LeO.none _
   | refine LeO.ite ?_ ?_
   | refine LeO.bind ?_ (fun _ => ?_)
  ·intro y0 y1 y2 y3 y4 y5 y6 y7 y8 y9
   unfold raft_Put.l0
   repeat' first
   | (with_reducible exact ih0 _ _ _ _ _ _ _ _ _ _)
   | (with_reducible exact ih1 _ _ _ _ _ _ _ _ _)
   | (with_reducible exact ih2 _ _ _ _ _ _ _ _ _ _)
   | (with_reducible exact raft_Check.mono _ _ _ _ _ _ _ _)
   | (with_reducible exact raft_Last.mono _ _ _ _ _ _ _ _)
   | (with_reducible exact raft_Term.mono _ _ _ _ _ _ _ _ _)
   | (with_reducible exact raft_owns.mono _ _)
   | (with_reducible exact raft_rows.mono _ _)
   | (with_reducible exact LeO.refl _)
   | (with_reducible exact LeO.none _)
   | (with_reducible refine LeO.ite ?_ ?_)
   | (with_reducible refine LeO.bind ?_ (fun _ => ?_))
   | exact ih0 _ _ _ _ _ _ _ _ _ _
   | exact ih1 _ _ _ _ _ _ _ _ _
   | exact ih2 _ _ _ _ _ _ _ _ _ _
   | exact raft_Check.mono _ _ _ _ _ _ _ _
   | exact raft_Last.mono _ _ _ _ _ _ _ _
   | exact raft_Term.mono _ _ _ _ _ _ _ _ _
   | exact raft_owns.mono _ _
   | exact raft_rows.mono _ _
   | exact LeO.none _
   | refine LeO.ite ?_ ?_
   | refine LeO.bind ?_ (fun _ => ?_)
theorem raft_Put.mono : ∀ a0 a1 a2 a3 a4 a5 a6 a7 k, LeO (raft_Put.f k a0 a1 a2 a3 a4 a5 a6 a7) (raft_Put.f (k + 1) a0 a1 a2 a3 a4 a5 a6 a7) := by
 intro a0 a1 a2 a3 a4 a5 a6 a7 k
 obtain ⟨ih0, ih1, ih2⟩ := raft_Put.mono_l k
 unfold raft_Put.f
 repeat' first
   | (with_reducible exact ih0 _ _ _ _ _ _ _ _ _ _)
   | (with_reducible exact ih1 _ _ _ _ _ _ _ _ _)
   | (with_reducible exact ih2 _ _ _ _ _ _ _ _ _ _)
   | (with_reducible exact raft_Check.mono _ _ _ _ _ _ _ _)
   | (with_reducible exact raft_Last.mono _ _ _ _ _ _ _ _)
   | (with_reducible exact raft_Term.mono _ _ _ _ _ _ _ _ _)
   | (with_reducible exact raft_owns.mono _ _)
   | (with_reducible exact raft_rows.mono _ _)
   | (with_reducible exact LeO.refl _)
   | (with_reducible exact LeO.none _)
   | (with_reducible refine LeO.ite ?_ ?_)
   | (with_reducible refine LeO.bind ?_ (fun _ => ?_))
   | exact ih0 _ _ _ _ _ _ _ _ _ _
   | exact ih1 _ _ _ _ _ _ _ _ _
   | exact ih2 _ _ _ _ _ _ _ _ _ _
   | exact raft_Check.mono _ _ _ _ _ _ _ _
   | exact raft_Last.mono _ _ _ _ _ _ _ _
   | exact raft_Term.mono _ _ _ _ _ _ _ _ _
   | exact raft_owns.mono _ _
   | exact raft_rows.mono _ _
   | exact LeO.none _
   | refine LeO.ite ?_ ?_
   | refine LeO.bind ?_ (fun _ => ?_)
def raft_Put.T4 : Bool × List (List Nat × List Nat) := (true, [([], []), ([0], [0]), ([1], [1]), ([2], [2]), ([], []), ([4], [4]), ([3, 5], [3, 5]), ([6], [6])])
def raft_Put.B4 : List Nat := [0, 1, 3, 7, 0, 16, 63, 127]
theorem raft_Put.tab4 : rtab .any (opsOf Try.f9 4) = raft_Put.T4 := by kernel_rfl
theorem raft_Put.bits4 : waitsOk raft_Put.T4.2 raft_Put.B4 = true := by kernel_rfl
def raft_Put.T8 : Bool × List (List Nat × List Nat) := (true, [([], []), ([], []), ([1], [1]), ([2], [2]), ([3], [3]), ([4], [4]), ([0, 5], [0, 5]), ([6], [6]), ([7], [7]), ([7], [7]), ([8, 6, 0, 1, 2, 3, 4, 5, 6, 7, 8], [8]), ([9, 10, 0, 1, 2, 3, 4, 5, 6, 7, 8, 9, 10], [9])])
def raft_Put.B8 : List Nat := [0, 0, 2, 6, 14, 30, 63, 127, 255, 255, 511, 2047]
theorem raft_Put.tab8 : rtab .any (opsOf Try.f9 8) = raft_Put.T8 := by kernel_rfl
theorem raft_Put.bits8 : waitsOk raft_Put.T8.2 raft_Put.B8 = true := by kernel_rfl
def raft_Put.T13 : Bool × List (List Nat × List Nat) := (true, [([], []), ([], []), ([1], [1]), ([0, 2], [0, 2]), ([3], [3]), ([4], [4]), ([4], [4]), ([5, 6, 4], [4, 5, 6]), ([7, 4], [4, 7]), ([8, 4], [4, 8]), ([4], [4]), ([9, 10, 4], [4, 9, 10]), ([4, 11], [4, 11]), ([12, 4], [12]), ([13], [13]), ([14, 13], [13, 14]), ([13], [13]), ([13], [13]), ([16, 17, 13], [13, 16, 17]), ([18, 13], [13, 18]), ([19, 13], [13, 19]), ([13], [13]), ([21, 13], [13, 21]), ([20, 22, 13], [13, 20, 22]), ([23, 13], [13, 23]), ([15, 24, 13], [13, 15, 24]), ([25, 13], [13, 25]), ([26, 13], [13, 26]), ([13], [13]), ([13], [13]), ([28, 29, 13], [13, 28, 29]), ([30, 13], [13, 30]), ([31, 13], [13, 31]), ([27, 32, 13], [13, 27, 32]), ([13, 33], [13, 33])])
def raft_Put.B13 : List Nat := [0, 0, 2, 7, 15, 31, 31, 127, 255, 511, 31, 2047, 4095, 8191, 16383, 32767, 16383, 16383, 212991, 475135, 999423, 16383, 2113535, 8339455, 16728063, 33554431, 67108863, 134217727, 16383, 16383, 805322751, 1879064575, 4026548223, 8589934591, 17179869183]
theorem raft_Put.tab13 : rtab .any (opsOf Try.f9 13) = raft_Put.T13 := by kernel_rfl
theorem raft_Put.bits13 : waitsOk raft_Put.T13.2 raft_Put.B13 = true := by kernel_rfl
def raft_Put.T17 : Bool × List (List Nat × List Nat) := (true, [([], []), ([], []), ([0, 1], [0, 1]), ([2], [2]), ([3], [3]), ([], []), ([5], [5]), ([4, 6], [4, 6]), ([7], [7]), ([8, 0, 1, 2, 3, 4, 5, 6, 7, 8], [8])])
def raft_Put.B17 : List Nat := [0, 0, 3, 7, 15, 0, 32, 127, 255, 511]
theorem raft_Put.tab17 : rtab .any (opsOf Try.f9 17) = raft_Put.T17 := by kernel_rfl
theorem raft_Put.bits17 : waitsOk raft_Put.T17.2 raft_Put.B17 = true := by kernel_rfl
def raft_Put.T18 : Bool × List (List Nat × List Nat) := (true, [([], []), ([], []), ([0, 1], [0, 1]), ([2], [2]), ([3], [3]), ([], []), ([5], [5]), ([6], [6]), ([4, 7], [4, 7]), ([8], [8])])
def raft_Put.B18 : List Nat := [0, 0, 3, 7, 15, 0, 32, 96, 255, 511]
theorem raft_Put.tab18 : rtab .any (opsOf Try.f9 18) = raft_Put.T18 := by kernel_rfl
theorem raft_Put.bits18 : waitsOk raft_Put.T18.2 raft_Put.B18 = true := by kernel_rfl
def raft_Put.T22 : Bool × List (List Nat × List Nat) := (true, [([], []), ([0], [0]), ([], []), ([1, 2], [1, 2]), ([], []), ([], []), ([4, 5], [4, 5]), ([6], [6]), ([3, 7, 7], [3, 7]), ([0, 1, 2, 3, 4, 5, 6, 7, 8], []), ([9, 8, 8, 0, 1, 2, 3, 4, 5, 6, 7, 8], [8, 9])])
def raft_Put.B22 : List Nat := [0, 1, 0, 7, 0, 0, 48, 112, 255, 511, 1023]
theorem raft_Put.tab22 : rtab .any (opsOf Try.f9 22) = raft_Put.T22 := by kernel_rfl
theorem raft_Put.bits22 : waitsOk raft_Put.T22.2 raft_Put.B22 = true := by kernel_rfl
set_option maxHeartbeats 8000000 in
set_option maxRecDepth 100000 in
theorem raft_Put.calls (k : Nat) (a0_0 : Int) (a0_1 : Int) (A0_2 : Option Addr) (c0_2 : Nat) (l0_2 : List (S46)) (a0_3 : Int) (a0_4 : Int) (a0_5 : Int) (a0_6 : Int) (A1 : Option Addr) (c1 : Nat) (l1 : List (S46)) (r1 : Int) (r2 : Int) (r3 : List (S46)) (r4 : Int) (r5 : Int) (r6 : Int) (r7 : Int) (r8 : Int) (w : World) (hr0_2 : Kd.C k46 w A0_2 l0_2.length l0_2) (hc0_2 : l0_2.length ≤ c0_2) (hr1 : Kd.C k46 w A1 l1.length l1) (hc1 : l1.length ≤ c1) (h : raft_Put.f k a0_0 a0_1 l0_2 a0_3 a0_4 a0_5 a0_6 l1 = some (r1, r2, r3, r4, r5, r6, r7, r8)) :
  Calls Try.prog 9 #[.agg #[.int .i64 a0_0, .int .i64 a0_1, .slice A0_2 l0_2.length c0_2, .int .i64 a0_3, .int .i64 a0_4, .int .i64 a0_5, .int .i64 a0_6], .slice A1 l1.length c1] w fun e w' => ∃ v2_ : Value, e = .returned (.tuple #[.agg #[.int .i64 r1, .int .i64 r2, v2_, .int .i64 r4, .int .i64 r5, .int .i64 r6, .int .i64 r7], .int .i64 r8]) ∧ Kd.N k46 46 w' w.heap.size (fun k_ => (w.heap.size ≤ k_)) v2_ r3 ∧ Below w.heap.size w w' := by
 have hu26 := Try.underlying26
 have HR0_2 := Aside0.mk hr0_2
 have HC0_2 := Aside0.mk hc0_2
 clear hr0_2 hc0_2
 have HR1 := Aside0.mk hr1
 have HC1 := Aside0.mk hc1
 clear hr1 hc1
 have HB := Aside0.mk (Below.refl w.heap.size w)
 have H : ((raft_Last.f k a0_0 a0_1 l0_2 a0_3 a0_4 a0_5 a0_6).bind fun bt161 => ((raft_Check.f k a0_0 a0_1 l0_2 a0_3 a0_4 a0_5 a0_6).bind fun t163 => (if t163 = 0 then (if (l1.length : Int) = 0 then (raft_Put.j0 k l1 bt161.1 true a0_0 a0_1 l0_2 a0_3 a0_4 a0_5 a0_6) else ((raft_rows.f k l1).bind fun t164 => (raft_Put.j0 k l1 bt161.1 (!t164) a0_0 a0_1 l0_2 a0_3 a0_4 a0_5 a0_6))) else (raft_Put.j0 k l1 bt161.1 true a0_0 a0_1 l0_2 a0_3 a0_4 a0_5 a0_6)))) = some (r1, r2, r3, r4, r5, r6, r7, r8) := h
 clear h
 replace H := Option.bind_eq_some_iff.mp H
 obtain ⟨⟨t161, t162⟩, A30, H⟩ := H
 replace H : ((raft_Check.f k a0_0 a0_1 l0_2 a0_3 a0_4 a0_5 a0_6).bind fun t163 => (if t163 = 0 then (if (l1.length : Int) = 0 then (raft_Put.j0 k l1 t161 true a0_0 a0_1 l0_2 a0_3 a0_4 a0_5 a0_6) else ((raft_rows.f k l1).bind fun t164 => (raft_Put.j0 k l1 t161 (!t164) a0_0 a0_1 l0_2 a0_3 a0_4 a0_5 a0_6))) else (raft_Put.j0 k l1 t161 true a0_0 a0_1 l0_2 a0_3 a0_4 a0_5 a0_6))) = some (r1, r2, r3, r4, r5, r6, r7, r8) := H
 have A3 := Aside0.mk A30
 clear A30
 have HC4 := Aside0.mk H
 clear H
 go_enter Try.func9, Try.ntmps9
 go_upto_region 2 with (first | ((with_reducible refine gate_dst (N := 2) rfl ?_); (try (refine gate_guard (by rfl) ?_; dsimp only)); refine box_event ?hg (N := 2) ?hd (cs := #[.int .i64 a0_0, .int .i64 a0_1, .slice A0_2 l0_2.length c0_2, .int .i64 a0_3, .int .i64 a0_4, .int .i64 a0_5, .int .i64 a0_6]) (t := 26) ?hr ?_; (case hd => rfl); (case hg => rfl); (case hr => first | (go_simp; done) | (go_simp; rfl)); intro gb159 hg w5 hbox hb; have n0_ := Aside0.mk (below_step (pB HB.out) hb); have n1_ := Aside0.mk (hbox); have n2_ := Aside0.mk ((by rw [hg]; exact (below_size (pB HB.out)) : w.heap.size ≤ gb159)); have n3_ := n2_; clear HB; have HB := n0_; have BK159 := n1_; have GW159 := n2_; have GE159 := n3_; clear n0_ n1_ n2_ n3_ hb hbox hg) | ((with_reducible refine gate_dst (N := 4) rfl ?_); (try (refine gate_guard (by rfl) ?_; dsimp only)); refine box_event ?hg (N := 4) ?hd (cs := #[.int .i64 0, .int .i64 0, .slice none 0 0, .int .i64 0, .int .i64 0, .int .i64 0, .int .i64 0]) (t := 26) ?hr ?_; (case hd => rfl); (case hg => rfl); (case hr => first | (go_simp; done) | (go_simp; rfl)); intro gb160 hg w6 hbox hb; have n0_ := Aside0.mk (kB BK159.out hb); have n1_ := Aside0.mk (below_step (pE HB.out GE159.out) hb); have n2_ := Aside0.mk (hbox); have n3_ := Aside0.mk ((by rw [hg]; exact (below_size (pE HB.out GE159.out)) : w.heap.size ≤ gb160)); have n4_ := n3_; have n5_ := Aside0.mk ((by rw [hg]; exact Nat.ne_of_lt (kL BK159.out) : gb159 ≠ gb160)); have n6_ := Aside0.mk ((by rw [hg]; exact Nat.ne_of_gt (kL BK159.out) : gb160 ≠ gb159)); clear BK159 HB; have BK159 := n0_; have HB := n1_; have BK160 := n2_; have GW160 := n3_; have GE160 := n4_; have NB159_160 := n5_; have NB160_159 := n6_; clear n0_ n1_ n2_ n3_ n4_ n5_ n6_ hb hbox hg; have hnb7 := NB159_160.out; have hnc7 := NB160_159.out; obtain ⟨hcz8_0, hcz8_1, hcz8_2, hcz8_3, hcz8_4, hcz8_5, hcz8_6⟩ := bc7 BK159.out; obtain ⟨hfz8_0, hfz8_1, hfz8_2, hfz8_3, hfz8_4, hfz8_5, hfz8_6⟩ := bf7 BK159.out) | ((with_reducible refine gate_callee (f := 24) rfl ?_); refine goesL_ (some 14) rfl rfl Try.func24 (by kernel_rfl) rfl #[.agg #[.int .i64 a0_0, .int .i64 a0_1, .slice A0_2 l0_2.length c0_2, .int .i64 a0_3, .int .i64 a0_4, .int .i64 a0_5, .int .i64 a0_6]] rfl pL ?_; (with_reducible refine (raft_Last.calls k a0_0 a0_1 _ _ l0_2 a0_3 a0_4 a0_5 a0_6 t161 t162 _ ?side1 ?side2 A3.out).mono ?_); (case side1 => exact pC (Kd.C_below HR0_2.out HB.out)); (case side2 => exact HC0_2.out); rintro e w9 ⟨rfl, hb⟩; refine ⟨_, rfl, ?_⟩; have n0_ := Aside0.mk (kB BK159.out hb); have n1_ := Aside0.mk (kB BK160.out hb); have n2_ := Aside0.mk (below_step (pE2 HB.out GE159.out GE160.out) hb); clear BK159 BK160 HB; have BK159 := n0_; have BK160 := n1_; have HB := n2_; clear n0_ n1_ n2_; (try clear hb); (try clear hb2); (try clear hk); (try clear hi)))
 (try simp only [Act.put, List.setIfInBounds_toArray, List.set_cons_zero, List.set_cons_succ])
 go_cut [17] (fun v17 wc => ∃ (kq : Nat) (x17_3 : Bool), v17 = .bool x17_3 ∧ Aside0 (raft_Put.j0 kq l1 t161 x17_3 a0_0 a0_1 l0_2 a0_3 a0_4 a0_5 a0_6 = some (r1, r2, r3, r4, r5, r6, r7, r8)) ∧ Aside0 (kq ≤ k) ∧ Aside0 (wc.heap[gb159]? = some (.cells #[.int .i64 a0_0, .int .i64 a0_1, (.slice A0_2 l0_2.length c0_2), .int .i64 a0_3, .int .i64 a0_4, .int .i64 a0_5, .int .i64 a0_6] 26 (0, 0))) ∧ Aside0 (wc.heap[gb160]? = some (.cells #[.int .i64 0, .int .i64 0, (.slice none 0 0), .int .i64 0, .int .i64 0, .int .i64 0, .int .i64 0] 26 (0, 0))) ∧ Aside0 (Below w.heap.size w wc))
 case first =>
  have H := HC4.out
  clear HC4
  replace H := Option.bind_eq_some_iff.mp H
  obtain ⟨t163, A100, H⟩ := H
  replace H : (if t163 = 0 then (if (l1.length : Int) = 0 then (raft_Put.j0 k l1 t161 true a0_0 a0_1 l0_2 a0_3 a0_4 a0_5 a0_6) else ((raft_rows.f k l1).bind fun t164 => (raft_Put.j0 k l1 t161 (!t164) a0_0 a0_1 l0_2 a0_3 a0_4 a0_5 a0_6))) else (raft_Put.j0 k l1 t161 true a0_0 a0_1 l0_2 a0_3 a0_4 a0_5 a0_6)) = some (r1, r2, r3, r4, r5, r6, r7, r8) := H
  have A10 := Aside0.mk A100
  clear A100
  by_cases c11 : t163 = 0
  ·rw [if_pos c11] at H
   have c11b0 : (t163 == 0) = true := beq_iff_eq.mpr c11
   have c11b1 : (t163 != 0) = false := bne_eq_false_iff_eq.mpr c11
   clear c11
   (first | rw [c11b0] | (simp only [i64_w, i32_w]; rw [c11b0]) | skip)
   by_cases c12 : (l1.length : Int) = 0
   ·rw [if_pos c12] at H
    have c12b0 : ((l1.length : Int) == 0) = true := beq_iff_eq.mpr c12
    have c12b1 : ((l1.length : Int) != 0) = false := bne_eq_false_iff_eq.mpr c12
    clear c12
    have H' := Aside0.mk H
    clear H
    have hnb13 := NB159_160.out
    have hnc13 := NB160_159.out
    obtain ⟨hcz14_0, hcz14_1, hcz14_2, hcz14_3, hcz14_4, hcz14_5, hcz14_6⟩ := bc7 BK159.out
    obtain ⟨hfz14_0, hfz14_1, hfz14_2, hfz14_3, hfz14_4, hfz14_5, hfz14_6⟩ := bf7 BK159.out
    go_wp2_with (first | ((with_reducible refine gate_callee (f := 25) rfl ?_); refine goesL_ (some 19) rfl rfl Try.func25 (by kernel_rfl) rfl #[.agg #[.int .i64 a0_0, .int .i64 a0_1, .slice A0_2 l0_2.length c0_2, .int .i64 a0_3, .int .i64 a0_4, .int .i64 a0_5, .int .i64 a0_6]] rfl pL ?_; (with_reducible refine (raft_Check.calls k a0_0 a0_1 _ _ l0_2 a0_3 a0_4 a0_5 a0_6 t163 _ ?side1 ?side2 A10.out).mono ?_); (case side1 => exact pC (Kd.C_below HR0_2.out HB.out)); (case side2 => exact HC0_2.out); rintro e w15 ⟨rfl, hb⟩; refine ⟨_, rfl, ?_⟩; have n0_ := Aside0.mk (kB BK159.out hb); have n1_ := Aside0.mk (kB BK160.out hb); have n2_ := Aside0.mk (below_step (pE2 HB.out GE159.out GE160.out) hb); clear BK159 BK160 HB; have BK159 := n0_; have BK160 := n1_; have HB := n2_; clear n0_ n1_ n2_; (try clear hb); (try clear hb2); (try clear hk); (try clear hi)))
    go_meet
    case rel => exact ⟨_, (true), (by first | rfl | (simp; done) | (simp [*]; done)), H', ⟨by first | omega | exact Nat.le_refl _⟩, ⟨pK BK159.out⟩, ⟨pK BK160.out⟩, ⟨pE2 HB.out GE159.out GE160.out⟩⟩
   ·rw [if_neg c12] at H
    have c12b0 : ((l1.length : Int) == 0) = false := beq_eq_false_iff_ne.mpr c12
    have c12b1 : ((l1.length : Int) != 0) = true := bne_iff_ne.mpr c12
    have c12b2 : ¬ (l1 = []) := fun h_ => c12 (by rw [h_]; rfl)
    replace H := Option.bind_eq_some_iff.mp H
    obtain ⟨t164, A160, H⟩ := H
    replace H : (raft_Put.j0 k l1 t161 (!t164) a0_0 a0_1 l0_2 a0_3 a0_4 a0_5 a0_6) = some (r1, r2, r3, r4, r5, r6, r7, r8) := H
    have A16 := Aside0.mk A160
    clear A160
    have H' := Aside0.mk H
    clear H
    have hnb17 := NB159_160.out
    have hnc17 := NB160_159.out
    obtain ⟨hcz18_0, hcz18_1, hcz18_2, hcz18_3, hcz18_4, hcz18_5, hcz18_6⟩ := bc7 BK159.out
    obtain ⟨hfz18_0, hfz18_1, hfz18_2, hfz18_3, hfz18_4, hfz18_5, hfz18_6⟩ := bf7 BK159.out
    go_wp2_with (first | ((with_reducible refine gate_callee (f := 25) rfl ?_); refine goesL_ (some 19) rfl rfl Try.func25 (by kernel_rfl) rfl #[.agg #[.int .i64 a0_0, .int .i64 a0_1, .slice A0_2 l0_2.length c0_2, .int .i64 a0_3, .int .i64 a0_4, .int .i64 a0_5, .int .i64 a0_6]] rfl pL ?_; (with_reducible refine (raft_Check.calls k a0_0 a0_1 _ _ l0_2 a0_3 a0_4 a0_5 a0_6 t163 _ ?side1 ?side2 A10.out).mono ?_); (case side1 => exact pC (Kd.C_below HR0_2.out HB.out)); (case side2 => exact HC0_2.out); rintro e w19 ⟨rfl, hb⟩; refine ⟨_, rfl, ?_⟩; have n0_ := Aside0.mk (kB BK159.out hb); have n1_ := Aside0.mk (kB BK160.out hb); have n2_ := Aside0.mk (below_step (pE2 HB.out GE159.out GE160.out) hb); clear BK159 BK160 HB; have BK159 := n0_; have BK160 := n1_; have HB := n2_; clear n0_ n1_ n2_; (try clear hb); (try clear hb2); (try clear hk); (try clear hi)) | (go_at_call 26; (with_reducible refine (raft_rows.calls k _ _ l1 t164 _ ?side1 ?side2 A16.out).mono ?_); (case side1 => exact pC (Kd.C_below HR1.out HB.out)); (case side2 => exact HC1.out); rintro e w20 ⟨rfl, hb⟩; have n0_ := Aside0.mk (kB BK159.out hb); have n1_ := Aside0.mk (kB BK160.out hb); have n2_ := Aside0.mk (below_step (pE2 HB.out GE159.out GE160.out) hb); clear BK159 BK160 HB; have BK159 := n0_; have BK160 := n1_; have HB := n2_; clear n0_ n1_ n2_; (try clear hb); (try clear hb2); (try clear hk); (try clear hi)))
    go_meet
    case rel => exact ⟨_, (!t164), (by first | rfl | (simp; done) | (simp [*]; done)), H', ⟨by first | omega | exact Nat.le_refl _⟩, ⟨pK BK159.out⟩, ⟨pK BK160.out⟩, ⟨pE2 HB.out GE159.out GE160.out⟩⟩
  ·rw [if_neg c11] at H
   have c11b0 : (t163 == 0) = false := beq_eq_false_iff_ne.mpr c11
   have c11b1 : (t163 != 0) = true := bne_iff_ne.mpr c11
   (first | rw [c11b0] | (simp only [i64_w, i32_w]; rw [c11b0]) | skip)
   have H' := Aside0.mk H
   clear H
   have hnb21 := NB159_160.out
   have hnc21 := NB160_159.out
   obtain ⟨hcz22_0, hcz22_1, hcz22_2, hcz22_3, hcz22_4, hcz22_5, hcz22_6⟩ := bc7 BK159.out
   obtain ⟨hfz22_0, hfz22_1, hfz22_2, hfz22_3, hfz22_4, hfz22_5, hfz22_6⟩ := bf7 BK159.out
   go_wp2_with (first | ((with_reducible refine gate_callee (f := 25) rfl ?_); refine goesL_ (some 19) rfl rfl Try.func25 (by kernel_rfl) rfl #[.agg #[.int .i64 a0_0, .int .i64 a0_1, .slice A0_2 l0_2.length c0_2, .int .i64 a0_3, .int .i64 a0_4, .int .i64 a0_5, .int .i64 a0_6]] rfl pL ?_; (with_reducible refine (raft_Check.calls k a0_0 a0_1 _ _ l0_2 a0_3 a0_4 a0_5 a0_6 t163 _ ?side1 ?side2 A10.out).mono ?_); (case side1 => exact pC (Kd.C_below HR0_2.out HB.out)); (case side2 => exact HC0_2.out); rintro e w23 ⟨rfl, hb⟩; refine ⟨_, rfl, ?_⟩; have n0_ := Aside0.mk (kB BK159.out hb); have n1_ := Aside0.mk (kB BK160.out hb); have n2_ := Aside0.mk (below_step (pE2 HB.out GE159.out GE160.out) hb); clear BK159 BK160 HB; have BK159 := n0_; have BK160 := n1_; have HB := n2_; clear n0_ n1_ n2_; (try clear hb); (try clear hb2); (try clear hk); (try clear hi)))
   go_meet
   case rel => exact ⟨_, (true), (by first | rfl | (simp; done) | (simp [*]; done)), H', ⟨by first | omega | exact Nat.le_refl _⟩, ⟨pK BK159.out⟩, ⟨pK BK160.out⟩, ⟨pE2 HB.out GE159.out GE160.out⟩⟩
 case rest =>
  clear HC4
  try clear c1
  try clear c2
  try clear p2
  try clear c7
  try clear c9
  try clear c11
  try clear c11b0
  try clear c11b1
  try clear c12
  try clear c12b0
  try clear c12b1
  try clear c12b2
  try clear c13
  try clear c17
  try clear c21
  try clear hcz14_0
  try clear hcz14_1
  try clear hcz14_2
  try clear hcz14_3
  try clear hcz14_4
  try clear hcz14_5
  try clear hcz14_6
  try clear hcz18_0
  try clear hcz18_1
  try clear hcz18_2
  try clear hcz18_3
  try clear hcz18_4
  try clear hcz18_5
  try clear hcz18_6
  try clear hcz22_0
  try clear hcz22_1
  try clear hcz22_2
  try clear hcz22_3
  try clear hcz22_4
  try clear hcz22_5
  try clear hcz22_6
  try clear hcz8_0
  try clear hcz8_1
  try clear hcz8_2
  try clear hcz8_3
  try clear hcz8_4
  try clear hcz8_5
  try clear hcz8_6
  try clear hfz14_0
  try clear hfz14_1
  try clear hfz14_2
  try clear hfz14_3
  try clear hfz14_4
  try clear hfz14_5
  try clear hfz14_6
  try clear hfz18_0
  try clear hfz18_1
  try clear hfz18_2
  try clear hfz18_3
  try clear hfz18_4
  try clear hfz18_5
  try clear hfz18_6
  try clear hfz22_0
  try clear hfz22_1
  try clear hfz22_2
  try clear hfz22_3
  try clear hfz22_4
  try clear hfz22_5
  try clear hfz22_6
  try clear hfz8_0
  try clear hfz8_1
  try clear hfz8_2
  try clear hfz8_3
  try clear hfz8_4
  try clear hfz8_5
  try clear hfz8_6
  obtain ⟨kq, x17_3, rfl, HA, HJ3, BK159, BK160, HB⟩ := hcut
  cases kq with
  | zero => exact absurd HA.out (by simp [raft_Put.j0])
  | succ kj3 =>
   have H := HA.out
   clear HA
   simp only [raft_Put.j0] at H
   by_cases c24 : x17_3 = true
   ·subst c24
    have H1 : (some (0, 0, ([] : List (S46)), 0, 0, 0, 0, 1)) = some (r1, r2, r3, r4, r5, r6, r7, r8) := by rw [if_pos rfl] at H; exact H
    clear H
    have H := H1
    clear H1
    simp only [Option.some.injEq, Prod.mk.injEq] at H
    obtain ⟨rfl, rfl, rfl, rfl, rfl, rfl, rfl, rfl⟩ := H
    have hnb25 := NB160_159.out
    have hnc25 := NB159_160.out
    obtain ⟨hcz26_0, hcz26_1, hcz26_2, hcz26_3, hcz26_4, hcz26_5, hcz26_6⟩ := bc7 BK160.out
    obtain ⟨hfz26_0, hfz26_1, hfz26_2, hfz26_3, hfz26_4, hfz26_5, hfz26_6⟩ := bf7 BK160.out
    go_wp2
    refine bodyPost_ret (results_ct rfl _ _ gb160 26 #[.int .i64 0, .int .i64 0, .slice none 0 0, .int .i64 0, .int .i64 0, .int .i64 0, .int .i64 0] (0, 0) _ rfl (kX0 BK160.out) Try.underlying26 rfl (by kernel_rfl)) rfl ?_
    exact ⟨_, pX, by first | exact Kd.S_nil _ _ _ _ _ | exact Kd.N_nil _ _ _ _ _ | exact Kd.V_nil _ _ _ _ _ | exact Kd.Q_nil _ _ _ _ _ | exact Kd.R_nil _ _ _ _ _, pE2 HB.out GE159.out GE160.out⟩
   ·replace c24 := Bool.eq_false_iff.mpr c24
    subst c24
    have H1 : (if 0 < (l1.length : Int) then (if ((rd_T46 l1 0).f0) ≤ a0_0 then (some (0, 0, ([] : List (S46)), 0, 0, 0, 0, 4)) else (if ((rd_T46 l1 0).f0) > (wrap64 (t161 + 1)) then (some (0, 0, ([] : List (S46)), 0, 0, 0, 0, 5)) else ((raft_Term.f kj3 a0_0 a0_1 l0_2 a0_3 a0_4 a0_5 a0_6 (wrap64 (((rd_T46 l1 0).f0) - 1))).bind fun bt168 => (if ((rd_T46 l1 0).f1) < bt168.1 then (some (0, 0, ([] : List (S46)), 0, 0, 0, 0, 1)) else ((raft_owns.f kj3 l0_2).bind fun t171 => (raft_Put.l0 kj3 l1 t161 0 a0_0 a0_1 t171 a0_3 a0_4 a0_5 a0_6)))))) else (none)) = some (r1, r2, r3, r4, r5, r6, r7, r8) := by rw [if_neg (show ¬ (false = true) by decide)] at H; exact H
    clear H
    have H := H1
    clear H1
    by_cases c27 : 0 < (l1.length : Int)
    ·rw [if_pos c27] at H
     have c27b0 : decide (0 < (l1.length : Int)) = true := decide_eq_true c27
     have c27b1 : decide (0 < l1.length) = true := decide_eq_true (by omega)
     clear c27
     by_cases c28 : ((rd_T46 l1 0).f0) ≤ a0_0
     ·rw [if_pos c28] at H
      have c28b0 : decide (((rd_T46 l1 0).f0) ≤ a0_0) = true := decide_eq_true c28
      clear c28
      simp only [Option.some.injEq, Prod.mk.injEq] at H
      obtain ⟨rfl, rfl, rfl, rfl, rfl, rfl, rfl, rfl⟩ := H
      try go_wp2
      have n0_ := Aside0.mk (blk_drew BK159.out)
      have n1_ := Aside0.mk (blk_drew BK160.out)
      have n2_ := Aside0.mk (below_drew1 HB.out)
      clear BK159
      clear BK160
      clear HB
      have BK159 := n0_
      have BK160 := n1_
      have HB := n2_
      clear n0_ n1_ n2_
      have p165 : 0 ≤ (0 : Int) := (by omega)
      have q165 : 0 < (l1.length : Int) := of_decide_eq_true pS
      obtain ⟨ad165, A165_5, c165_5, e165, hx165_0, hx165_1, hx165_2, hx165_3, hx165_4, hx165_5, hx165_6, hx165_7, hx165_8, hx165_9, hl165_5, hi165_5⟩ := at_T46 HR1.out 0 p165 q165
      have hw165_9 := hx165_9
      (try rw [tz] at hw165_9)
      (try rw [show 0 * 10 = 0 from rfl] at hw165_9)
      (try rw [Addr.add_zero'] at hw165_9)
      have hw165_8 := hx165_8
      (try rw [tz] at hw165_8)
      (try rw [show 0 * 10 = 0 from rfl] at hw165_8)
      (try rw [Addr.add_zero'] at hw165_8)
      have hw165_7 := hx165_7
      (try rw [tz] at hw165_7)
      (try rw [show 0 * 10 = 0 from rfl] at hw165_7)
      (try rw [Addr.add_zero'] at hw165_7)
      have hw165_6 := hx165_6
      (try rw [tz] at hw165_6)
      (try rw [show 0 * 10 = 0 from rfl] at hw165_6)
      (try rw [Addr.add_zero'] at hw165_6)
      have hw165_5 := hx165_5
      (try rw [tz] at hw165_5)
      (try rw [show 0 * 10 = 0 from rfl] at hw165_5)
      (try rw [Addr.add_zero'] at hw165_5)
      have hw165_4 := hx165_4
      (try rw [tz] at hw165_4)
      (try rw [show 0 * 10 = 0 from rfl] at hw165_4)
      (try rw [Addr.add_zero'] at hw165_4)
      have hw165_3 := hx165_3
      (try rw [tz] at hw165_3)
      (try rw [show 0 * 10 = 0 from rfl] at hw165_3)
      (try rw [Addr.add_zero'] at hw165_3)
      have hw165_2 := hx165_2
      (try rw [tz] at hw165_2)
      (try rw [show 0 * 10 = 0 from rfl] at hw165_2)
      (try rw [Addr.add_zero'] at hw165_2)
      have hw165_1 := hx165_1
      (try rw [tz] at hw165_1)
      (try rw [show 0 * 10 = 0 from rfl] at hw165_1)
      (try rw [Addr.add_zero'] at hw165_1)
      have hw165_0 := hx165_0
      (try rw [tz] at hw165_0)
      (try rw [show 0 * 10 = 0 from rfl] at hw165_0)
      (try rw [Addr.add_zero'] at hw165_0)
      cases e165
      have qi165 : (0 < l1.length) = True := eq_true (by omega)
      (try rw [tz] at hx165_0)
      (try rw [show 0 * 10 = 0 from rfl] at hx165_0)
      (try rw [Addr.add_zero'] at hx165_0)
      (try rw [tz] at hx165_1)
      (try rw [show 0 * 10 = 0 from rfl] at hx165_1)
      (try rw [Addr.add_zero'] at hx165_1)
      (try rw [tz] at hx165_2)
      (try rw [show 0 * 10 = 0 from rfl] at hx165_2)
      (try rw [Addr.add_zero'] at hx165_2)
      (try rw [tz] at hx165_3)
      (try rw [show 0 * 10 = 0 from rfl] at hx165_3)
      (try rw [Addr.add_zero'] at hx165_3)
      (try rw [tz] at hx165_4)
      (try rw [show 0 * 10 = 0 from rfl] at hx165_4)
      (try rw [Addr.add_zero'] at hx165_4)
      (try rw [tz] at hx165_5)
      (try rw [show 0 * 10 = 0 from rfl] at hx165_5)
      (try rw [Addr.add_zero'] at hx165_5)
      (try rw [tz] at hx165_6)
      (try rw [show 0 * 10 = 0 from rfl] at hx165_6)
      (try rw [Addr.add_zero'] at hx165_6)
      (try rw [tz] at hx165_7)
      (try rw [show 0 * 10 = 0 from rfl] at hx165_7)
      (try rw [Addr.add_zero'] at hx165_7)
      (try rw [tz] at hx165_8)
      (try rw [show 0 * 10 = 0 from rfl] at hx165_8)
      (try rw [Addr.add_zero'] at hx165_8)
      (try rw [tz] at hx165_9)
      (try rw [show 0 * 10 = 0 from rfl] at hx165_9)
      (try rw [Addr.add_zero'] at hx165_9)
      replace hx165_0 := cU HB.out hx165_0
      replace hx165_1 := cU HB.out hx165_1
      replace hx165_2 := cU HB.out hx165_2
      replace hx165_3 := cU HB.out hx165_3
      replace hx165_4 := cU HB.out hx165_4
      replace hx165_5 := cU HB.out hx165_5
      replace hx165_6 := cU HB.out hx165_6
      replace hx165_7 := cU HB.out hx165_7
      replace hx165_8 := cU HB.out hx165_8
      replace hx165_9 := cU HB.out hx165_9
      have HR165_5 := Aside0.mk hi165_5
      have HC165_5 := Aside0.mk hl165_5
      clear hi165_5 hl165_5
      replace p165 := eq_true p165
      replace q165 := eq_true q165
      refine start_ (n := 8) (S := fun w' => cG w' gb159 0 (.int .i64 a0_0) ∧ cG w' gb159 1 (.int .i64 a0_1) ∧ cG w' gb159 2 (.slice A0_2 l0_2.length c0_2) ∧ cG w' gb159 3 (.int .i64 a0_3) ∧ cG w' gb159 4 (.int .i64 a0_4) ∧ cG w' gb159 5 (.int .i64 a0_5) ∧ cG w' gb159 6 (.int .i64 a0_6) ∧ w'.cell? ad165 = some (.int .i64 ((rd_T46 l1 0).f0)) ∧ cA w' ad165 1 (.int .i64 ((rd_T46 l1 0).f1)) ∧ cA w' ad165 2 (.int .i64 ((rd_T46 l1 0).f2)) ∧ cA w' ad165 3 (.string ((rd_T46 l1 0).f3)) ∧ cA w' ad165 4 (.bool ((rd_T46 l1 0).f4.f0)) ∧ cA w' ad165 5 (.slice A165_5 ((rd_T46 l1 0).f4.f1).length c165_5) ∧ cA w' ad165 6 (.int .i64 ((rd_T46 l1 0).f4.f2.f0)) ∧ cA w' ad165 7 (.int .i64 ((rd_T46 l1 0).f4.f2.f1)) ∧ cA w' ad165 8 (.int .i64 ((rd_T46 l1 0).f4.f2.f2)) ∧ cA w' ad165 9 (.int .u32 ((rd_T46 l1 0).f4.f2.f3))) (ds := []) #[false, false, false, false, false, false, false, false] (by kernel_rfl) rfl rfl ⟨(blk_cell BK159.out 0).trans rfl, (blk_cell BK159.out 1).trans rfl, (blk_cell BK159.out 2).trans rfl, (blk_cell BK159.out 3).trans rfl, (blk_cell BK159.out 4).trans rfl, (blk_cell BK159.out 5).trans rfl, (blk_cell BK159.out 6).trans rfl, (cT HB.out hw165_0), (cT HB.out hw165_1), (cT HB.out hw165_2), (cT HB.out hw165_3), (cT HB.out hw165_4), (cT HB.out hw165_5), (cT HB.out hw165_6), (cT HB.out hw165_7), (cT HB.out hw165_8), (cT HB.out hw165_9)⟩ (fun hHeld => ?_); refine with_tabW raft_Put.tab4 raft_Put.bits4 (fun HT_ HW_ => ?_)
      generalize wc.drew = w29 at BK159 BK160 HB HR165_5 hx165_0 hx165_1 hx165_2 hx165_3 hx165_4 hx165_5 hx165_6 hx165_7 hx165_8 hx165_9 hHeld ⊢
      refine pu 0 (some 33) (bw 8 1) HT_.out (h := ?_)
      refine pu 1 (some 34) (bw 8 3) HT_.out (h := ?_)
      refine pu 2 (some 35) (bw 8 7) HT_.out (h := ?_)
      refine pu 4 (some 37) (bw 8 23) HT_.out (h := ?_)
      refine tk 3 (some 36) (bw 8 31) HT_.out HW_.out hHeld (h := ?_)
      refine tk 5 (some 38) (bw 8 63) HT_.out HW_.out hHeld (h := ?_)
      refine pu 6 (some 39) (bw 8 127) HT_.out (h := ?_)
      refine pu 7 (some 32) (bw 8 255) HT_.out (h := ?_)
      refine done_ (done_of HT_.out (by kernel_rfl)) ?_
      have hnb30 := NB160_159.out
      have hnc30 := NB159_160.out
      obtain ⟨hcz31_0, hcz31_1, hcz31_2, hcz31_3, hcz31_4, hcz31_5, hcz31_6⟩ := bc7 BK160.out
      obtain ⟨hfz31_0, hfz31_1, hfz31_2, hfz31_3, hfz31_4, hfz31_5, hfz31_6⟩ := bf7 BK160.out
      try go_wp2
      refine bodyPost_ret (results_ct rfl _ _ gb160 26 #[.int .i64 0, .int .i64 0, .slice none 0 0, .int .i64 0, .int .i64 0, .int .i64 0, .int .i64 0] (0, 0) _ rfl (kX0 BK160.out) Try.underlying26 rfl (by kernel_rfl)) rfl ?_
      exact ⟨_, pX, by first | exact Kd.S_nil _ _ _ _ _ | exact Kd.N_nil _ _ _ _ _ | exact Kd.V_nil _ _ _ _ _ | exact Kd.Q_nil _ _ _ _ _ | exact Kd.R_nil _ _ _ _ _, pE2 HB.out GE159.out GE160.out⟩
     ·rw [if_neg c28] at H
      have c28b0 : decide (((rd_T46 l1 0).f0) ≤ a0_0) = false := decide_eq_false c28
      clear c28
      by_cases c32 : ((rd_T46 l1 0).f0) > (wrap64 (t161 + 1))
      ·rw [if_pos c32] at H
       have c32b0 : decide ((wrap64 (t161 + 1)) < ((rd_T46 l1 0).f0)) = true := decide_eq_true c32
       clear c32
       simp only [Option.some.injEq, Prod.mk.injEq] at H
       obtain ⟨rfl, rfl, rfl, rfl, rfl, rfl, rfl, rfl⟩ := H
       try go_wp2
       have n0_ := Aside0.mk (blk_drew BK159.out)
       have n1_ := Aside0.mk (blk_drew BK160.out)
       have n2_ := Aside0.mk (below_drew1 HB.out)
       clear BK159
       clear BK160
       clear HB
       have BK159 := n0_
       have BK160 := n1_
       have HB := n2_
       clear n0_ n1_ n2_
       have p165 : 0 ≤ (0 : Int) := (by omega)
       have q165 : 0 < (l1.length : Int) := of_decide_eq_true pS
       obtain ⟨ad165, A165_5, c165_5, e165, hx165_0, hx165_1, hx165_2, hx165_3, hx165_4, hx165_5, hx165_6, hx165_7, hx165_8, hx165_9, hl165_5, hi165_5⟩ := at_T46 HR1.out 0 p165 q165
       have hw165_9 := hx165_9
       (try rw [tz] at hw165_9)
       (try rw [show 0 * 10 = 0 from rfl] at hw165_9)
       (try rw [Addr.add_zero'] at hw165_9)
       have hw165_8 := hx165_8
       (try rw [tz] at hw165_8)
       (try rw [show 0 * 10 = 0 from rfl] at hw165_8)
       (try rw [Addr.add_zero'] at hw165_8)
       have hw165_7 := hx165_7
       (try rw [tz] at hw165_7)
       (try rw [show 0 * 10 = 0 from rfl] at hw165_7)
       (try rw [Addr.add_zero'] at hw165_7)
       have hw165_6 := hx165_6
       (try rw [tz] at hw165_6)
       (try rw [show 0 * 10 = 0 from rfl] at hw165_6)
       (try rw [Addr.add_zero'] at hw165_6)
       have hw165_5 := hx165_5
       (try rw [tz] at hw165_5)
       (try rw [show 0 * 10 = 0 from rfl] at hw165_5)
       (try rw [Addr.add_zero'] at hw165_5)
       have hw165_4 := hx165_4
       (try rw [tz] at hw165_4)
       (try rw [show 0 * 10 = 0 from rfl] at hw165_4)
       (try rw [Addr.add_zero'] at hw165_4)
       have hw165_3 := hx165_3
       (try rw [tz] at hw165_3)
       (try rw [show 0 * 10 = 0 from rfl] at hw165_3)
       (try rw [Addr.add_zero'] at hw165_3)
       have hw165_2 := hx165_2
       (try rw [tz] at hw165_2)
       (try rw [show 0 * 10 = 0 from rfl] at hw165_2)
       (try rw [Addr.add_zero'] at hw165_2)
       have hw165_1 := hx165_1
       (try rw [tz] at hw165_1)
       (try rw [show 0 * 10 = 0 from rfl] at hw165_1)
       (try rw [Addr.add_zero'] at hw165_1)
       have hw165_0 := hx165_0
       (try rw [tz] at hw165_0)
       (try rw [show 0 * 10 = 0 from rfl] at hw165_0)
       (try rw [Addr.add_zero'] at hw165_0)
       cases e165
       have qi165 : (0 < l1.length) = True := eq_true (by omega)
       (try rw [tz] at hx165_0)
       (try rw [show 0 * 10 = 0 from rfl] at hx165_0)
       (try rw [Addr.add_zero'] at hx165_0)
       (try rw [tz] at hx165_1)
       (try rw [show 0 * 10 = 0 from rfl] at hx165_1)
       (try rw [Addr.add_zero'] at hx165_1)
       (try rw [tz] at hx165_2)
       (try rw [show 0 * 10 = 0 from rfl] at hx165_2)
       (try rw [Addr.add_zero'] at hx165_2)
       (try rw [tz] at hx165_3)
       (try rw [show 0 * 10 = 0 from rfl] at hx165_3)
       (try rw [Addr.add_zero'] at hx165_3)
       (try rw [tz] at hx165_4)
       (try rw [show 0 * 10 = 0 from rfl] at hx165_4)
       (try rw [Addr.add_zero'] at hx165_4)
       (try rw [tz] at hx165_5)
       (try rw [show 0 * 10 = 0 from rfl] at hx165_5)
       (try rw [Addr.add_zero'] at hx165_5)
       (try rw [tz] at hx165_6)
       (try rw [show 0 * 10 = 0 from rfl] at hx165_6)
       (try rw [Addr.add_zero'] at hx165_6)
       (try rw [tz] at hx165_7)
       (try rw [show 0 * 10 = 0 from rfl] at hx165_7)
       (try rw [Addr.add_zero'] at hx165_7)
       (try rw [tz] at hx165_8)
       (try rw [show 0 * 10 = 0 from rfl] at hx165_8)
       (try rw [Addr.add_zero'] at hx165_8)
       (try rw [tz] at hx165_9)
       (try rw [show 0 * 10 = 0 from rfl] at hx165_9)
       (try rw [Addr.add_zero'] at hx165_9)
       replace hx165_0 := cU HB.out hx165_0
       replace hx165_1 := cU HB.out hx165_1
       replace hx165_2 := cU HB.out hx165_2
       replace hx165_3 := cU HB.out hx165_3
       replace hx165_4 := cU HB.out hx165_4
       replace hx165_5 := cU HB.out hx165_5
       replace hx165_6 := cU HB.out hx165_6
       replace hx165_7 := cU HB.out hx165_7
       replace hx165_8 := cU HB.out hx165_8
       replace hx165_9 := cU HB.out hx165_9
       have HR165_5 := Aside0.mk hi165_5
       have HC165_5 := Aside0.mk hl165_5
       clear hi165_5 hl165_5
       replace p165 := eq_true p165
       replace q165 := eq_true q165
       refine start_ (n := 8) (S := fun w' => cG w' gb159 0 (.int .i64 a0_0) ∧ cG w' gb159 1 (.int .i64 a0_1) ∧ cG w' gb159 2 (.slice A0_2 l0_2.length c0_2) ∧ cG w' gb159 3 (.int .i64 a0_3) ∧ cG w' gb159 4 (.int .i64 a0_4) ∧ cG w' gb159 5 (.int .i64 a0_5) ∧ cG w' gb159 6 (.int .i64 a0_6) ∧ w'.cell? ad165 = some (.int .i64 ((rd_T46 l1 0).f0)) ∧ cA w' ad165 1 (.int .i64 ((rd_T46 l1 0).f1)) ∧ cA w' ad165 2 (.int .i64 ((rd_T46 l1 0).f2)) ∧ cA w' ad165 3 (.string ((rd_T46 l1 0).f3)) ∧ cA w' ad165 4 (.bool ((rd_T46 l1 0).f4.f0)) ∧ cA w' ad165 5 (.slice A165_5 ((rd_T46 l1 0).f4.f1).length c165_5) ∧ cA w' ad165 6 (.int .i64 ((rd_T46 l1 0).f4.f2.f0)) ∧ cA w' ad165 7 (.int .i64 ((rd_T46 l1 0).f4.f2.f1)) ∧ cA w' ad165 8 (.int .i64 ((rd_T46 l1 0).f4.f2.f2)) ∧ cA w' ad165 9 (.int .u32 ((rd_T46 l1 0).f4.f2.f3))) (ds := []) #[false, false, false, false, false, false, false, false] (by kernel_rfl) rfl rfl ⟨(blk_cell BK159.out 0).trans rfl, (blk_cell BK159.out 1).trans rfl, (blk_cell BK159.out 2).trans rfl, (blk_cell BK159.out 3).trans rfl, (blk_cell BK159.out 4).trans rfl, (blk_cell BK159.out 5).trans rfl, (blk_cell BK159.out 6).trans rfl, (cT HB.out hw165_0), (cT HB.out hw165_1), (cT HB.out hw165_2), (cT HB.out hw165_3), (cT HB.out hw165_4), (cT HB.out hw165_5), (cT HB.out hw165_6), (cT HB.out hw165_7), (cT HB.out hw165_8), (cT HB.out hw165_9)⟩ (fun hHeld => ?_); refine with_tabW raft_Put.tab4 raft_Put.bits4 (fun HT_ HW_ => ?_)
       generalize wc.drew = w33 at BK159 BK160 HB HR165_5 hx165_0 hx165_1 hx165_2 hx165_3 hx165_4 hx165_5 hx165_6 hx165_7 hx165_8 hx165_9 hHeld ⊢
       refine pu 0 (some 33) (bw 8 1) HT_.out (h := ?_)
       refine pu 1 (some 34) (bw 8 3) HT_.out (h := ?_)
       refine pu 2 (some 35) (bw 8 7) HT_.out (h := ?_)
       refine pu 4 (some 37) (bw 8 23) HT_.out (h := ?_)
       refine tk 3 (some 36) (bw 8 31) HT_.out HW_.out hHeld (h := ?_)
       refine tk 5 (some 38) (bw 8 63) HT_.out HW_.out hHeld (h := ?_)
       refine pu 6 (some 39) (bw 8 127) HT_.out (h := ?_)
       refine pu 7 (some 32) (bw 8 255) HT_.out (h := ?_)
       refine done_ (done_of HT_.out (by kernel_rfl)) ?_
       have p166 : 0 ≤ (0 : Int) := (by omega)
       have q166 : 0 < (l1.length : Int) := of_decide_eq_true pS
       obtain ⟨ad166, A166_5, c166_5, e166, hx166_0, hx166_1, hx166_2, hx166_3, hx166_4, hx166_5, hx166_6, hx166_7, hx166_8, hx166_9, hl166_5, hi166_5⟩ := at_T46 HR1.out 0 p166 q166
       obtain rfl : ad165 = ad166 := (by injection e166)
       have qi166 : (0 < l1.length) = True := eq_true (by omega)
       (try rw [tz] at hx166_0)
       (try rw [show 0 * 10 = 0 from rfl] at hx166_0)
       (try rw [Addr.add_zero'] at hx166_0)
       (try rw [tz] at hx166_1)
       (try rw [show 0 * 10 = 0 from rfl] at hx166_1)
       (try rw [Addr.add_zero'] at hx166_1)
       (try rw [tz] at hx166_2)
       (try rw [show 0 * 10 = 0 from rfl] at hx166_2)
       (try rw [Addr.add_zero'] at hx166_2)
       (try rw [tz] at hx166_3)
       (try rw [show 0 * 10 = 0 from rfl] at hx166_3)
       (try rw [Addr.add_zero'] at hx166_3)
       (try rw [tz] at hx166_4)
       (try rw [show 0 * 10 = 0 from rfl] at hx166_4)
       (try rw [Addr.add_zero'] at hx166_4)
       (try rw [tz] at hx166_5)
       (try rw [show 0 * 10 = 0 from rfl] at hx166_5)
       (try rw [Addr.add_zero'] at hx166_5)
       (try rw [tz] at hx166_6)
       (try rw [show 0 * 10 = 0 from rfl] at hx166_6)
       (try rw [Addr.add_zero'] at hx166_6)
       (try rw [tz] at hx166_7)
       (try rw [show 0 * 10 = 0 from rfl] at hx166_7)
       (try rw [Addr.add_zero'] at hx166_7)
       (try rw [tz] at hx166_8)
       (try rw [show 0 * 10 = 0 from rfl] at hx166_8)
       (try rw [Addr.add_zero'] at hx166_8)
       (try rw [tz] at hx166_9)
       (try rw [show 0 * 10 = 0 from rfl] at hx166_9)
       (try rw [Addr.add_zero'] at hx166_9)
       replace hx166_0 := cU HB.out hx166_0
       replace hx166_1 := cU HB.out hx166_1
       replace hx166_2 := cU HB.out hx166_2
       replace hx166_3 := cU HB.out hx166_3
       replace hx166_4 := cU HB.out hx166_4
       replace hx166_5 := cU HB.out hx166_5
       replace hx166_6 := cU HB.out hx166_6
       replace hx166_7 := cU HB.out hx166_7
       replace hx166_8 := cU HB.out hx166_8
       replace hx166_9 := cU HB.out hx166_9
       have HR166_5 := Aside0.mk hi166_5
       have HC166_5 := Aside0.mk hl166_5
       clear hi166_5 hl166_5
       replace p166 := eq_true p166
       replace q166 := eq_true q166
       have ea_ := Option.some.inj (hx165_5.symm.trans hx166_5)
       injection ea_ with ea_ en_ ec_
       subst ea_
       subst ec_
       clear en_
       have hnb34 := NB160_159.out
       have hnc34 := NB159_160.out
       obtain ⟨hcz35_0, hcz35_1, hcz35_2, hcz35_3, hcz35_4, hcz35_5, hcz35_6⟩ := bc7 BK160.out
       obtain ⟨hfz35_0, hfz35_1, hfz35_2, hfz35_3, hfz35_4, hfz35_5, hfz35_6⟩ := bf7 BK160.out
       try go_wp2
       refine bodyPost_ret (results_ct rfl _ _ gb160 26 #[.int .i64 0, .int .i64 0, .slice none 0 0, .int .i64 0, .int .i64 0, .int .i64 0, .int .i64 0] (0, 0) _ rfl (kX0 BK160.out) Try.underlying26 rfl (by kernel_rfl)) rfl ?_
       exact ⟨_, pX, by first | exact Kd.S_nil _ _ _ _ _ | exact Kd.N_nil _ _ _ _ _ | exact Kd.V_nil _ _ _ _ _ | exact Kd.Q_nil _ _ _ _ _ | exact Kd.R_nil _ _ _ _ _, pE2 HB.out GE159.out GE160.out⟩
      ·rw [if_neg c32] at H
       have c32b0 : decide ((wrap64 (t161 + 1)) < ((rd_T46 l1 0).f0)) = false := decide_eq_false c32
       clear c32
       replace H := Option.bind_eq_some_iff.mp H
       obtain ⟨⟨t168, t169⟩, A360, H⟩ := H
       replace H : (if ((rd_T46 l1 0).f1) < t168 then (some (0, 0, ([] : List (S46)), 0, 0, 0, 0, 1)) else ((raft_owns.f kj3 l0_2).bind fun t171 => (raft_Put.l0 kj3 l1 t161 0 a0_0 a0_1 t171 a0_3 a0_4 a0_5 a0_6))) = some (r1, r2, r3, r4, r5, r6, r7, r8) := H
       have A36 := Aside0.mk A360
       clear A360
       by_cases c37 : ((rd_T46 l1 0).f1) < t168
       ·rw [if_pos c37] at H
        have c37b0 : decide (((rd_T46 l1 0).f1) < t168) = true := decide_eq_true c37
        clear c37
        simp only [Option.some.injEq, Prod.mk.injEq] at H
        obtain ⟨rfl, rfl, rfl, rfl, rfl, rfl, rfl, rfl⟩ := H
        try go_wp2
        have n0_ := Aside0.mk (blk_drew BK159.out)
        have n1_ := Aside0.mk (blk_drew BK160.out)
        have n2_ := Aside0.mk (below_drew1 HB.out)
        clear BK159
        clear BK160
        clear HB
        have BK159 := n0_
        have BK160 := n1_
        have HB := n2_
        clear n0_ n1_ n2_
        have p165 : 0 ≤ (0 : Int) := (by omega)
        have q165 : 0 < (l1.length : Int) := of_decide_eq_true pS
        obtain ⟨ad165, A165_5, c165_5, e165, hx165_0, hx165_1, hx165_2, hx165_3, hx165_4, hx165_5, hx165_6, hx165_7, hx165_8, hx165_9, hl165_5, hi165_5⟩ := at_T46 HR1.out 0 p165 q165
        have hw165_9 := hx165_9
        (try rw [tz] at hw165_9)
        (try rw [show 0 * 10 = 0 from rfl] at hw165_9)
        (try rw [Addr.add_zero'] at hw165_9)
        have hw165_8 := hx165_8
        (try rw [tz] at hw165_8)
        (try rw [show 0 * 10 = 0 from rfl] at hw165_8)
        (try rw [Addr.add_zero'] at hw165_8)
        have hw165_7 := hx165_7
        (try rw [tz] at hw165_7)
        (try rw [show 0 * 10 = 0 from rfl] at hw165_7)
        (try rw [Addr.add_zero'] at hw165_7)
        have hw165_6 := hx165_6
        (try rw [tz] at hw165_6)
        (try rw [show 0 * 10 = 0 from rfl] at hw165_6)
        (try rw [Addr.add_zero'] at hw165_6)
        have hw165_5 := hx165_5
        (try rw [tz] at hw165_5)
        (try rw [show 0 * 10 = 0 from rfl] at hw165_5)
        (try rw [Addr.add_zero'] at hw165_5)
        have hw165_4 := hx165_4
        (try rw [tz] at hw165_4)
        (try rw [show 0 * 10 = 0 from rfl] at hw165_4)
        (try rw [Addr.add_zero'] at hw165_4)
        have hw165_3 := hx165_3
        (try rw [tz] at hw165_3)
        (try rw [show 0 * 10 = 0 from rfl] at hw165_3)
        (try rw [Addr.add_zero'] at hw165_3)
        have hw165_2 := hx165_2
        (try rw [tz] at hw165_2)
        (try rw [show 0 * 10 = 0 from rfl] at hw165_2)
        (try rw [Addr.add_zero'] at hw165_2)
        have hw165_1 := hx165_1
        (try rw [tz] at hw165_1)
        (try rw [show 0 * 10 = 0 from rfl] at hw165_1)
        (try rw [Addr.add_zero'] at hw165_1)
        have hw165_0 := hx165_0
        (try rw [tz] at hw165_0)
        (try rw [show 0 * 10 = 0 from rfl] at hw165_0)
        (try rw [Addr.add_zero'] at hw165_0)
        cases e165
        have qi165 : (0 < l1.length) = True := eq_true (by omega)
        (try rw [tz] at hx165_0)
        (try rw [show 0 * 10 = 0 from rfl] at hx165_0)
        (try rw [Addr.add_zero'] at hx165_0)
        (try rw [tz] at hx165_1)
        (try rw [show 0 * 10 = 0 from rfl] at hx165_1)
        (try rw [Addr.add_zero'] at hx165_1)
        (try rw [tz] at hx165_2)
        (try rw [show 0 * 10 = 0 from rfl] at hx165_2)
        (try rw [Addr.add_zero'] at hx165_2)
        (try rw [tz] at hx165_3)
        (try rw [show 0 * 10 = 0 from rfl] at hx165_3)
        (try rw [Addr.add_zero'] at hx165_3)
        (try rw [tz] at hx165_4)
        (try rw [show 0 * 10 = 0 from rfl] at hx165_4)
        (try rw [Addr.add_zero'] at hx165_4)
        (try rw [tz] at hx165_5)
        (try rw [show 0 * 10 = 0 from rfl] at hx165_5)
        (try rw [Addr.add_zero'] at hx165_5)
        (try rw [tz] at hx165_6)
        (try rw [show 0 * 10 = 0 from rfl] at hx165_6)
        (try rw [Addr.add_zero'] at hx165_6)
        (try rw [tz] at hx165_7)
        (try rw [show 0 * 10 = 0 from rfl] at hx165_7)
        (try rw [Addr.add_zero'] at hx165_7)
        (try rw [tz] at hx165_8)
        (try rw [show 0 * 10 = 0 from rfl] at hx165_8)
        (try rw [Addr.add_zero'] at hx165_8)
        (try rw [tz] at hx165_9)
        (try rw [show 0 * 10 = 0 from rfl] at hx165_9)
        (try rw [Addr.add_zero'] at hx165_9)
        replace hx165_0 := cU HB.out hx165_0
        replace hx165_1 := cU HB.out hx165_1
        replace hx165_2 := cU HB.out hx165_2
        replace hx165_3 := cU HB.out hx165_3
        replace hx165_4 := cU HB.out hx165_4
        replace hx165_5 := cU HB.out hx165_5
        replace hx165_6 := cU HB.out hx165_6
        replace hx165_7 := cU HB.out hx165_7
        replace hx165_8 := cU HB.out hx165_8
        replace hx165_9 := cU HB.out hx165_9
        have HR165_5 := Aside0.mk hi165_5
        have HC165_5 := Aside0.mk hl165_5
        clear hi165_5 hl165_5
        replace p165 := eq_true p165
        replace q165 := eq_true q165
        refine start_ (n := 8) (S := fun w' => cG w' gb159 0 (.int .i64 a0_0) ∧ cG w' gb159 1 (.int .i64 a0_1) ∧ cG w' gb159 2 (.slice A0_2 l0_2.length c0_2) ∧ cG w' gb159 3 (.int .i64 a0_3) ∧ cG w' gb159 4 (.int .i64 a0_4) ∧ cG w' gb159 5 (.int .i64 a0_5) ∧ cG w' gb159 6 (.int .i64 a0_6) ∧ w'.cell? ad165 = some (.int .i64 ((rd_T46 l1 0).f0)) ∧ cA w' ad165 1 (.int .i64 ((rd_T46 l1 0).f1)) ∧ cA w' ad165 2 (.int .i64 ((rd_T46 l1 0).f2)) ∧ cA w' ad165 3 (.string ((rd_T46 l1 0).f3)) ∧ cA w' ad165 4 (.bool ((rd_T46 l1 0).f4.f0)) ∧ cA w' ad165 5 (.slice A165_5 ((rd_T46 l1 0).f4.f1).length c165_5) ∧ cA w' ad165 6 (.int .i64 ((rd_T46 l1 0).f4.f2.f0)) ∧ cA w' ad165 7 (.int .i64 ((rd_T46 l1 0).f4.f2.f1)) ∧ cA w' ad165 8 (.int .i64 ((rd_T46 l1 0).f4.f2.f2)) ∧ cA w' ad165 9 (.int .u32 ((rd_T46 l1 0).f4.f2.f3))) (ds := []) #[false, false, false, false, false, false, false, false] (by kernel_rfl) rfl rfl ⟨(blk_cell BK159.out 0).trans rfl, (blk_cell BK159.out 1).trans rfl, (blk_cell BK159.out 2).trans rfl, (blk_cell BK159.out 3).trans rfl, (blk_cell BK159.out 4).trans rfl, (blk_cell BK159.out 5).trans rfl, (blk_cell BK159.out 6).trans rfl, (cT HB.out hw165_0), (cT HB.out hw165_1), (cT HB.out hw165_2), (cT HB.out hw165_3), (cT HB.out hw165_4), (cT HB.out hw165_5), (cT HB.out hw165_6), (cT HB.out hw165_7), (cT HB.out hw165_8), (cT HB.out hw165_9)⟩ (fun hHeld => ?_); refine with_tabW raft_Put.tab4 raft_Put.bits4 (fun HT_ HW_ => ?_)
        generalize wc.drew = w38 at BK159 BK160 HB HR165_5 hx165_0 hx165_1 hx165_2 hx165_3 hx165_4 hx165_5 hx165_6 hx165_7 hx165_8 hx165_9 hHeld ⊢
        refine pu 0 (some 33) (bw 8 1) HT_.out (h := ?_)
        refine pu 1 (some 34) (bw 8 3) HT_.out (h := ?_)
        refine pu 2 (some 35) (bw 8 7) HT_.out (h := ?_)
        refine pu 4 (some 37) (bw 8 23) HT_.out (h := ?_)
        refine tk 3 (some 36) (bw 8 31) HT_.out HW_.out hHeld (h := ?_)
        refine tk 5 (some 38) (bw 8 63) HT_.out HW_.out hHeld (h := ?_)
        refine pu 6 (some 39) (bw 8 127) HT_.out (h := ?_)
        refine pu 7 (some 32) (bw 8 255) HT_.out (h := ?_)
        refine done_ (done_of HT_.out (by kernel_rfl)) ?_
        have p166 : 0 ≤ (0 : Int) := (by omega)
        have q166 : 0 < (l1.length : Int) := of_decide_eq_true pS
        obtain ⟨ad166, A166_5, c166_5, e166, hx166_0, hx166_1, hx166_2, hx166_3, hx166_4, hx166_5, hx166_6, hx166_7, hx166_8, hx166_9, hl166_5, hi166_5⟩ := at_T46 HR1.out 0 p166 q166
        obtain rfl : ad165 = ad166 := (by injection e166)
        have qi166 : (0 < l1.length) = True := eq_true (by omega)
        (try rw [tz] at hx166_0)
        (try rw [show 0 * 10 = 0 from rfl] at hx166_0)
        (try rw [Addr.add_zero'] at hx166_0)
        (try rw [tz] at hx166_1)
        (try rw [show 0 * 10 = 0 from rfl] at hx166_1)
        (try rw [Addr.add_zero'] at hx166_1)
        (try rw [tz] at hx166_2)
        (try rw [show 0 * 10 = 0 from rfl] at hx166_2)
        (try rw [Addr.add_zero'] at hx166_2)
        (try rw [tz] at hx166_3)
        (try rw [show 0 * 10 = 0 from rfl] at hx166_3)
        (try rw [Addr.add_zero'] at hx166_3)
        (try rw [tz] at hx166_4)
        (try rw [show 0 * 10 = 0 from rfl] at hx166_4)
        (try rw [Addr.add_zero'] at hx166_4)
        (try rw [tz] at hx166_5)
        (try rw [show 0 * 10 = 0 from rfl] at hx166_5)
        (try rw [Addr.add_zero'] at hx166_5)
        (try rw [tz] at hx166_6)
        (try rw [show 0 * 10 = 0 from rfl] at hx166_6)
        (try rw [Addr.add_zero'] at hx166_6)
        (try rw [tz] at hx166_7)
        (try rw [show 0 * 10 = 0 from rfl] at hx166_7)
        (try rw [Addr.add_zero'] at hx166_7)
        (try rw [tz] at hx166_8)
        (try rw [show 0 * 10 = 0 from rfl] at hx166_8)
        (try rw [Addr.add_zero'] at hx166_8)
        (try rw [tz] at hx166_9)
        (try rw [show 0 * 10 = 0 from rfl] at hx166_9)
        (try rw [Addr.add_zero'] at hx166_9)
        replace hx166_0 := cU HB.out hx166_0
        replace hx166_1 := cU HB.out hx166_1
        replace hx166_2 := cU HB.out hx166_2
        replace hx166_3 := cU HB.out hx166_3
        replace hx166_4 := cU HB.out hx166_4
        replace hx166_5 := cU HB.out hx166_5
        replace hx166_6 := cU HB.out hx166_6
        replace hx166_7 := cU HB.out hx166_7
        replace hx166_8 := cU HB.out hx166_8
        replace hx166_9 := cU HB.out hx166_9
        have HR166_5 := Aside0.mk hi166_5
        have HC166_5 := Aside0.mk hl166_5
        clear hi166_5 hl166_5
        replace p166 := eq_true p166
        replace q166 := eq_true q166
        have ea_ := Option.some.inj (hx165_5.symm.trans hx166_5)
        injection ea_ with ea_ en_ ec_
        subst ea_
        subst ec_
        clear en_
        try go_wp2
        have n0_ := Aside0.mk (blk_drew BK159.out)
        have n1_ := Aside0.mk (blk_drew BK160.out)
        have n2_ := Aside0.mk (below_drew1 HB.out)
        clear BK159
        clear BK160
        clear HB
        have BK159 := n0_
        have BK160 := n1_
        have HB := n2_
        clear n0_ n1_ n2_
        have p167 : 0 ≤ (0 : Int) := (by omega)
        have q167 : 0 < (l1.length : Int) := of_decide_eq_true pS
        obtain ⟨ad167, A167_5, c167_5, e167, hx167_0, hx167_1, hx167_2, hx167_3, hx167_4, hx167_5, hx167_6, hx167_7, hx167_8, hx167_9, hl167_5, hi167_5⟩ := at_T46 HR1.out 0 p167 q167
        have hw167_9 := hx167_9
        (try rw [tz] at hw167_9)
        (try rw [show 0 * 10 = 0 from rfl] at hw167_9)
        (try rw [Addr.add_zero'] at hw167_9)
        have hw167_8 := hx167_8
        (try rw [tz] at hw167_8)
        (try rw [show 0 * 10 = 0 from rfl] at hw167_8)
        (try rw [Addr.add_zero'] at hw167_8)
        have hw167_7 := hx167_7
        (try rw [tz] at hw167_7)
        (try rw [show 0 * 10 = 0 from rfl] at hw167_7)
        (try rw [Addr.add_zero'] at hw167_7)
        have hw167_6 := hx167_6
        (try rw [tz] at hw167_6)
        (try rw [show 0 * 10 = 0 from rfl] at hw167_6)
        (try rw [Addr.add_zero'] at hw167_6)
        have hw167_5 := hx167_5
        (try rw [tz] at hw167_5)
        (try rw [show 0 * 10 = 0 from rfl] at hw167_5)
        (try rw [Addr.add_zero'] at hw167_5)
        have hw167_4 := hx167_4
        (try rw [tz] at hw167_4)
        (try rw [show 0 * 10 = 0 from rfl] at hw167_4)
        (try rw [Addr.add_zero'] at hw167_4)
        have hw167_3 := hx167_3
        (try rw [tz] at hw167_3)
        (try rw [show 0 * 10 = 0 from rfl] at hw167_3)
        (try rw [Addr.add_zero'] at hw167_3)
        have hw167_2 := hx167_2
        (try rw [tz] at hw167_2)
        (try rw [show 0 * 10 = 0 from rfl] at hw167_2)
        (try rw [Addr.add_zero'] at hw167_2)
        have hw167_1 := hx167_1
        (try rw [tz] at hw167_1)
        (try rw [show 0 * 10 = 0 from rfl] at hw167_1)
        (try rw [Addr.add_zero'] at hw167_1)
        have hw167_0 := hx167_0
        (try rw [tz] at hw167_0)
        (try rw [show 0 * 10 = 0 from rfl] at hw167_0)
        (try rw [Addr.add_zero'] at hw167_0)
        obtain rfl : ad165 = ad167 := (by injection e167)
        have qi167 : (0 < l1.length) = True := eq_true (by omega)
        (try rw [tz] at hx167_0)
        (try rw [show 0 * 10 = 0 from rfl] at hx167_0)
        (try rw [Addr.add_zero'] at hx167_0)
        (try rw [tz] at hx167_1)
        (try rw [show 0 * 10 = 0 from rfl] at hx167_1)
        (try rw [Addr.add_zero'] at hx167_1)
        (try rw [tz] at hx167_2)
        (try rw [show 0 * 10 = 0 from rfl] at hx167_2)
        (try rw [Addr.add_zero'] at hx167_2)
        (try rw [tz] at hx167_3)
        (try rw [show 0 * 10 = 0 from rfl] at hx167_3)
        (try rw [Addr.add_zero'] at hx167_3)
        (try rw [tz] at hx167_4)
        (try rw [show 0 * 10 = 0 from rfl] at hx167_4)
        (try rw [Addr.add_zero'] at hx167_4)
        (try rw [tz] at hx167_5)
        (try rw [show 0 * 10 = 0 from rfl] at hx167_5)
        (try rw [Addr.add_zero'] at hx167_5)
        (try rw [tz] at hx167_6)
        (try rw [show 0 * 10 = 0 from rfl] at hx167_6)
        (try rw [Addr.add_zero'] at hx167_6)
        (try rw [tz] at hx167_7)
        (try rw [show 0 * 10 = 0 from rfl] at hx167_7)
        (try rw [Addr.add_zero'] at hx167_7)
        (try rw [tz] at hx167_8)
        (try rw [show 0 * 10 = 0 from rfl] at hx167_8)
        (try rw [Addr.add_zero'] at hx167_8)
        (try rw [tz] at hx167_9)
        (try rw [show 0 * 10 = 0 from rfl] at hx167_9)
        (try rw [Addr.add_zero'] at hx167_9)
        replace hx167_0 := cU HB.out hx167_0
        replace hx167_1 := cU HB.out hx167_1
        replace hx167_2 := cU HB.out hx167_2
        replace hx167_3 := cU HB.out hx167_3
        replace hx167_4 := cU HB.out hx167_4
        replace hx167_5 := cU HB.out hx167_5
        replace hx167_6 := cU HB.out hx167_6
        replace hx167_7 := cU HB.out hx167_7
        replace hx167_8 := cU HB.out hx167_8
        replace hx167_9 := cU HB.out hx167_9
        have HR167_5 := Aside0.mk hi167_5
        have HC167_5 := Aside0.mk hl167_5
        clear hi167_5 hl167_5
        replace p167 := eq_true p167
        replace q167 := eq_true q167
        refine start_ (n := 12) (S := fun w' => cG w' gb159 0 (.int .i64 a0_0) ∧ cG w' gb159 1 (.int .i64 a0_1) ∧ cG w' gb159 2 (.slice A0_2 l0_2.length c0_2) ∧ cG w' gb159 3 (.int .i64 a0_3) ∧ cG w' gb159 4 (.int .i64 a0_4) ∧ cG w' gb159 5 (.int .i64 a0_5) ∧ cG w' gb159 6 (.int .i64 a0_6) ∧ w'.cell? ad165 = some (.int .i64 ((rd_T46 l1 0).f0)) ∧ cA w' ad165 1 (.int .i64 ((rd_T46 l1 0).f1)) ∧ cA w' ad165 2 (.int .i64 ((rd_T46 l1 0).f2)) ∧ cA w' ad165 3 (.string ((rd_T46 l1 0).f3)) ∧ cA w' ad165 4 (.bool ((rd_T46 l1 0).f4.f0)) ∧ cA w' ad165 5 (.slice A167_5 ((rd_T46 l1 0).f4.f1).length c167_5) ∧ cA w' ad165 6 (.int .i64 ((rd_T46 l1 0).f4.f2.f0)) ∧ cA w' ad165 7 (.int .i64 ((rd_T46 l1 0).f4.f2.f1)) ∧ cA w' ad165 8 (.int .i64 ((rd_T46 l1 0).f4.f2.f2)) ∧ cA w' ad165 9 (.int .u32 ((rd_T46 l1 0).f4.f2.f3))) (ds := []) #[false, false, false, false, false, false, false, false, false, false, false, false] (by kernel_rfl) rfl rfl ⟨(blk_cell BK159.out 0).trans rfl, (blk_cell BK159.out 1).trans rfl, (blk_cell BK159.out 2).trans rfl, (blk_cell BK159.out 3).trans rfl, (blk_cell BK159.out 4).trans rfl, (blk_cell BK159.out 5).trans rfl, (blk_cell BK159.out 6).trans rfl, (cT HB.out hw167_0), (cT HB.out hw167_1), (cT HB.out hw167_2), (cT HB.out hw167_3), (cT HB.out hw167_4), (cT HB.out hw167_5), (cT HB.out hw167_6), (cT HB.out hw167_7), (cT HB.out hw167_8), (cT HB.out hw167_9)⟩ (fun hHeld => ?_); refine with_tabW raft_Put.tab8 raft_Put.bits8 (fun HT_ HW_ => ?_)
        generalize w38.drew = w39 at BK159 BK160 HB HR167_5 hx167_0 hx167_1 hx167_2 hx167_3 hx167_4 hx167_5 hx167_6 hx167_7 hx167_8 hx167_9 hHeld ⊢
        refine pu 1 (some 52) (bw 12 2) HT_.out (h := ?_)
        refine pu 2 (some 53) (bw 12 6) HT_.out (h := ?_)
        refine pu 3 (some 54) (bw 12 14) HT_.out (h := ?_)
        refine tk 0 (some 51) (bw 12 15) HT_.out HW_.out hHeld (h := ?_)
        refine tk 4 (some 55) (bw 12 31) HT_.out HW_.out hHeld (h := ?_)
        refine pu 5 (some 56) (bw 12 63) HT_.out (h := ?_)
        refine one_ (i := 6) (N := some 57) (bw 12 127) rfl rfl (one_of HT_.out (by kernel_rfl)) (by decide) (fun K hK => ?_)
        refine goes_ Try.func27 (by kernel_rfl) rfl #[.agg #[.int .i64 a0_0, .int .i64 a0_1, .slice A0_2 l0_2.length c0_2, .int .i64 a0_3, .int .i64 a0_4, .int .i64 a0_5, .int .i64 a0_6], .int .i64 (wrap64 (((rd_T46 l1 0).f0) - 1))] (by rfl) rfl rfl pL ?_
        with_reducible refine (raft_Term.calls kj3 a0_0 a0_1 _ _ l0_2 a0_3 a0_4 a0_5 a0_6 (wrap64 (((rd_T46 l1 0).f0) - 1)) t168 t169 _ ?side1 ?side2 A36.out).mono ?_
        (case side1 => exact pC (Kd.C_below HR0_2.out HB.out))
        (case side2 => exact HC0_2.out)
        rintro e w40 ⟨rfl, hb⟩
        refine ⟨_, rfl, ?_⟩
        have n0_ := Aside0.mk (kB BK159.out hb)
        have n1_ := Aside0.mk (kB BK160.out hb)
        have n2_ := Aside0.mk (below_step (pE2 HB.out GE159.out GE160.out) hb)
        clear BK159
        clear BK160
        clear HB
        have BK159 := n0_
        have BK160 := n1_
        have HB := n2_
        clear n0_ n1_ n2_
        (try clear hb)
        (try clear hb2)
        (try clear hk)
        (try clear hi)
        refine hK.out _ _ ⟨(blk_cell BK159.out 0).trans rfl, (blk_cell BK159.out 1).trans rfl, (blk_cell BK159.out 2).trans rfl, (blk_cell BK159.out 3).trans rfl, (blk_cell BK159.out 4).trans rfl, (blk_cell BK159.out 5).trans rfl, (blk_cell BK159.out 6).trans rfl, (cT HB.out hw167_0), (cT HB.out hw167_1), (cT HB.out hw167_2), (cT HB.out hw167_3), (cT HB.out hw167_4), (cT HB.out hw167_5), (cT HB.out hw167_6), (cT HB.out hw167_7), (cT HB.out hw167_8), (cT HB.out hw167_9)⟩ (fun hHeld => ?_)
        clear hK K
        refine norm_ (a' := ?_) ?_ ?_
        rotate_left
        ·show Act.put _ (some 57) _ = _
         simp only [Act.put, List.setIfInBounds_toArray, List.set_cons_zero, List.set_cons_succ, i64_w, i32_w]
         rfl
        refine pu 7 (some 50) (bw 12 255) HT_.out (h := ?_)
        refine pu 8 (some 58) (bw 12 511) HT_.out (h := ?_)
        refine pu 9 (some 59) (bw 12 1023) HT_.out (h := ?_)
        refine pu 10 (some 8) (bw 12 2047) HT_.out (h := ?_)
        refine pu 11 (some 9) (bw 12 4095) HT_.out (h := ?_)
        refine done_ (done_of HT_.out (by kernel_rfl)) ?_
        have p170 : 0 ≤ (0 : Int) := (by omega)
        have q170 : 0 < (l1.length : Int) := of_decide_eq_true pS
        obtain ⟨ad170, A170_5, c170_5, e170, hx170_0, hx170_1, hx170_2, hx170_3, hx170_4, hx170_5, hx170_6, hx170_7, hx170_8, hx170_9, hl170_5, hi170_5⟩ := at_T46 HR1.out 0 p170 q170
        obtain rfl : ad165 = ad170 := (by injection e170)
        have qi170 : (0 < l1.length) = True := eq_true (by omega)
        (try rw [tz] at hx170_0)
        (try rw [show 0 * 10 = 0 from rfl] at hx170_0)
        (try rw [Addr.add_zero'] at hx170_0)
        (try rw [tz] at hx170_1)
        (try rw [show 0 * 10 = 0 from rfl] at hx170_1)
        (try rw [Addr.add_zero'] at hx170_1)
        (try rw [tz] at hx170_2)
        (try rw [show 0 * 10 = 0 from rfl] at hx170_2)
        (try rw [Addr.add_zero'] at hx170_2)
        (try rw [tz] at hx170_3)
        (try rw [show 0 * 10 = 0 from rfl] at hx170_3)
        (try rw [Addr.add_zero'] at hx170_3)
        (try rw [tz] at hx170_4)
        (try rw [show 0 * 10 = 0 from rfl] at hx170_4)
        (try rw [Addr.add_zero'] at hx170_4)
        (try rw [tz] at hx170_5)
        (try rw [show 0 * 10 = 0 from rfl] at hx170_5)
        (try rw [Addr.add_zero'] at hx170_5)
        (try rw [tz] at hx170_6)
        (try rw [show 0 * 10 = 0 from rfl] at hx170_6)
        (try rw [Addr.add_zero'] at hx170_6)
        (try rw [tz] at hx170_7)
        (try rw [show 0 * 10 = 0 from rfl] at hx170_7)
        (try rw [Addr.add_zero'] at hx170_7)
        (try rw [tz] at hx170_8)
        (try rw [show 0 * 10 = 0 from rfl] at hx170_8)
        (try rw [Addr.add_zero'] at hx170_8)
        (try rw [tz] at hx170_9)
        (try rw [show 0 * 10 = 0 from rfl] at hx170_9)
        (try rw [Addr.add_zero'] at hx170_9)
        replace hx170_0 := cU HB.out hx170_0
        replace hx170_1 := cU HB.out hx170_1
        replace hx170_2 := cU HB.out hx170_2
        replace hx170_3 := cU HB.out hx170_3
        replace hx170_4 := cU HB.out hx170_4
        replace hx170_5 := cU HB.out hx170_5
        replace hx170_6 := cU HB.out hx170_6
        replace hx170_7 := cU HB.out hx170_7
        replace hx170_8 := cU HB.out hx170_8
        replace hx170_9 := cU HB.out hx170_9
        have HR170_5 := Aside0.mk hi170_5
        have HC170_5 := Aside0.mk hl170_5
        clear hi170_5 hl170_5
        replace p170 := eq_true p170
        replace q170 := eq_true q170
        have hnb41 := NB160_159.out
        have hnc41 := NB159_160.out
        obtain ⟨hcz42_0, hcz42_1, hcz42_2, hcz42_3, hcz42_4, hcz42_5, hcz42_6⟩ := bc7 BK160.out
        obtain ⟨hfz42_0, hfz42_1, hfz42_2, hfz42_3, hfz42_4, hfz42_5, hfz42_6⟩ := bf7 BK160.out
        try go_wp2
        refine bodyPost_ret (results_ct rfl _ _ gb160 26 #[.int .i64 0, .int .i64 0, .slice none 0 0, .int .i64 0, .int .i64 0, .int .i64 0, .int .i64 0] (0, 0) _ rfl (kX0 BK160.out) Try.underlying26 rfl (by kernel_rfl)) rfl ?_
        exact ⟨_, pX, by first | exact Kd.S_nil _ _ _ _ _ | exact Kd.N_nil _ _ _ _ _ | exact Kd.V_nil _ _ _ _ _ | exact Kd.Q_nil _ _ _ _ _ | exact Kd.R_nil _ _ _ _ _, pE2 HB.out GE159.out GE160.out⟩
       ·rw [if_neg c37] at H
        have c37b0 : decide (((rd_T46 l1 0).f1) < t168) = false := decide_eq_false c37
        clear c37
        replace H := Option.bind_eq_some_iff.mp H
        obtain ⟨t171, A430, H⟩ := H
        replace H : (raft_Put.l0 kj3 l1 t161 0 a0_0 a0_1 t171 a0_3 a0_4 a0_5 a0_6) = some (r1, r2, r3, r4, r5, r6, r7, r8) := H
        have A43 := Aside0.mk A430
        clear A430
        have HC44 := Aside0.mk H
        clear H
        try go_wp2
        have n0_ := Aside0.mk (blk_drew BK159.out)
        have n1_ := Aside0.mk (blk_drew BK160.out)
        have n2_ := Aside0.mk (below_drew1 HB.out)
        clear BK159
        clear BK160
        clear HB
        have BK159 := n0_
        have BK160 := n1_
        have HB := n2_
        clear n0_ n1_ n2_
        have p165 : 0 ≤ (0 : Int) := (by omega)
        have q165 : 0 < (l1.length : Int) := of_decide_eq_true pS
        obtain ⟨ad165, A165_5, c165_5, e165, hx165_0, hx165_1, hx165_2, hx165_3, hx165_4, hx165_5, hx165_6, hx165_7, hx165_8, hx165_9, hl165_5, hi165_5⟩ := at_T46 HR1.out 0 p165 q165
        have hw165_9 := hx165_9
        (try rw [tz] at hw165_9)
        (try rw [show 0 * 10 = 0 from rfl] at hw165_9)
        (try rw [Addr.add_zero'] at hw165_9)
        have hw165_8 := hx165_8
        (try rw [tz] at hw165_8)
        (try rw [show 0 * 10 = 0 from rfl] at hw165_8)
        (try rw [Addr.add_zero'] at hw165_8)
        have hw165_7 := hx165_7
        (try rw [tz] at hw165_7)
        (try rw [show 0 * 10 = 0 from rfl] at hw165_7)
        (try rw [Addr.add_zero'] at hw165_7)
        have hw165_6 := hx165_6
        (try rw [tz] at hw165_6)
        (try rw [show 0 * 10 = 0 from rfl] at hw165_6)
        (try rw [Addr.add_zero'] at hw165_6)
        have hw165_5 := hx165_5
        (try rw [tz] at hw165_5)
        (try rw [show 0 * 10 = 0 from rfl] at hw165_5)
        (try rw [Addr.add_zero'] at hw165_5)
        have hw165_4 := hx165_4
        (try rw [tz] at hw165_4)
        (try rw [show 0 * 10 = 0 from rfl] at hw165_4)
        (try rw [Addr.add_zero'] at hw165_4)
        have hw165_3 := hx165_3
        (try rw [tz] at hw165_3)
        (try rw [show 0 * 10 = 0 from rfl] at hw165_3)
        (try rw [Addr.add_zero'] at hw165_3)
        have hw165_2 := hx165_2
        (try rw [tz] at hw165_2)
        (try rw [show 0 * 10 = 0 from rfl] at hw165_2)
        (try rw [Addr.add_zero'] at hw165_2)
        have hw165_1 := hx165_1
        (try rw [tz] at hw165_1)
        (try rw [show 0 * 10 = 0 from rfl] at hw165_1)
        (try rw [Addr.add_zero'] at hw165_1)
        have hw165_0 := hx165_0
        (try rw [tz] at hw165_0)
        (try rw [show 0 * 10 = 0 from rfl] at hw165_0)
        (try rw [Addr.add_zero'] at hw165_0)
        cases e165
        have qi165 : (0 < l1.length) = True := eq_true (by omega)
        (try rw [tz] at hx165_0)
        (try rw [show 0 * 10 = 0 from rfl] at hx165_0)
        (try rw [Addr.add_zero'] at hx165_0)
        (try rw [tz] at hx165_1)
        (try rw [show 0 * 10 = 0 from rfl] at hx165_1)
        (try rw [Addr.add_zero'] at hx165_1)
        (try rw [tz] at hx165_2)
        (try rw [show 0 * 10 = 0 from rfl] at hx165_2)
        (try rw [Addr.add_zero'] at hx165_2)
        (try rw [tz] at hx165_3)
        (try rw [show 0 * 10 = 0 from rfl] at hx165_3)
        (try rw [Addr.add_zero'] at hx165_3)
        (try rw [tz] at hx165_4)
        (try rw [show 0 * 10 = 0 from rfl] at hx165_4)
        (try rw [Addr.add_zero'] at hx165_4)
        (try rw [tz] at hx165_5)
        (try rw [show 0 * 10 = 0 from rfl] at hx165_5)
        (try rw [Addr.add_zero'] at hx165_5)
        (try rw [tz] at hx165_6)
        (try rw [show 0 * 10 = 0 from rfl] at hx165_6)
        (try rw [Addr.add_zero'] at hx165_6)
        (try rw [tz] at hx165_7)
        (try rw [show 0 * 10 = 0 from rfl] at hx165_7)
        (try rw [Addr.add_zero'] at hx165_7)
        (try rw [tz] at hx165_8)
        (try rw [show 0 * 10 = 0 from rfl] at hx165_8)
        (try rw [Addr.add_zero'] at hx165_8)
        (try rw [tz] at hx165_9)
        (try rw [show 0 * 10 = 0 from rfl] at hx165_9)
        (try rw [Addr.add_zero'] at hx165_9)
        replace hx165_0 := cU HB.out hx165_0
        replace hx165_1 := cU HB.out hx165_1
        replace hx165_2 := cU HB.out hx165_2
        replace hx165_3 := cU HB.out hx165_3
        replace hx165_4 := cU HB.out hx165_4
        replace hx165_5 := cU HB.out hx165_5
        replace hx165_6 := cU HB.out hx165_6
        replace hx165_7 := cU HB.out hx165_7
        replace hx165_8 := cU HB.out hx165_8
        replace hx165_9 := cU HB.out hx165_9
        have HR165_5 := Aside0.mk hi165_5
        have HC165_5 := Aside0.mk hl165_5
        clear hi165_5 hl165_5
        replace p165 := eq_true p165
        replace q165 := eq_true q165
        refine start_ (n := 8) (S := fun w' => cG w' gb159 0 (.int .i64 a0_0) ∧ cG w' gb159 1 (.int .i64 a0_1) ∧ cG w' gb159 2 (.slice A0_2 l0_2.length c0_2) ∧ cG w' gb159 3 (.int .i64 a0_3) ∧ cG w' gb159 4 (.int .i64 a0_4) ∧ cG w' gb159 5 (.int .i64 a0_5) ∧ cG w' gb159 6 (.int .i64 a0_6) ∧ w'.cell? ad165 = some (.int .i64 ((rd_T46 l1 0).f0)) ∧ cA w' ad165 1 (.int .i64 ((rd_T46 l1 0).f1)) ∧ cA w' ad165 2 (.int .i64 ((rd_T46 l1 0).f2)) ∧ cA w' ad165 3 (.string ((rd_T46 l1 0).f3)) ∧ cA w' ad165 4 (.bool ((rd_T46 l1 0).f4.f0)) ∧ cA w' ad165 5 (.slice A165_5 ((rd_T46 l1 0).f4.f1).length c165_5) ∧ cA w' ad165 6 (.int .i64 ((rd_T46 l1 0).f4.f2.f0)) ∧ cA w' ad165 7 (.int .i64 ((rd_T46 l1 0).f4.f2.f1)) ∧ cA w' ad165 8 (.int .i64 ((rd_T46 l1 0).f4.f2.f2)) ∧ cA w' ad165 9 (.int .u32 ((rd_T46 l1 0).f4.f2.f3))) (ds := []) #[false, false, false, false, false, false, false, false] (by kernel_rfl) rfl rfl ⟨(blk_cell BK159.out 0).trans rfl, (blk_cell BK159.out 1).trans rfl, (blk_cell BK159.out 2).trans rfl, (blk_cell BK159.out 3).trans rfl, (blk_cell BK159.out 4).trans rfl, (blk_cell BK159.out 5).trans rfl, (blk_cell BK159.out 6).trans rfl, (cT HB.out hw165_0), (cT HB.out hw165_1), (cT HB.out hw165_2), (cT HB.out hw165_3), (cT HB.out hw165_4), (cT HB.out hw165_5), (cT HB.out hw165_6), (cT HB.out hw165_7), (cT HB.out hw165_8), (cT HB.out hw165_9)⟩ (fun hHeld => ?_); refine with_tabW raft_Put.tab4 raft_Put.bits4 (fun HT_ HW_ => ?_)
        generalize wc.drew = w45 at BK159 BK160 HB HR165_5 hx165_0 hx165_1 hx165_2 hx165_3 hx165_4 hx165_5 hx165_6 hx165_7 hx165_8 hx165_9 hHeld ⊢
        refine pu 0 (some 33) (bw 8 1) HT_.out (h := ?_)
        refine pu 1 (some 34) (bw 8 3) HT_.out (h := ?_)
        refine pu 2 (some 35) (bw 8 7) HT_.out (h := ?_)
        refine pu 4 (some 37) (bw 8 23) HT_.out (h := ?_)
        refine tk 3 (some 36) (bw 8 31) HT_.out HW_.out hHeld (h := ?_)
        refine tk 5 (some 38) (bw 8 63) HT_.out HW_.out hHeld (h := ?_)
        refine pu 6 (some 39) (bw 8 127) HT_.out (h := ?_)
        refine pu 7 (some 32) (bw 8 255) HT_.out (h := ?_)
        refine done_ (done_of HT_.out (by kernel_rfl)) ?_
        have p166 : 0 ≤ (0 : Int) := (by omega)
        have q166 : 0 < (l1.length : Int) := of_decide_eq_true pS
        obtain ⟨ad166, A166_5, c166_5, e166, hx166_0, hx166_1, hx166_2, hx166_3, hx166_4, hx166_5, hx166_6, hx166_7, hx166_8, hx166_9, hl166_5, hi166_5⟩ := at_T46 HR1.out 0 p166 q166
        obtain rfl : ad165 = ad166 := (by injection e166)
        have qi166 : (0 < l1.length) = True := eq_true (by omega)
        (try rw [tz] at hx166_0)
        (try rw [show 0 * 10 = 0 from rfl] at hx166_0)
        (try rw [Addr.add_zero'] at hx166_0)
        (try rw [tz] at hx166_1)
        (try rw [show 0 * 10 = 0 from rfl] at hx166_1)
        (try rw [Addr.add_zero'] at hx166_1)
        (try rw [tz] at hx166_2)
        (try rw [show 0 * 10 = 0 from rfl] at hx166_2)
        (try rw [Addr.add_zero'] at hx166_2)
        (try rw [tz] at hx166_3)
        (try rw [show 0 * 10 = 0 from rfl] at hx166_3)
        (try rw [Addr.add_zero'] at hx166_3)
        (try rw [tz] at hx166_4)
        (try rw [show 0 * 10 = 0 from rfl] at hx166_4)
        (try rw [Addr.add_zero'] at hx166_4)
        (try rw [tz] at hx166_5)
        (try rw [show 0 * 10 = 0 from rfl] at hx166_5)
        (try rw [Addr.add_zero'] at hx166_5)
        (try rw [tz] at hx166_6)
        (try rw [show 0 * 10 = 0 from rfl] at hx166_6)
        (try rw [Addr.add_zero'] at hx166_6)
        (try rw [tz] at hx166_7)
        (try rw [show 0 * 10 = 0 from rfl] at hx166_7)
        (try rw [Addr.add_zero'] at hx166_7)
        (try rw [tz] at hx166_8)
        (try rw [show 0 * 10 = 0 from rfl] at hx166_8)
        (try rw [Addr.add_zero'] at hx166_8)
        (try rw [tz] at hx166_9)
        (try rw [show 0 * 10 = 0 from rfl] at hx166_9)
        (try rw [Addr.add_zero'] at hx166_9)
        replace hx166_0 := cU HB.out hx166_0
        replace hx166_1 := cU HB.out hx166_1
        replace hx166_2 := cU HB.out hx166_2
        replace hx166_3 := cU HB.out hx166_3
        replace hx166_4 := cU HB.out hx166_4
        replace hx166_5 := cU HB.out hx166_5
        replace hx166_6 := cU HB.out hx166_6
        replace hx166_7 := cU HB.out hx166_7
        replace hx166_8 := cU HB.out hx166_8
        replace hx166_9 := cU HB.out hx166_9
        have HR166_5 := Aside0.mk hi166_5
        have HC166_5 := Aside0.mk hl166_5
        clear hi166_5 hl166_5
        replace p166 := eq_true p166
        replace q166 := eq_true q166
        have ea_ := Option.some.inj (hx165_5.symm.trans hx166_5)
        injection ea_ with ea_ en_ ec_
        subst ea_
        subst ec_
        clear en_
        try go_wp2
        have n0_ := Aside0.mk (blk_drew BK159.out)
        have n1_ := Aside0.mk (blk_drew BK160.out)
        have n2_ := Aside0.mk (below_drew1 HB.out)
        clear BK159
        clear BK160
        clear HB
        have BK159 := n0_
        have BK160 := n1_
        have HB := n2_
        clear n0_ n1_ n2_
        have p167 : 0 ≤ (0 : Int) := (by omega)
        have q167 : 0 < (l1.length : Int) := of_decide_eq_true pS
        obtain ⟨ad167, A167_5, c167_5, e167, hx167_0, hx167_1, hx167_2, hx167_3, hx167_4, hx167_5, hx167_6, hx167_7, hx167_8, hx167_9, hl167_5, hi167_5⟩ := at_T46 HR1.out 0 p167 q167
        have hw167_9 := hx167_9
        (try rw [tz] at hw167_9)
        (try rw [show 0 * 10 = 0 from rfl] at hw167_9)
        (try rw [Addr.add_zero'] at hw167_9)
        have hw167_8 := hx167_8
        (try rw [tz] at hw167_8)
        (try rw [show 0 * 10 = 0 from rfl] at hw167_8)
        (try rw [Addr.add_zero'] at hw167_8)
        have hw167_7 := hx167_7
        (try rw [tz] at hw167_7)
        (try rw [show 0 * 10 = 0 from rfl] at hw167_7)
        (try rw [Addr.add_zero'] at hw167_7)
        have hw167_6 := hx167_6
        (try rw [tz] at hw167_6)
        (try rw [show 0 * 10 = 0 from rfl] at hw167_6)
        (try rw [Addr.add_zero'] at hw167_6)
        have hw167_5 := hx167_5
        (try rw [tz] at hw167_5)
        (try rw [show 0 * 10 = 0 from rfl] at hw167_5)
        (try rw [Addr.add_zero'] at hw167_5)
        have hw167_4 := hx167_4
        (try rw [tz] at hw167_4)
        (try rw [show 0 * 10 = 0 from rfl] at hw167_4)
        (try rw [Addr.add_zero'] at hw167_4)
        have hw167_3 := hx167_3
        (try rw [tz] at hw167_3)
        (try rw [show 0 * 10 = 0 from rfl] at hw167_3)
        (try rw [Addr.add_zero'] at hw167_3)
        have hw167_2 := hx167_2
        (try rw [tz] at hw167_2)
        (try rw [show 0 * 10 = 0 from rfl] at hw167_2)
        (try rw [Addr.add_zero'] at hw167_2)
        have hw167_1 := hx167_1
        (try rw [tz] at hw167_1)
        (try rw [show 0 * 10 = 0 from rfl] at hw167_1)
        (try rw [Addr.add_zero'] at hw167_1)
        have hw167_0 := hx167_0
        (try rw [tz] at hw167_0)
        (try rw [show 0 * 10 = 0 from rfl] at hw167_0)
        (try rw [Addr.add_zero'] at hw167_0)
        obtain rfl : ad165 = ad167 := (by injection e167)
        have qi167 : (0 < l1.length) = True := eq_true (by omega)
        (try rw [tz] at hx167_0)
        (try rw [show 0 * 10 = 0 from rfl] at hx167_0)
        (try rw [Addr.add_zero'] at hx167_0)
        (try rw [tz] at hx167_1)
        (try rw [show 0 * 10 = 0 from rfl] at hx167_1)
        (try rw [Addr.add_zero'] at hx167_1)
        (try rw [tz] at hx167_2)
        (try rw [show 0 * 10 = 0 from rfl] at hx167_2)
        (try rw [Addr.add_zero'] at hx167_2)
        (try rw [tz] at hx167_3)
        (try rw [show 0 * 10 = 0 from rfl] at hx167_3)
        (try rw [Addr.add_zero'] at hx167_3)
        (try rw [tz] at hx167_4)
        (try rw [show 0 * 10 = 0 from rfl] at hx167_4)
        (try rw [Addr.add_zero'] at hx167_4)
        (try rw [tz] at hx167_5)
        (try rw [show 0 * 10 = 0 from rfl] at hx167_5)
        (try rw [Addr.add_zero'] at hx167_5)
        (try rw [tz] at hx167_6)
        (try rw [show 0 * 10 = 0 from rfl] at hx167_6)
        (try rw [Addr.add_zero'] at hx167_6)
        (try rw [tz] at hx167_7)
        (try rw [show 0 * 10 = 0 from rfl] at hx167_7)
        (try rw [Addr.add_zero'] at hx167_7)
        (try rw [tz] at hx167_8)
        (try rw [show 0 * 10 = 0 from rfl] at hx167_8)
        (try rw [Addr.add_zero'] at hx167_8)
        (try rw [tz] at hx167_9)
        (try rw [show 0 * 10 = 0 from rfl] at hx167_9)
        (try rw [Addr.add_zero'] at hx167_9)
        replace hx167_0 := cU HB.out hx167_0
        replace hx167_1 := cU HB.out hx167_1
        replace hx167_2 := cU HB.out hx167_2
        replace hx167_3 := cU HB.out hx167_3
        replace hx167_4 := cU HB.out hx167_4
        replace hx167_5 := cU HB.out hx167_5
        replace hx167_6 := cU HB.out hx167_6
        replace hx167_7 := cU HB.out hx167_7
        replace hx167_8 := cU HB.out hx167_8
        replace hx167_9 := cU HB.out hx167_9
        have HR167_5 := Aside0.mk hi167_5
        have HC167_5 := Aside0.mk hl167_5
        clear hi167_5 hl167_5
        replace p167 := eq_true p167
        replace q167 := eq_true q167
        refine start_ (n := 12) (S := fun w' => cG w' gb159 0 (.int .i64 a0_0) ∧ cG w' gb159 1 (.int .i64 a0_1) ∧ cG w' gb159 2 (.slice A0_2 l0_2.length c0_2) ∧ cG w' gb159 3 (.int .i64 a0_3) ∧ cG w' gb159 4 (.int .i64 a0_4) ∧ cG w' gb159 5 (.int .i64 a0_5) ∧ cG w' gb159 6 (.int .i64 a0_6) ∧ w'.cell? ad165 = some (.int .i64 ((rd_T46 l1 0).f0)) ∧ cA w' ad165 1 (.int .i64 ((rd_T46 l1 0).f1)) ∧ cA w' ad165 2 (.int .i64 ((rd_T46 l1 0).f2)) ∧ cA w' ad165 3 (.string ((rd_T46 l1 0).f3)) ∧ cA w' ad165 4 (.bool ((rd_T46 l1 0).f4.f0)) ∧ cA w' ad165 5 (.slice A167_5 ((rd_T46 l1 0).f4.f1).length c167_5) ∧ cA w' ad165 6 (.int .i64 ((rd_T46 l1 0).f4.f2.f0)) ∧ cA w' ad165 7 (.int .i64 ((rd_T46 l1 0).f4.f2.f1)) ∧ cA w' ad165 8 (.int .i64 ((rd_T46 l1 0).f4.f2.f2)) ∧ cA w' ad165 9 (.int .u32 ((rd_T46 l1 0).f4.f2.f3))) (ds := []) #[false, false, false, false, false, false, false, false, false, false, false, false] (by kernel_rfl) rfl rfl ⟨(blk_cell BK159.out 0).trans rfl, (blk_cell BK159.out 1).trans rfl, (blk_cell BK159.out 2).trans rfl, (blk_cell BK159.out 3).trans rfl, (blk_cell BK159.out 4).trans rfl, (blk_cell BK159.out 5).trans rfl, (blk_cell BK159.out 6).trans rfl, (cT HB.out hw167_0), (cT HB.out hw167_1), (cT HB.out hw167_2), (cT HB.out hw167_3), (cT HB.out hw167_4), (cT HB.out hw167_5), (cT HB.out hw167_6), (cT HB.out hw167_7), (cT HB.out hw167_8), (cT HB.out hw167_9)⟩ (fun hHeld => ?_); refine with_tabW raft_Put.tab8 raft_Put.bits8 (fun HT_ HW_ => ?_)
        generalize w45.drew = w46 at BK159 BK160 HB HR167_5 hx167_0 hx167_1 hx167_2 hx167_3 hx167_4 hx167_5 hx167_6 hx167_7 hx167_8 hx167_9 hHeld ⊢
        refine pu 1 (some 52) (bw 12 2) HT_.out (h := ?_)
        refine pu 2 (some 53) (bw 12 6) HT_.out (h := ?_)
        refine pu 3 (some 54) (bw 12 14) HT_.out (h := ?_)
        refine tk 0 (some 51) (bw 12 15) HT_.out HW_.out hHeld (h := ?_)
        refine tk 4 (some 55) (bw 12 31) HT_.out HW_.out hHeld (h := ?_)
        refine pu 5 (some 56) (bw 12 63) HT_.out (h := ?_)
        refine one_ (i := 6) (N := some 57) (bw 12 127) rfl rfl (one_of HT_.out (by kernel_rfl)) (by decide) (fun K hK => ?_)
        refine goes_ Try.func27 (by kernel_rfl) rfl #[.agg #[.int .i64 a0_0, .int .i64 a0_1, .slice A0_2 l0_2.length c0_2, .int .i64 a0_3, .int .i64 a0_4, .int .i64 a0_5, .int .i64 a0_6], .int .i64 (wrap64 (((rd_T46 l1 0).f0) - 1))] (by rfl) rfl rfl pL ?_
        with_reducible refine (raft_Term.calls kj3 a0_0 a0_1 _ _ l0_2 a0_3 a0_4 a0_5 a0_6 (wrap64 (((rd_T46 l1 0).f0) - 1)) t168 t169 _ ?side1 ?side2 A36.out).mono ?_
        (case side1 => exact pC (Kd.C_below HR0_2.out HB.out))
        (case side2 => exact HC0_2.out)
        rintro e w47 ⟨rfl, hb⟩
        refine ⟨_, rfl, ?_⟩
        have n0_ := Aside0.mk (kB BK159.out hb)
        have n1_ := Aside0.mk (kB BK160.out hb)
        have n2_ := Aside0.mk (below_step (pE2 HB.out GE159.out GE160.out) hb)
        clear BK159
        clear BK160
        clear HB
        have BK159 := n0_
        have BK160 := n1_
        have HB := n2_
        clear n0_ n1_ n2_
        (try clear hb)
        (try clear hb2)
        (try clear hk)
        (try clear hi)
        refine hK.out _ _ ⟨(blk_cell BK159.out 0).trans rfl, (blk_cell BK159.out 1).trans rfl, (blk_cell BK159.out 2).trans rfl, (blk_cell BK159.out 3).trans rfl, (blk_cell BK159.out 4).trans rfl, (blk_cell BK159.out 5).trans rfl, (blk_cell BK159.out 6).trans rfl, (cT HB.out hw167_0), (cT HB.out hw167_1), (cT HB.out hw167_2), (cT HB.out hw167_3), (cT HB.out hw167_4), (cT HB.out hw167_5), (cT HB.out hw167_6), (cT HB.out hw167_7), (cT HB.out hw167_8), (cT HB.out hw167_9)⟩ (fun hHeld => ?_)
        clear hK K
        refine norm_ (a' := ?_) ?_ ?_
        rotate_left
        ·show Act.put _ (some 57) _ = _
         simp only [Act.put, List.setIfInBounds_toArray, List.set_cons_zero, List.set_cons_succ, i64_w, i32_w]
         rfl
        refine pu 7 (some 50) (bw 12 255) HT_.out (h := ?_)
        refine pu 8 (some 58) (bw 12 511) HT_.out (h := ?_)
        refine pu 9 (some 59) (bw 12 1023) HT_.out (h := ?_)
        refine pu 10 (some 8) (bw 12 2047) HT_.out (h := ?_)
        refine pu 11 (some 9) (bw 12 4095) HT_.out (h := ?_)
        refine done_ (done_of HT_.out (by kernel_rfl)) ?_
        have p170 : 0 ≤ (0 : Int) := (by omega)
        have q170 : 0 < (l1.length : Int) := of_decide_eq_true pS
        obtain ⟨ad170, A170_5, c170_5, e170, hx170_0, hx170_1, hx170_2, hx170_3, hx170_4, hx170_5, hx170_6, hx170_7, hx170_8, hx170_9, hl170_5, hi170_5⟩ := at_T46 HR1.out 0 p170 q170
        obtain rfl : ad165 = ad170 := (by injection e170)
        have qi170 : (0 < l1.length) = True := eq_true (by omega)
        (try rw [tz] at hx170_0)
        (try rw [show 0 * 10 = 0 from rfl] at hx170_0)
        (try rw [Addr.add_zero'] at hx170_0)
        (try rw [tz] at hx170_1)
        (try rw [show 0 * 10 = 0 from rfl] at hx170_1)
        (try rw [Addr.add_zero'] at hx170_1)
        (try rw [tz] at hx170_2)
        (try rw [show 0 * 10 = 0 from rfl] at hx170_2)
        (try rw [Addr.add_zero'] at hx170_2)
        (try rw [tz] at hx170_3)
        (try rw [show 0 * 10 = 0 from rfl] at hx170_3)
        (try rw [Addr.add_zero'] at hx170_3)
        (try rw [tz] at hx170_4)
        (try rw [show 0 * 10 = 0 from rfl] at hx170_4)
        (try rw [Addr.add_zero'] at hx170_4)
        (try rw [tz] at hx170_5)
        (try rw [show 0 * 10 = 0 from rfl] at hx170_5)
        (try rw [Addr.add_zero'] at hx170_5)
        (try rw [tz] at hx170_6)
        (try rw [show 0 * 10 = 0 from rfl] at hx170_6)
        (try rw [Addr.add_zero'] at hx170_6)
        (try rw [tz] at hx170_7)
        (try rw [show 0 * 10 = 0 from rfl] at hx170_7)
        (try rw [Addr.add_zero'] at hx170_7)
        (try rw [tz] at hx170_8)
        (try rw [show 0 * 10 = 0 from rfl] at hx170_8)
        (try rw [Addr.add_zero'] at hx170_8)
        (try rw [tz] at hx170_9)
        (try rw [show 0 * 10 = 0 from rfl] at hx170_9)
        (try rw [Addr.add_zero'] at hx170_9)
        replace hx170_0 := cU HB.out hx170_0
        replace hx170_1 := cU HB.out hx170_1
        replace hx170_2 := cU HB.out hx170_2
        replace hx170_3 := cU HB.out hx170_3
        replace hx170_4 := cU HB.out hx170_4
        replace hx170_5 := cU HB.out hx170_5
        replace hx170_6 := cU HB.out hx170_6
        replace hx170_7 := cU HB.out hx170_7
        replace hx170_8 := cU HB.out hx170_8
        replace hx170_9 := cU HB.out hx170_9
        have HR170_5 := Aside0.mk hi170_5
        have HC170_5 := Aside0.mk hl170_5
        clear hi170_5 hl170_5
        replace p170 := eq_true p170
        replace q170 := eq_true q170
        have hnb48 := NB159_160.out
        have hnc48 := NB160_159.out
        obtain ⟨hcz49_0, hcz49_1, hcz49_2, hcz49_3, hcz49_4, hcz49_5, hcz49_6⟩ := bc7 BK159.out
        obtain ⟨hfz49_0, hfz49_1, hfz49_2, hfz49_3, hfz49_4, hfz49_5, hfz49_6⟩ := bf7 BK159.out
        go_upto_block 1 with (first | ((with_reducible refine gate_callee (f := 28) rfl ?_); refine goesL_ (some 69) rfl rfl Try.func28 (by kernel_rfl) rfl #[.slice A0_2 l0_2.length c0_2] rfl pL ?_; (with_reducible refine (raft_owns.calls kj3 _ _ l0_2 t171 _ ?side1 ?side2 A43.out).mono ?_); (case side1 => exact pC (Kd.C_below HR0_2.out HB.out)); (case side2 => exact HC0_2.out); rintro e w50 ⟨v172, rfl, ho0, hb⟩; refine ⟨_, rfl, ?_⟩; have n0_ := Aside0.mk (Kd.N_lower (Kd.N_mono (ok' := fun k_ => (w.heap.size ≤ k_) ∧ k_ ≠ gb159 ∧ k_ ≠ gb160) (Kd.S_N (Kd.S_bound ho0)) (fun k_ hk_ => ⟨(Nat.le_trans (below_size (pE2 HB.out GE159.out GE160.out)) hk_.2.1), (kF BK159.out k_ hk_.2.1), (kF BK160.out k_ hk_.2.1)⟩)) (below_size (pE2 HB.out GE159.out GE160.out))); have n1_ := Aside0.mk (kB BK159.out hb); have n2_ := Aside0.mk (kB BK160.out hb); have n3_ := Aside0.mk (below_step (pE2 HB.out GE159.out GE160.out) hb); clear BK159 BK160 HB; have HO173 := n0_; have BK159 := n1_; have BK160 := n2_; have HB := n3_; clear n0_ n1_ n2_ n3_; (try clear hb); (try clear hb2); (try clear hk); (try clear hi); (try clear ho0); obtain ⟨Ao51, co51, eo51⟩ := Kd.N_slice HO173.out; subst eo51; obtain ⟨hcz52_0, hcz52_1, hcz52_2, hcz52_3, hcz52_4, hcz52_5, hcz52_6⟩ := bc7 BK159.out; obtain ⟨hfz52_0, hfz52_1, hfz52_2, hfz52_3, hfz52_4, hfz52_5, hfz52_6⟩ := bf7 BK159.out))
        (try simp only [Act.put, List.setIfInBounds_toArray, List.set_cons_zero, List.set_cons_succ])
        go_cut [10] (fun v10 wc => ∃ (kq : Nat) (x10_43 : Int), v10 = .int .i64 x10_43 ∧ Aside0 (raft_Put.j2 kq l1 x10_43 a0_0 a0_1 t171 a0_3 a0_4 a0_5 a0_6 = some (r1, r2, r3, r4, r5, r6, r7, r8)) ∧ Aside0 (kq ≤ kj3) ∧ Aside0 (Kd.N k46 46 wc w.heap.size (fun k_ => (w.heap.size ≤ k_) ∧ k_ ≠ gb159 ∧ k_ ≠ gb160) (.slice Ao51 t171.length co51) t171) ∧ Aside0 (wc.heap[gb159]? = some (.cells #[.int .i64 a0_0, .int .i64 a0_1, (.slice Ao51 t171.length co51), .int .i64 a0_3, .int .i64 a0_4, .int .i64 a0_5, .int .i64 a0_6] 26 (0, 0))) ∧ Aside0 (wc.heap[gb160]? = some (.cells #[.int .i64 0, .int .i64 0, (.slice none 0 0), .int .i64 0, .int .i64 0, .int .i64 0, .int .i64 0] 26 (0, 0))) ∧ Aside0 (Below w.heap.size w wc))
        case first =>
         have H := HC44.out
         clear HC44
         have H' := Aside0.mk H
         clear H
         go_wp2
         go_loopg [10] kj3 (fun kq v10 w' => ∃ (x10_2 : Int), v10 = .int .i64 x10_2 ∧ Aside0 (raft_Put.l0 kq l1 t161 x10_2 a0_0 a0_1 t171 a0_3 a0_4 a0_5 a0_6 = some (r1, r2, r3, r4, r5, r6, r7, r8)) ∧ Aside0 (kq ≤ kj3) ∧ Aside0 (Kd.N k46 46 w' w.heap.size (fun k_ => (w.heap.size ≤ k_) ∧ k_ ≠ gb159 ∧ k_ ≠ gb160) (.slice Ao51 t171.length co51) t171) ∧ Aside0 (w'.heap[gb159]? = some (.cells #[.int .i64 a0_0, .int .i64 a0_1, (.slice Ao51 t171.length co51), .int .i64 a0_3, .int .i64 a0_4, .int .i64 a0_5, .int .i64 a0_6] 26 (0, 0))) ∧ Aside0 (w'.heap[gb160]? = some (.cells #[.int .i64 0, .int .i64 0, (.slice none 0 0), .int .i64 0, .int .i64 0, .int .i64 0, .int .i64 0] 26 (0, 0))) ∧ Aside0 (Below w.heap.size w w'))
         case atStart => exact ⟨(0), (by first | rfl | (simp; done) | (simp [*]; done)), H', ⟨Nat.le_refl _⟩, ⟨by (with_reducible repeat (first | apply Kd.N_alloc | apply Kd.N_drewN | apply Kd.N_drew)); exact Kd.N_mono (Kd.N_far (p := ⟨gb159, 2, none⟩) (Kd.N_mono HO173.out (fun k_ hk => (⟨hk, hk.2.1⟩ : _ ∧ k_ ≠ gb159))) (fun _ hk => hk.2) (.slice Ao51 t171.length co51)) (fun _ hk => ⟨hk.1.1, ⟨hk.1.2.1, hk.1.2.2⟩⟩)⟩, ⟨by (with_reducible repeat (first | refine blk_drewN ?_ _ | refine blk_drew ?_ | refine blk_alloc ?_ _)); refine blk_put (cs := #[.int .i64 a0_0, .int .i64 a0_1, .slice A0_2 l0_2.length c0_2, .int .i64 a0_3, .int .i64 a0_4, .int .i64 a0_5, .int .i64 a0_6]) ?_ 2 _ rfl; (with_reducible repeat (first | refine blk_drewN ?_ _ | refine blk_drew ?_ | refine blk_alloc ?_ _)); exact BK159.out⟩, ⟨kX1 BK160.out NB160_159.out⟩, ⟨pE2 HB.out GE159.out GE160.out⟩⟩
         case round =>
          clear H'
          try clear c1
          try clear p1
          try clear q1
          try clear hx1
          try clear qi1
          try clear c2
          try clear p2
          try clear c3
          try clear c4
          try clear p6
          try clear c16
          try clear p16
          try clear q16
          try clear hx16
          try clear qi16
          try clear c17
          try clear p17
          try clear q17
          try clear hx17
          try clear qi17
          try clear c27
          try clear c28
          try clear c37
          try clear c37b0
          try clear c41
          try clear c48
          try clear hcz42_0
          try clear hcz42_1
          try clear hcz42_2
          try clear hcz42_3
          try clear hcz42_4
          try clear hcz42_5
          try clear hcz42_6
          try clear hcz49_0
          try clear hcz49_1
          try clear hcz49_2
          try clear hcz49_3
          try clear hcz49_4
          try clear hcz49_5
          try clear hcz49_6
          try clear hcz52_0
          try clear hcz52_1
          try clear hcz52_2
          try clear hcz52_3
          try clear hcz52_4
          try clear hcz52_5
          try clear hcz52_6
          try clear hfz42_0
          try clear hfz42_1
          try clear hfz42_2
          try clear hfz42_3
          try clear hfz42_4
          try clear hfz42_5
          try clear hfz42_6
          try clear hfz49_0
          try clear hfz49_1
          try clear hfz49_2
          try clear hfz49_3
          try clear hfz49_4
          try clear hfz49_5
          try clear hfz49_6
          try clear hfz52_0
          try clear hfz52_1
          try clear hfz52_2
          try clear hfz52_3
          try clear hfz52_4
          try clear hfz52_5
          try clear hfz52_6
          try clear hx165_0
          try clear hx165_1
          try clear hx165_2
          try clear hx165_3
          try clear hx165_4
          try clear hx165_5
          try clear hx165_6
          try clear hx165_7
          try clear hx165_8
          try clear hx165_9
          try clear hx166_0
          try clear hx166_1
          try clear hx166_2
          try clear hx166_3
          try clear hx166_4
          try clear hx166_5
          try clear hx166_6
          try clear hx166_7
          try clear hx166_8
          try clear hx166_9
          try clear hx167_0
          try clear hx167_1
          try clear hx167_2
          try clear hx167_3
          try clear hx167_4
          try clear hx167_5
          try clear hx167_6
          try clear hx167_7
          try clear hx167_8
          try clear hx167_9
          try clear hx170_0
          try clear hx170_1
          try clear hx170_2
          try clear hx170_3
          try clear hx170_4
          try clear hx170_5
          try clear hx170_6
          try clear hx170_7
          try clear hx170_8
          try clear hx170_9
          try clear p165
          try clear p166
          try clear p167
          try clear p170
          try clear q165
          try clear q166
          try clear q167
          try clear q170
          obtain ⟨x10_2, rfl, HA, HK2, HO_160002, BK159, BK160, HB⟩ := hrel
          cases gk with
          | zero => exact absurd HA.out (by simp [raft_Put.l0])
          | succ k2 =>
           have H := HA.out
           clear HA
           simp only [raft_Put.l0] at H
           by_cases c53 : x10_2 < (l1.length : Int)
           ·rw [if_pos c53] at H
            have c53b0 : decide (x10_2 < (l1.length : Int)) = true := decide_eq_true c53
            clear c53
            (first | rw [c53b0] | (simp only [i64_w, i32_w]; rw [c53b0]) | skip)
            by_cases c54 : 0 ≤ x10_2
            ·rw [if_pos c54] at H
             have c54b0 : decide (0 ≤ x10_2) = true := decide_eq_true c54
             clear c54
             by_cases c55 : ((rd_T46 l1 x10_2).f0) ≤ t161
             ·rw [if_pos c55] at H
              have c55b0 : decide (((rd_T46 l1 x10_2).f0) ≤ t161) = true := decide_eq_true c55
              clear c55
              obtain ⟨ji56, hji56⟩ : ∃ j_ : Int, (wrap64 ((wrap64 (((rd_T46 l1 x10_2).f0) - a0_0)) - 1)) = j_ := ⟨_, rfl⟩
              replace H : (if 0 ≤ (ji56) then (if (ji56) < (t171.length : Int) then (if ((rd_T46 t171 (ji56)).f1) = ((rd_T46 l1 x10_2).f1) then (raft_Put.l0 k2 l1 t161 (wrap64 (x10_2 + 1)) a0_0 a0_1 t171 a0_3 a0_4 a0_5 a0_6) else (raft_Put.j2 k2 l1 x10_2 a0_0 a0_1 t171 a0_3 a0_4 a0_5 a0_6)) else (none)) else (none)) = some (r1, r2, r3, r4, r5, r6, r7, r8) := by first | (rw [hji56] at H; exact H) | (simp only [hji56] at H ⊢; exact H)
              (try rw [hji56] at c32b0)
              have hji56w : (IntKind.i64.wrap ((wrap64 (((rd_T46 l1 x10_2).f0) - a0_0)) - 1)) = ji56 := (i64_w _).trans hji56
              by_cases c57 : 0 ≤ (ji56)
              ·rw [if_pos c57] at H
               have c57b0 : decide (0 ≤ (ji56)) = true := decide_eq_true c57
               clear c57
               by_cases c58 : (ji56) < (t171.length : Int)
               ·rw [if_pos c58] at H
                have c58b0 : decide ((ji56) < (t171.length : Int)) = true := decide_eq_true c58
                clear c58
                by_cases c59 : ((rd_T46 t171 (ji56)).f1) = ((rd_T46 l1 x10_2).f1)
                ·rw [if_pos c59] at H
                 have c59b0 : (((rd_T46 t171 (ji56)).f1) == ((rd_T46 l1 x10_2).f1)) = true := beq_iff_eq.mpr c59
                 have c59b1 : (((rd_T46 t171 (ji56)).f1) != ((rd_T46 l1 x10_2).f1)) = false := bne_eq_false_iff_eq.mpr c59
                 clear c59
                 have H' := Aside0.mk H
                 clear H
                 try go_wp2
                 have n0_ := Aside0.mk (Kd.N_drew HO_160002.out)
                 have n1_ := Aside0.mk (blk_drew BK159.out)
                 have n2_ := Aside0.mk (blk_drew BK160.out)
                 have n3_ := Aside0.mk (below_drew1 HB.out)
                 clear HO_160002
                 clear BK159
                 clear BK160
                 clear HB
                 have HO_160002 := n0_
                 have BK159 := n1_
                 have BK160 := n2_
                 have HB := n3_
                 clear n0_ n1_ n2_ n3_
                 have p174 : 0 ≤ (x10_2 : Int) := of_decide_eq_true pS
                 have q174 : x10_2 < (l1.length : Int) := of_decide_eq_true pS
                 obtain ⟨ad174, A174_5, c174_5, e174, hx174_0, hx174_1, hx174_2, hx174_3, hx174_4, hx174_5, hx174_6, hx174_7, hx174_8, hx174_9, hl174_5, hi174_5⟩ := at_T46 HR1.out x10_2 p174 q174
                 have hw174_9 := hx174_9
                 have hw174_8 := hx174_8
                 have hw174_7 := hx174_7
                 have hw174_6 := hx174_6
                 have hw174_5 := hx174_5
                 have hw174_4 := hx174_4
                 have hw174_3 := hx174_3
                 have hw174_2 := hx174_2
                 have hw174_1 := hx174_1
                 have hw174_0 := hx174_0
                 obtain rfl : ad165 = ad174 := (by injection e174)
                 replace hx174_0 := cU HB.out hx174_0
                 replace hx174_1 := cU HB.out hx174_1
                 replace hx174_2 := cU HB.out hx174_2
                 replace hx174_3 := cU HB.out hx174_3
                 replace hx174_4 := cU HB.out hx174_4
                 replace hx174_5 := cU HB.out hx174_5
                 replace hx174_6 := cU HB.out hx174_6
                 replace hx174_7 := cU HB.out hx174_7
                 replace hx174_8 := cU HB.out hx174_8
                 replace hx174_9 := cU HB.out hx174_9
                 have HR174_5 := Aside0.mk hi174_5
                 have HC174_5 := Aside0.mk hl174_5
                 clear hi174_5 hl174_5
                 replace p174 := eq_true p174
                 replace q174 := eq_true q174
                 have p175 : 0 ≤ (x10_2 : Int) := of_decide_eq_true pS
                 have q175 : x10_2 < (l1.length : Int) := of_decide_eq_true pS
                 obtain ⟨ad175, A175_5, c175_5, e175, hx175_0, hx175_1, hx175_2, hx175_3, hx175_4, hx175_5, hx175_6, hx175_7, hx175_8, hx175_9, hl175_5, hi175_5⟩ := at_T46 HR1.out x10_2 p175 q175
                 have hw175_9 := hx175_9
                 have hw175_8 := hx175_8
                 have hw175_7 := hx175_7
                 have hw175_6 := hx175_6
                 have hw175_5 := hx175_5
                 have hw175_4 := hx175_4
                 have hw175_3 := hx175_3
                 have hw175_2 := hx175_2
                 have hw175_1 := hx175_1
                 have hw175_0 := hx175_0
                 obtain rfl : ad165 = ad175 := (by injection e175)
                 replace hx175_0 := cU HB.out hx175_0
                 replace hx175_1 := cU HB.out hx175_1
                 replace hx175_2 := cU HB.out hx175_2
                 replace hx175_3 := cU HB.out hx175_3
                 replace hx175_4 := cU HB.out hx175_4
                 replace hx175_5 := cU HB.out hx175_5
                 replace hx175_6 := cU HB.out hx175_6
                 replace hx175_7 := cU HB.out hx175_7
                 replace hx175_8 := cU HB.out hx175_8
                 replace hx175_9 := cU HB.out hx175_9
                 have HR175_5 := Aside0.mk hi175_5
                 have HC175_5 := Aside0.mk hl175_5
                 clear hi175_5 hl175_5
                 replace p175 := eq_true p175
                 replace q175 := eq_true q175
                 have ea_ := Option.some.inj (hx174_5.symm.trans hx175_5)
                 injection ea_ with ea_ en_ ec_
                 subst ea_
                 subst ec_
                 clear en_
                 have p176 : 0 ≤ ((ji56) : Int) := of_decide_eq_true pS
                 have q176 : (ji56) < (t171.length : Int) := of_decide_eq_true pS
                 obtain ⟨ad176, A176_5, c176_5, e176, hx176_0, hx176_1, hx176_2, hx176_3, hx176_4, hx176_5, hx176_6, hx176_7, hx176_8, hx176_9, hl176_5, hi176_5⟩ := at_T46 (Kd.N_reads' HO_160002.out).2.2 (ji56) p176 q176
                 cases e176
                 obtain ⟨ce176, hce176, hMe176, hcc176⟩ := Kd.N_get HO_160002.out z46 (ji56) p176 (by first | exact q176 | exact of_decide_eq_true pS | (have e_ := (Kd.N_reads' HO_160002.out).1; omega))
                 obtain ⟨ua176_5, uc176_5, rfl, ul176_5, ge176_5⟩ := k46_openF hMe176
                 have hv176_5 := hcc176 5 _ rfl
                 rw [add_field _ _ 5 (by omega)] at hv176_5
                 replace hv176_5 := Option.some.inj (hv176_5.symm.trans hx176_5)
                 injection hv176_5 with hva_ hvn_ hvc_
                 rw [hva_] at ge176_5
                 rw [hvc_] at ul176_5
                 have HL176_5 := Aside0.mk (show Kd.V (Kd.int .u8) 5 _ w.heap.size _ _ ((rd_T46 t171 (ji56)).f4.f1) from Kd.V_mk ul176_5 ge176_5)
                 clear hva_ hvn_ hvc_ ge176_5 ul176_5
                 clear hcc176 hce176
                 have HR176_5 := Aside0.mk hi176_5
                 have HC176_5 := Aside0.mk hl176_5
                 clear hi176_5 hl176_5
                 replace p176 := eq_true p176
                 replace q176 := eq_true q176
                 have p177 : 0 ≤ (x10_2 : Int) := of_decide_eq_true pS
                 have q177 : x10_2 < (l1.length : Int) := of_decide_eq_true pS
                 obtain ⟨ad177, A177_5, c177_5, e177, hx177_0, hx177_1, hx177_2, hx177_3, hx177_4, hx177_5, hx177_6, hx177_7, hx177_8, hx177_9, hl177_5, hi177_5⟩ := at_T46 HR1.out x10_2 p177 q177
                 have hw177_9 := hx177_9
                 have hw177_8 := hx177_8
                 have hw177_7 := hx177_7
                 have hw177_6 := hx177_6
                 have hw177_5 := hx177_5
                 have hw177_4 := hx177_4
                 have hw177_3 := hx177_3
                 have hw177_2 := hx177_2
                 have hw177_1 := hx177_1
                 have hw177_0 := hx177_0
                 obtain rfl : ad165 = ad177 := (by injection e177)
                 replace hx177_0 := cU HB.out hx177_0
                 replace hx177_1 := cU HB.out hx177_1
                 replace hx177_2 := cU HB.out hx177_2
                 replace hx177_3 := cU HB.out hx177_3
                 replace hx177_4 := cU HB.out hx177_4
                 replace hx177_5 := cU HB.out hx177_5
                 replace hx177_6 := cU HB.out hx177_6
                 replace hx177_7 := cU HB.out hx177_7
                 replace hx177_8 := cU HB.out hx177_8
                 replace hx177_9 := cU HB.out hx177_9
                 have HR177_5 := Aside0.mk hi177_5
                 have HC177_5 := Aside0.mk hl177_5
                 clear hi177_5 hl177_5
                 replace p177 := eq_true p177
                 replace q177 := eq_true q177
                 have ea_ := Option.some.inj (hx174_5.symm.trans hx177_5)
                 injection ea_ with ea_ en_ ec_
                 subst ea_
                 subst ec_
                 clear en_
                 refine start_ (n := 35) (S := fun w' => cG w' gb159 0 (.int .i64 a0_0) ∧ cG w' gb159 1 (.int .i64 a0_1) ∧ cG w' gb159 2 (.slice (some ad176) t171.length co51) ∧ cG w' gb159 3 (.int .i64 a0_3) ∧ cG w' gb159 4 (.int .i64 a0_4) ∧ cG w' gb159 5 (.int .i64 a0_5) ∧ cG w' gb159 6 (.int .i64 a0_6) ∧ w'.cell? (ad165.add ((x10_2).toNat * 10)) = some (.int .i64 ((rd_T46 l1 x10_2).f0)) ∧ cA w' (ad165.add ((x10_2).toNat * 10)) 1 (.int .i64 ((rd_T46 l1 x10_2).f1)) ∧ cA w' (ad165.add ((x10_2).toNat * 10)) 2 (.int .i64 ((rd_T46 l1 x10_2).f2)) ∧ cA w' (ad165.add ((x10_2).toNat * 10)) 3 (.string ((rd_T46 l1 x10_2).f3)) ∧ cA w' (ad165.add ((x10_2).toNat * 10)) 4 (.bool ((rd_T46 l1 x10_2).f4.f0)) ∧ cA w' (ad165.add ((x10_2).toNat * 10)) 5 (.slice A174_5 ((rd_T46 l1 x10_2).f4.f1).length c174_5) ∧ cA w' (ad165.add ((x10_2).toNat * 10)) 6 (.int .i64 ((rd_T46 l1 x10_2).f4.f2.f0)) ∧ cA w' (ad165.add ((x10_2).toNat * 10)) 7 (.int .i64 ((rd_T46 l1 x10_2).f4.f2.f1)) ∧ cA w' (ad165.add ((x10_2).toNat * 10)) 8 (.int .i64 ((rd_T46 l1 x10_2).f4.f2.f2)) ∧ cA w' (ad165.add ((x10_2).toNat * 10)) 9 (.int .u32 ((rd_T46 l1 x10_2).f4.f2.f3)) ∧ w'.cell? (ad176.add (((ji56)).toNat * 10)) = some (.int .i64 ((rd_T46 t171 (ji56)).f0)) ∧ w'.cell? ⟨(ad176.add (((ji56)).toNat * 10)).block, (ad176.add (((ji56)).toNat * 10)).off + 1, none⟩ = some (.int .i64 ((rd_T46 t171 (ji56)).f1)) ∧ w'.cell? ⟨(ad176.add (((ji56)).toNat * 10)).block, (ad176.add (((ji56)).toNat * 10)).off + 2, none⟩ = some (.int .i64 ((rd_T46 t171 (ji56)).f2)) ∧ w'.cell? ⟨(ad176.add (((ji56)).toNat * 10)).block, (ad176.add (((ji56)).toNat * 10)).off + 3, none⟩ = some (.string ((rd_T46 t171 (ji56)).f3)) ∧ w'.cell? ⟨(ad176.add (((ji56)).toNat * 10)).block, (ad176.add (((ji56)).toNat * 10)).off + 4, none⟩ = some (.bool ((rd_T46 t171 (ji56)).f4.f0)) ∧ w'.cell? ⟨(ad176.add (((ji56)).toNat * 10)).block, (ad176.add (((ji56)).toNat * 10)).off + 5, none⟩ = some (.slice A176_5 ((rd_T46 t171 (ji56)).f4.f1).length c176_5) ∧ w'.cell? ⟨(ad176.add (((ji56)).toNat * 10)).block, (ad176.add (((ji56)).toNat * 10)).off + 6, none⟩ = some (.int .i64 ((rd_T46 t171 (ji56)).f4.f2.f0)) ∧ w'.cell? ⟨(ad176.add (((ji56)).toNat * 10)).block, (ad176.add (((ji56)).toNat * 10)).off + 7, none⟩ = some (.int .i64 ((rd_T46 t171 (ji56)).f4.f2.f1)) ∧ w'.cell? ⟨(ad176.add (((ji56)).toNat * 10)).block, (ad176.add (((ji56)).toNat * 10)).off + 8, none⟩ = some (.int .i64 ((rd_T46 t171 (ji56)).f4.f2.f2)) ∧ w'.cell? ⟨(ad176.add (((ji56)).toNat * 10)).block, (ad176.add (((ji56)).toNat * 10)).off + 9, none⟩ = some (.int .u32 ((rd_T46 t171 (ji56)).f4.f2.f3))) (ds := []) #[false, false, false, false, false, false, false, false, false, false, false, false, false, false, false, false, false, false, false, false, false, false, false, false, false, false, false, false, false, false, false, false, false, false, false] (by kernel_rfl) rfl rfl ⟨(blk_cell BK159.out 0).trans rfl, (blk_cell BK159.out 1).trans rfl, (blk_cell BK159.out 2).trans rfl, (blk_cell BK159.out 3).trans rfl, (blk_cell BK159.out 4).trans rfl, (blk_cell BK159.out 5).trans rfl, (blk_cell BK159.out 6).trans rfl, (cT HB.out hw174_0), (cT HB.out hw174_1), (cT HB.out hw174_2), (cT HB.out hw174_3), (cT HB.out hw174_4), (cT HB.out hw174_5), (cT HB.out hw174_6), (cT HB.out hw174_7), (cT HB.out hw174_8), (cT HB.out hw174_9), hx176_0, hx176_1, hx176_2, hx176_3, hx176_4, hx176_5, hx176_6, hx176_7, hx176_8, hx176_9⟩ (fun hHeld => ?_); refine with_tabW raft_Put.tab13 raft_Put.bits13 (fun HT_ HW_ => ?_)
                 (first | generalize wr.drew = w60 at HO_160002 BK159 BK160 HB HL176_5 HR174_5 HR175_5 HR176_5 HR177_5 hx174_0 hx174_1 hx174_2 hx174_3 hx174_4 hx174_5 hx174_6 hx174_7 hx174_8 hx174_9 hx175_0 hx175_1 hx175_2 hx175_3 hx175_4 hx175_5 hx175_6 hx175_7 hx175_8 hx175_9 hx176_0 hx176_1 hx176_2 hx176_3 hx176_4 hx176_5 hx176_6 hx176_7 hx176_8 hx176_9 hx177_0 hx177_1 hx177_2 hx177_3 hx177_4 hx177_5 hx177_6 hx177_7 hx177_8 hx177_9 hHeld ⊢ | generalize wr.drew = w60 at BK159 BK160 HB HL176_5 HR174_5 HR175_5 HR176_5 HR177_5 hx174_0 hx174_1 hx174_2 hx174_3 hx174_4 hx174_5 hx174_6 hx174_7 hx174_8 hx174_9 hx175_0 hx175_1 hx175_2 hx175_3 hx175_4 hx175_5 hx175_6 hx175_7 hx175_8 hx175_9 hx176_0 hx176_1 hx176_2 hx176_3 hx176_4 hx176_5 hx176_6 hx176_7 hx176_8 hx176_9 hx177_0 hx177_1 hx177_2 hx177_3 hx177_4 hx177_5 hx177_6 hx177_7 hx177_8 hx177_9 hHeld ⊢)
                 refine pu 0 (some 71) (bw 35 1) HT_.out (h := ?_)
                 refine pu 1 (some 72) (bw 35 3) HT_.out (h := ?_)
                 refine pu 2 (some 73) (bw 35 7) HT_.out (h := ?_)
                 refine pu 3 (some 74) (bw 35 15) HT_.out (h := ?_)
                 refine pu 4 (some 75) (bw 35 31) HT_.out (h := ?_)
                 refine pu 5 (some 76) (bw 35 63) HT_.out (h := ?_)
                 refine pu 6 (some 77) (bw 35 127) HT_.out (h := ?_)
                 refine pu 7 (some 78) (bw 35 255) HT_.out (h := ?_)
                 refine pu 8 (some 79) (bw 35 511) HT_.out (h := ?_)
                 refine pu 10 (some 81) (bw 35 1535) HT_.out (h := ?_)
                 refine tk 9 (some 80) (bw 35 2047) HT_.out HW_.out hHeld (h := ?_)
                 refine pu 11 (some 82) (bw 35 4095) HT_.out (h := ?_)
                 refine pu 12 (some 83) (bw 35 8191) HT_.out (h := ?_)
                 refine pu 13 (some 84) (bw 35 16383) HT_.out (h := ?_)
                 refine pu 14 (some 85) (bw 35 32767) HT_.out (h := ?_)
                 refine pu 16 (some 87) (bw 35 98303) HT_.out (h := ?_)
                 refine pu 17 (some 88) (bw 35 229375) HT_.out (h := ?_)
                 refine pu 18 (some 89) (bw 35 491519) HT_.out (h := ?_)
                 refine pu 19 (some 90) (bw 35 1015807) HT_.out (h := ?_)
                 refine pu 21 (some 92) (bw 35 3112959) HT_.out (h := ?_)
                 refine pu 28 (some 99) (bw 35 271548415) HT_.out (h := ?_)
                 refine pu 29 (some 100) (bw 35 808419327) HT_.out (h := ?_)
                 refine pu 30 (some 101) (bw 35 1882161151) HT_.out (h := ?_)
                 refine pu 31 (some 102) (bw 35 4029644799) HT_.out (h := ?_)
                 refine tk 15 (some 86) (bw 35 4029677567) HT_.out HW_.out hHeld (h := ?_)
                 refine tk 20 (some 91) (bw 35 4030726143) HT_.out HW_.out hHeld (h := ?_)
                 refine tk 22 (some 93) (bw 35 4034920447) HT_.out HW_.out hHeld (h := ?_)
                 refine pu 23 (some 94) (bw 35 4043309055) HT_.out (h := ?_)
                 refine pu 24 (some 95) (bw 35 4060086271) HT_.out (h := ?_)
                 refine pu 25 (some 96) (bw 35 4093640703) HT_.out (h := ?_)
                 refine pu 26 (some 97) (bw 35 4160749567) HT_.out (h := ?_)
                 refine tk 27 (some 98) (bw 35 4294967295) HT_.out HW_.out hHeld (h := ?_)
                 refine tk 32 (some 103) (bw 35 8589934591) HT_.out HW_.out hHeld (h := ?_)
                 refine pu 33 (some 104) (bw 35 17179869183) HT_.out (h := ?_)
                 refine pu 34 (some 105) (bw 35 34359738367) HT_.out (h := ?_)
                 refine done_ (done_of HT_.out (by kernel_rfl)) ?_
                 try go_wp2
                 go_roundg k2
                 case measure => have := HJ3.out; have := HK2.out; omega
                 case rel => exact ⟨(wrap64 (x10_2 + 1)), (by first | rfl | (simp; done) | (simp [*]; done)), H', ⟨by have := HJ3.out; have := HK2.out; omega⟩, ⟨by (with_reducible repeat (first | apply Kd.N_alloc | apply Kd.N_drewN | apply Kd.N_drew)); exact HO_160002.out⟩, ⟨pK BK159.out⟩, ⟨pK BK160.out⟩, ⟨pE2 HB.out GE159.out GE160.out⟩⟩
                ·rw [if_neg c59] at H
                 have c59b0 : (((rd_T46 t171 (ji56)).f1) == ((rd_T46 l1 x10_2).f1)) = false := beq_eq_false_iff_ne.mpr c59
                 have c59b1 : (((rd_T46 t171 (ji56)).f1) != ((rd_T46 l1 x10_2).f1)) = true := bne_iff_ne.mpr c59
                 have H' := Aside0.mk H
                 clear H
                 try go_wp2
                 have n0_ := Aside0.mk (Kd.N_drew HO_160002.out)
                 have n1_ := Aside0.mk (blk_drew BK159.out)
                 have n2_ := Aside0.mk (blk_drew BK160.out)
                 have n3_ := Aside0.mk (below_drew1 HB.out)
                 clear HO_160002
                 clear BK159
                 clear BK160
                 clear HB
                 have HO_160002 := n0_
                 have BK159 := n1_
                 have BK160 := n2_
                 have HB := n3_
                 clear n0_ n1_ n2_ n3_
                 have p174 : 0 ≤ (x10_2 : Int) := of_decide_eq_true pS
                 have q174 : x10_2 < (l1.length : Int) := of_decide_eq_true pS
                 obtain ⟨ad174, A174_5, c174_5, e174, hx174_0, hx174_1, hx174_2, hx174_3, hx174_4, hx174_5, hx174_6, hx174_7, hx174_8, hx174_9, hl174_5, hi174_5⟩ := at_T46 HR1.out x10_2 p174 q174
                 have hw174_9 := hx174_9
                 have hw174_8 := hx174_8
                 have hw174_7 := hx174_7
                 have hw174_6 := hx174_6
                 have hw174_5 := hx174_5
                 have hw174_4 := hx174_4
                 have hw174_3 := hx174_3
                 have hw174_2 := hx174_2
                 have hw174_1 := hx174_1
                 have hw174_0 := hx174_0
                 obtain rfl : ad165 = ad174 := (by injection e174)
                 replace hx174_0 := cU HB.out hx174_0
                 replace hx174_1 := cU HB.out hx174_1
                 replace hx174_2 := cU HB.out hx174_2
                 replace hx174_3 := cU HB.out hx174_3
                 replace hx174_4 := cU HB.out hx174_4
                 replace hx174_5 := cU HB.out hx174_5
                 replace hx174_6 := cU HB.out hx174_6
                 replace hx174_7 := cU HB.out hx174_7
                 replace hx174_8 := cU HB.out hx174_8
                 replace hx174_9 := cU HB.out hx174_9
                 have HR174_5 := Aside0.mk hi174_5
                 have HC174_5 := Aside0.mk hl174_5
                 clear hi174_5 hl174_5
                 replace p174 := eq_true p174
                 replace q174 := eq_true q174
                 have p175 : 0 ≤ (x10_2 : Int) := of_decide_eq_true pS
                 have q175 : x10_2 < (l1.length : Int) := of_decide_eq_true pS
                 obtain ⟨ad175, A175_5, c175_5, e175, hx175_0, hx175_1, hx175_2, hx175_3, hx175_4, hx175_5, hx175_6, hx175_7, hx175_8, hx175_9, hl175_5, hi175_5⟩ := at_T46 HR1.out x10_2 p175 q175
                 have hw175_9 := hx175_9
                 have hw175_8 := hx175_8
                 have hw175_7 := hx175_7
                 have hw175_6 := hx175_6
                 have hw175_5 := hx175_5
                 have hw175_4 := hx175_4
                 have hw175_3 := hx175_3
                 have hw175_2 := hx175_2
                 have hw175_1 := hx175_1
                 have hw175_0 := hx175_0
                 obtain rfl : ad165 = ad175 := (by injection e175)
                 replace hx175_0 := cU HB.out hx175_0
                 replace hx175_1 := cU HB.out hx175_1
                 replace hx175_2 := cU HB.out hx175_2
                 replace hx175_3 := cU HB.out hx175_3
                 replace hx175_4 := cU HB.out hx175_4
                 replace hx175_5 := cU HB.out hx175_5
                 replace hx175_6 := cU HB.out hx175_6
                 replace hx175_7 := cU HB.out hx175_7
                 replace hx175_8 := cU HB.out hx175_8
                 replace hx175_9 := cU HB.out hx175_9
                 have HR175_5 := Aside0.mk hi175_5
                 have HC175_5 := Aside0.mk hl175_5
                 clear hi175_5 hl175_5
                 replace p175 := eq_true p175
                 replace q175 := eq_true q175
                 have ea_ := Option.some.inj (hx174_5.symm.trans hx175_5)
                 injection ea_ with ea_ en_ ec_
                 subst ea_
                 subst ec_
                 clear en_
                 have p176 : 0 ≤ ((ji56) : Int) := of_decide_eq_true pS
                 have q176 : (ji56) < (t171.length : Int) := of_decide_eq_true pS
                 obtain ⟨ad176, A176_5, c176_5, e176, hx176_0, hx176_1, hx176_2, hx176_3, hx176_4, hx176_5, hx176_6, hx176_7, hx176_8, hx176_9, hl176_5, hi176_5⟩ := at_T46 (Kd.N_reads' HO_160002.out).2.2 (ji56) p176 q176
                 cases e176
                 obtain ⟨ce176, hce176, hMe176, hcc176⟩ := Kd.N_get HO_160002.out z46 (ji56) p176 (by first | exact q176 | exact of_decide_eq_true pS | (have e_ := (Kd.N_reads' HO_160002.out).1; omega))
                 obtain ⟨ua176_5, uc176_5, rfl, ul176_5, ge176_5⟩ := k46_openF hMe176
                 have hv176_5 := hcc176 5 _ rfl
                 rw [add_field _ _ 5 (by omega)] at hv176_5
                 replace hv176_5 := Option.some.inj (hv176_5.symm.trans hx176_5)
                 injection hv176_5 with hva_ hvn_ hvc_
                 rw [hva_] at ge176_5
                 rw [hvc_] at ul176_5
                 have HL176_5 := Aside0.mk (show Kd.V (Kd.int .u8) 5 _ w.heap.size _ _ ((rd_T46 t171 (ji56)).f4.f1) from Kd.V_mk ul176_5 ge176_5)
                 clear hva_ hvn_ hvc_ ge176_5 ul176_5
                 clear hcc176 hce176
                 have HR176_5 := Aside0.mk hi176_5
                 have HC176_5 := Aside0.mk hl176_5
                 clear hi176_5 hl176_5
                 replace p176 := eq_true p176
                 replace q176 := eq_true q176
                 have p177 : 0 ≤ (x10_2 : Int) := of_decide_eq_true pS
                 have q177 : x10_2 < (l1.length : Int) := of_decide_eq_true pS
                 obtain ⟨ad177, A177_5, c177_5, e177, hx177_0, hx177_1, hx177_2, hx177_3, hx177_4, hx177_5, hx177_6, hx177_7, hx177_8, hx177_9, hl177_5, hi177_5⟩ := at_T46 HR1.out x10_2 p177 q177
                 have hw177_9 := hx177_9
                 have hw177_8 := hx177_8
                 have hw177_7 := hx177_7
                 have hw177_6 := hx177_6
                 have hw177_5 := hx177_5
                 have hw177_4 := hx177_4
                 have hw177_3 := hx177_3
                 have hw177_2 := hx177_2
                 have hw177_1 := hx177_1
                 have hw177_0 := hx177_0
                 obtain rfl : ad165 = ad177 := (by injection e177)
                 replace hx177_0 := cU HB.out hx177_0
                 replace hx177_1 := cU HB.out hx177_1
                 replace hx177_2 := cU HB.out hx177_2
                 replace hx177_3 := cU HB.out hx177_3
                 replace hx177_4 := cU HB.out hx177_4
                 replace hx177_5 := cU HB.out hx177_5
                 replace hx177_6 := cU HB.out hx177_6
                 replace hx177_7 := cU HB.out hx177_7
                 replace hx177_8 := cU HB.out hx177_8
                 replace hx177_9 := cU HB.out hx177_9
                 have HR177_5 := Aside0.mk hi177_5
                 have HC177_5 := Aside0.mk hl177_5
                 clear hi177_5 hl177_5
                 replace p177 := eq_true p177
                 replace q177 := eq_true q177
                 have ea_ := Option.some.inj (hx174_5.symm.trans hx177_5)
                 injection ea_ with ea_ en_ ec_
                 subst ea_
                 subst ec_
                 clear en_
                 refine start_ (n := 35) (S := fun w' => cG w' gb159 0 (.int .i64 a0_0) ∧ cG w' gb159 1 (.int .i64 a0_1) ∧ cG w' gb159 2 (.slice (some ad176) t171.length co51) ∧ cG w' gb159 3 (.int .i64 a0_3) ∧ cG w' gb159 4 (.int .i64 a0_4) ∧ cG w' gb159 5 (.int .i64 a0_5) ∧ cG w' gb159 6 (.int .i64 a0_6) ∧ w'.cell? (ad165.add ((x10_2).toNat * 10)) = some (.int .i64 ((rd_T46 l1 x10_2).f0)) ∧ cA w' (ad165.add ((x10_2).toNat * 10)) 1 (.int .i64 ((rd_T46 l1 x10_2).f1)) ∧ cA w' (ad165.add ((x10_2).toNat * 10)) 2 (.int .i64 ((rd_T46 l1 x10_2).f2)) ∧ cA w' (ad165.add ((x10_2).toNat * 10)) 3 (.string ((rd_T46 l1 x10_2).f3)) ∧ cA w' (ad165.add ((x10_2).toNat * 10)) 4 (.bool ((rd_T46 l1 x10_2).f4.f0)) ∧ cA w' (ad165.add ((x10_2).toNat * 10)) 5 (.slice A174_5 ((rd_T46 l1 x10_2).f4.f1).length c174_5) ∧ cA w' (ad165.add ((x10_2).toNat * 10)) 6 (.int .i64 ((rd_T46 l1 x10_2).f4.f2.f0)) ∧ cA w' (ad165.add ((x10_2).toNat * 10)) 7 (.int .i64 ((rd_T46 l1 x10_2).f4.f2.f1)) ∧ cA w' (ad165.add ((x10_2).toNat * 10)) 8 (.int .i64 ((rd_T46 l1 x10_2).f4.f2.f2)) ∧ cA w' (ad165.add ((x10_2).toNat * 10)) 9 (.int .u32 ((rd_T46 l1 x10_2).f4.f2.f3)) ∧ w'.cell? (ad176.add (((ji56)).toNat * 10)) = some (.int .i64 ((rd_T46 t171 (ji56)).f0)) ∧ w'.cell? ⟨(ad176.add (((ji56)).toNat * 10)).block, (ad176.add (((ji56)).toNat * 10)).off + 1, none⟩ = some (.int .i64 ((rd_T46 t171 (ji56)).f1)) ∧ w'.cell? ⟨(ad176.add (((ji56)).toNat * 10)).block, (ad176.add (((ji56)).toNat * 10)).off + 2, none⟩ = some (.int .i64 ((rd_T46 t171 (ji56)).f2)) ∧ w'.cell? ⟨(ad176.add (((ji56)).toNat * 10)).block, (ad176.add (((ji56)).toNat * 10)).off + 3, none⟩ = some (.string ((rd_T46 t171 (ji56)).f3)) ∧ w'.cell? ⟨(ad176.add (((ji56)).toNat * 10)).block, (ad176.add (((ji56)).toNat * 10)).off + 4, none⟩ = some (.bool ((rd_T46 t171 (ji56)).f4.f0)) ∧ w'.cell? ⟨(ad176.add (((ji56)).toNat * 10)).block, (ad176.add (((ji56)).toNat * 10)).off + 5, none⟩ = some (.slice A176_5 ((rd_T46 t171 (ji56)).f4.f1).length c176_5) ∧ w'.cell? ⟨(ad176.add (((ji56)).toNat * 10)).block, (ad176.add (((ji56)).toNat * 10)).off + 6, none⟩ = some (.int .i64 ((rd_T46 t171 (ji56)).f4.f2.f0)) ∧ w'.cell? ⟨(ad176.add (((ji56)).toNat * 10)).block, (ad176.add (((ji56)).toNat * 10)).off + 7, none⟩ = some (.int .i64 ((rd_T46 t171 (ji56)).f4.f2.f1)) ∧ w'.cell? ⟨(ad176.add (((ji56)).toNat * 10)).block, (ad176.add (((ji56)).toNat * 10)).off + 8, none⟩ = some (.int .i64 ((rd_T46 t171 (ji56)).f4.f2.f2)) ∧ w'.cell? ⟨(ad176.add (((ji56)).toNat * 10)).block, (ad176.add (((ji56)).toNat * 10)).off + 9, none⟩ = some (.int .u32 ((rd_T46 t171 (ji56)).f4.f2.f3))) (ds := []) #[false, false, false, false, false, false, false, false, false, false, false, false, false, false, false, false, false, false, false, false, false, false, false, false, false, false, false, false, false, false, false, false, false, false, false] (by kernel_rfl) rfl rfl ⟨(blk_cell BK159.out 0).trans rfl, (blk_cell BK159.out 1).trans rfl, (blk_cell BK159.out 2).trans rfl, (blk_cell BK159.out 3).trans rfl, (blk_cell BK159.out 4).trans rfl, (blk_cell BK159.out 5).trans rfl, (blk_cell BK159.out 6).trans rfl, (cT HB.out hw174_0), (cT HB.out hw174_1), (cT HB.out hw174_2), (cT HB.out hw174_3), (cT HB.out hw174_4), (cT HB.out hw174_5), (cT HB.out hw174_6), (cT HB.out hw174_7), (cT HB.out hw174_8), (cT HB.out hw174_9), hx176_0, hx176_1, hx176_2, hx176_3, hx176_4, hx176_5, hx176_6, hx176_7, hx176_8, hx176_9⟩ (fun hHeld => ?_); refine with_tabW raft_Put.tab13 raft_Put.bits13 (fun HT_ HW_ => ?_)
                 (first | generalize wr.drew = w61 at HO_160002 BK159 BK160 HB HL176_5 HR174_5 HR175_5 HR176_5 HR177_5 hx174_0 hx174_1 hx174_2 hx174_3 hx174_4 hx174_5 hx174_6 hx174_7 hx174_8 hx174_9 hx175_0 hx175_1 hx175_2 hx175_3 hx175_4 hx175_5 hx175_6 hx175_7 hx175_8 hx175_9 hx176_0 hx176_1 hx176_2 hx176_3 hx176_4 hx176_5 hx176_6 hx176_7 hx176_8 hx176_9 hx177_0 hx177_1 hx177_2 hx177_3 hx177_4 hx177_5 hx177_6 hx177_7 hx177_8 hx177_9 hHeld ⊢ | generalize wr.drew = w61 at BK159 BK160 HB HL176_5 HR174_5 HR175_5 HR176_5 HR177_5 hx174_0 hx174_1 hx174_2 hx174_3 hx174_4 hx174_5 hx174_6 hx174_7 hx174_8 hx174_9 hx175_0 hx175_1 hx175_2 hx175_3 hx175_4 hx175_5 hx175_6 hx175_7 hx175_8 hx175_9 hx176_0 hx176_1 hx176_2 hx176_3 hx176_4 hx176_5 hx176_6 hx176_7 hx176_8 hx176_9 hx177_0 hx177_1 hx177_2 hx177_3 hx177_4 hx177_5 hx177_6 hx177_7 hx177_8 hx177_9 hHeld ⊢)
                 refine pu 0 (some 71) (bw 35 1) HT_.out (h := ?_)
                 refine pu 1 (some 72) (bw 35 3) HT_.out (h := ?_)
                 refine pu 2 (some 73) (bw 35 7) HT_.out (h := ?_)
                 refine pu 3 (some 74) (bw 35 15) HT_.out (h := ?_)
                 refine pu 4 (some 75) (bw 35 31) HT_.out (h := ?_)
                 refine pu 5 (some 76) (bw 35 63) HT_.out (h := ?_)
                 refine pu 6 (some 77) (bw 35 127) HT_.out (h := ?_)
                 refine pu 7 (some 78) (bw 35 255) HT_.out (h := ?_)
                 refine pu 8 (some 79) (bw 35 511) HT_.out (h := ?_)
                 refine pu 10 (some 81) (bw 35 1535) HT_.out (h := ?_)
                 refine tk 9 (some 80) (bw 35 2047) HT_.out HW_.out hHeld (h := ?_)
                 refine pu 11 (some 82) (bw 35 4095) HT_.out (h := ?_)
                 refine pu 12 (some 83) (bw 35 8191) HT_.out (h := ?_)
                 refine pu 13 (some 84) (bw 35 16383) HT_.out (h := ?_)
                 refine pu 14 (some 85) (bw 35 32767) HT_.out (h := ?_)
                 refine pu 16 (some 87) (bw 35 98303) HT_.out (h := ?_)
                 refine pu 17 (some 88) (bw 35 229375) HT_.out (h := ?_)
                 refine pu 18 (some 89) (bw 35 491519) HT_.out (h := ?_)
                 refine pu 19 (some 90) (bw 35 1015807) HT_.out (h := ?_)
                 refine pu 21 (some 92) (bw 35 3112959) HT_.out (h := ?_)
                 refine pu 28 (some 99) (bw 35 271548415) HT_.out (h := ?_)
                 refine pu 29 (some 100) (bw 35 808419327) HT_.out (h := ?_)
                 refine pu 30 (some 101) (bw 35 1882161151) HT_.out (h := ?_)
                 refine pu 31 (some 102) (bw 35 4029644799) HT_.out (h := ?_)
                 refine tk 15 (some 86) (bw 35 4029677567) HT_.out HW_.out hHeld (h := ?_)
                 refine tk 20 (some 91) (bw 35 4030726143) HT_.out HW_.out hHeld (h := ?_)
                 refine tk 22 (some 93) (bw 35 4034920447) HT_.out HW_.out hHeld (h := ?_)
                 refine pu 23 (some 94) (bw 35 4043309055) HT_.out (h := ?_)
                 refine pu 24 (some 95) (bw 35 4060086271) HT_.out (h := ?_)
                 refine pu 25 (some 96) (bw 35 4093640703) HT_.out (h := ?_)
                 refine pu 26 (some 97) (bw 35 4160749567) HT_.out (h := ?_)
                 refine tk 27 (some 98) (bw 35 4294967295) HT_.out HW_.out hHeld (h := ?_)
                 refine tk 32 (some 103) (bw 35 8589934591) HT_.out HW_.out hHeld (h := ?_)
                 refine pu 33 (some 104) (bw 35 17179869183) HT_.out (h := ?_)
                 refine pu 34 (some 105) (bw 35 34359738367) HT_.out (h := ?_)
                 refine done_ (done_of HT_.out (by kernel_rfl)) ?_
                 try go_wp2
                 go_meet
                 case rel => exact ⟨_, (x10_2), (by first | rfl | (simp; done) | (simp [*]; done)), H', ⟨by have := HJ3.out; have := HK2.out; first | omega | exact Nat.le_refl _⟩, ⟨by (with_reducible repeat (first | apply Kd.N_alloc | apply Kd.N_drewN | apply Kd.N_drew)); exact HO_160002.out⟩, ⟨pK BK159.out⟩, ⟨pK BK160.out⟩, ⟨pE2 HB.out GE159.out GE160.out⟩⟩
               ·rw [if_neg c58] at H
                exact absurd H (by simp)
              ·rw [if_neg c57] at H
               exact absurd H (by simp)
             ·rw [if_neg c55] at H
              have c55b0 : decide (((rd_T46 l1 x10_2).f0) ≤ t161) = false := decide_eq_false c55
              clear c55
              have H' := Aside0.mk H
              clear H
              try go_wp2
              have n0_ := Aside0.mk (Kd.N_drew HO_160002.out)
              have n1_ := Aside0.mk (blk_drew BK159.out)
              have n2_ := Aside0.mk (blk_drew BK160.out)
              have n3_ := Aside0.mk (below_drew1 HB.out)
              clear HO_160002
              clear BK159
              clear BK160
              clear HB
              have HO_160002 := n0_
              have BK159 := n1_
              have BK160 := n2_
              have HB := n3_
              clear n0_ n1_ n2_ n3_
              have p174 : 0 ≤ (x10_2 : Int) := of_decide_eq_true pS
              have q174 : x10_2 < (l1.length : Int) := of_decide_eq_true pS
              obtain ⟨ad174, A174_5, c174_5, e174, hx174_0, hx174_1, hx174_2, hx174_3, hx174_4, hx174_5, hx174_6, hx174_7, hx174_8, hx174_9, hl174_5, hi174_5⟩ := at_T46 HR1.out x10_2 p174 q174
              have hw174_9 := hx174_9
              have hw174_8 := hx174_8
              have hw174_7 := hx174_7
              have hw174_6 := hx174_6
              have hw174_5 := hx174_5
              have hw174_4 := hx174_4
              have hw174_3 := hx174_3
              have hw174_2 := hx174_2
              have hw174_1 := hx174_1
              have hw174_0 := hx174_0
              obtain rfl : ad165 = ad174 := (by injection e174)
              replace hx174_0 := cU HB.out hx174_0
              replace hx174_1 := cU HB.out hx174_1
              replace hx174_2 := cU HB.out hx174_2
              replace hx174_3 := cU HB.out hx174_3
              replace hx174_4 := cU HB.out hx174_4
              replace hx174_5 := cU HB.out hx174_5
              replace hx174_6 := cU HB.out hx174_6
              replace hx174_7 := cU HB.out hx174_7
              replace hx174_8 := cU HB.out hx174_8
              replace hx174_9 := cU HB.out hx174_9
              have HR174_5 := Aside0.mk hi174_5
              have HC174_5 := Aside0.mk hl174_5
              clear hi174_5 hl174_5
              replace p174 := eq_true p174
              replace q174 := eq_true q174
              refine start_ (n := 35) (S := fun w' => w'.cell? (ad165.add ((x10_2).toNat * 10)) = some (.int .i64 ((rd_T46 l1 x10_2).f0)) ∧ cA w' (ad165.add ((x10_2).toNat * 10)) 1 (.int .i64 ((rd_T46 l1 x10_2).f1)) ∧ cA w' (ad165.add ((x10_2).toNat * 10)) 2 (.int .i64 ((rd_T46 l1 x10_2).f2)) ∧ cA w' (ad165.add ((x10_2).toNat * 10)) 3 (.string ((rd_T46 l1 x10_2).f3)) ∧ cA w' (ad165.add ((x10_2).toNat * 10)) 4 (.bool ((rd_T46 l1 x10_2).f4.f0)) ∧ cA w' (ad165.add ((x10_2).toNat * 10)) 5 (.slice A174_5 ((rd_T46 l1 x10_2).f4.f1).length c174_5) ∧ cA w' (ad165.add ((x10_2).toNat * 10)) 6 (.int .i64 ((rd_T46 l1 x10_2).f4.f2.f0)) ∧ cA w' (ad165.add ((x10_2).toNat * 10)) 7 (.int .i64 ((rd_T46 l1 x10_2).f4.f2.f1)) ∧ cA w' (ad165.add ((x10_2).toNat * 10)) 8 (.int .i64 ((rd_T46 l1 x10_2).f4.f2.f2)) ∧ cA w' (ad165.add ((x10_2).toNat * 10)) 9 (.int .u32 ((rd_T46 l1 x10_2).f4.f2.f3))) (ds := []) #[false, false, false, false, false, false, false, false, false, false, false, false, false, false, false, false, false, false, false, false, false, false, false, false, false, false, false, false, false, false, false, false, false, false, false] (by kernel_rfl) rfl rfl ⟨(cT HB.out hw174_0), (cT HB.out hw174_1), (cT HB.out hw174_2), (cT HB.out hw174_3), (cT HB.out hw174_4), (cT HB.out hw174_5), (cT HB.out hw174_6), (cT HB.out hw174_7), (cT HB.out hw174_8), (cT HB.out hw174_9)⟩ (fun hHeld => ?_); refine with_tabW raft_Put.tab13 raft_Put.bits13 (fun HT_ HW_ => ?_)
              (first | generalize wr.drew = w62 at HO_160002 BK159 BK160 HB HR174_5 hx174_0 hx174_1 hx174_2 hx174_3 hx174_4 hx174_5 hx174_6 hx174_7 hx174_8 hx174_9 hHeld ⊢ | generalize wr.drew = w62 at BK159 BK160 HB HR174_5 hx174_0 hx174_1 hx174_2 hx174_3 hx174_4 hx174_5 hx174_6 hx174_7 hx174_8 hx174_9 hHeld ⊢)
              refine pu 0 (some 71) (bw 35 1) HT_.out (h := ?_)
              refine pu 1 (some 72) (bw 35 3) HT_.out (h := ?_)
              refine pu 2 (some 73) (bw 35 7) HT_.out (h := ?_)
              refine pu 3 (some 74) (bw 35 15) HT_.out (h := ?_)
              refine pu 4 (some 75) (bw 35 31) HT_.out (h := ?_)
              refine pu 5 (some 76) (bw 35 63) HT_.out (h := ?_)
              refine pu 6 (some 77) (bw 35 127) HT_.out (h := ?_)
              refine pu 7 (some 78) (bw 35 255) HT_.out (h := ?_)
              refine pu 8 (some 79) (bw 35 511) HT_.out (h := ?_)
              refine pu 10 (some 81) (bw 35 1535) HT_.out (h := ?_)
              refine tk 9 (some 80) (bw 35 2047) HT_.out HW_.out hHeld (h := ?_)
              refine pu 11 (some 82) (bw 35 4095) HT_.out (h := ?_)
              refine pu 12 (some 83) (bw 35 8191) HT_.out (h := ?_)
              refine pu 13 (some 84) (bw 35 16383) HT_.out (h := ?_)
              refine pd 14 (some 85) (bw 35 32767) HT_.out (h := ?_)
              refine pd 15 (some 86) (bw 35 65535) HT_.out (h := ?_)
              refine pd 16 (some 87) (bw 35 131071) HT_.out (h := ?_)
              refine pd 17 (some 88) (bw 35 262143) HT_.out (h := ?_)
              refine pd 18 (some 89) (bw 35 524287) HT_.out (h := ?_)
              refine pd 19 (some 90) (bw 35 1048575) HT_.out (h := ?_)
              refine pd 20 (some 91) (bw 35 2097151) HT_.out (h := ?_)
              refine pd 21 (some 92) (bw 35 4194303) HT_.out (h := ?_)
              refine pd 22 (some 93) (bw 35 8388607) HT_.out (h := ?_)
              refine pd 23 (some 94) (bw 35 16777215) HT_.out (h := ?_)
              refine pd 24 (some 95) (bw 35 33554431) HT_.out (h := ?_)
              refine pd 25 (some 96) (bw 35 67108863) HT_.out (h := ?_)
              refine pd 26 (some 97) (bw 35 134217727) HT_.out (h := ?_)
              refine pd 27 (some 98) (bw 35 268435455) HT_.out (h := ?_)
              refine pd 28 (some 99) (bw 35 536870911) HT_.out (h := ?_)
              refine pd 29 (some 100) (bw 35 1073741823) HT_.out (h := ?_)
              refine pd 30 (some 101) (bw 35 2147483647) HT_.out (h := ?_)
              refine pd 31 (some 102) (bw 35 4294967295) HT_.out (h := ?_)
              refine pd 32 (some 103) (bw 35 8589934591) HT_.out (h := ?_)
              refine pd 33 (some 104) (bw 35 17179869183) HT_.out (h := ?_)
              refine pu 34 (some 105) (bw 35 34359738367) HT_.out (h := ?_)
              refine done_ (done_of HT_.out (by kernel_rfl)) ?_
              try go_wp2
              go_meet
              case rel => exact ⟨_, (x10_2), (by first | rfl | (simp; done) | (simp [*]; done)), H', ⟨by have := HJ3.out; have := HK2.out; first | omega | exact Nat.le_refl _⟩, ⟨by (with_reducible repeat (first | apply Kd.N_alloc | apply Kd.N_drewN | apply Kd.N_drew)); exact HO_160002.out⟩, ⟨pK BK159.out⟩, ⟨pK BK160.out⟩, ⟨pE2 HB.out GE159.out GE160.out⟩⟩
            ·rw [if_neg c54] at H
             exact absurd H (by simp)
           ·rw [if_neg c53] at H
            have c53b0 : decide (x10_2 < (l1.length : Int)) = false := decide_eq_false c53
            clear c53
            (first | rw [c53b0] | (simp only [i64_w, i32_w]; rw [c53b0]) | skip)
            have H' := Aside0.mk H
            clear H
            try go_wp2
            have n0_ := Aside0.mk (Kd.N_drew HO_160002.out)
            have n1_ := Aside0.mk (blk_drew BK159.out)
            have n2_ := Aside0.mk (blk_drew BK160.out)
            have n3_ := Aside0.mk (below_drew1 HB.out)
            clear HO_160002
            clear BK159
            clear BK160
            clear HB
            have HO_160002 := n0_
            have BK159 := n1_
            have BK160 := n2_
            have HB := n3_
            clear n0_ n1_ n2_ n3_
            refine start_ (n := 35) (S := fun w' => True) (ds := []) #[false, false, false, false, false, false, false, false, false, false, false, false, false, false, false, false, false, false, false, false, false, false, false, false, false, false, false, false, false, false, false, false, false, false, false] (by kernel_rfl) rfl rfl trivial (fun hHeld => ?_); refine with_tabW raft_Put.tab13 raft_Put.bits13 (fun HT_ HW_ => ?_)
            (first | generalize wr.drew = w63 at HO_160002 BK159 BK160 HB hHeld ⊢ | generalize wr.drew = w63 at BK159 BK160 HB hHeld ⊢)
            refine pu 0 (some 71) (bw 35 1) HT_.out (h := ?_)
            refine pu 1 (some 72) (bw 35 3) HT_.out (h := ?_)
            refine pu 2 (some 73) (bw 35 7) HT_.out (h := ?_)
            refine pu 3 (some 74) (bw 35 15) HT_.out (h := ?_)
            refine pu 4 (some 75) (bw 35 31) HT_.out (h := ?_)
            refine pd 5 (some 76) (bw 35 63) HT_.out (h := ?_)
            refine pd 6 (some 77) (bw 35 127) HT_.out (h := ?_)
            refine pd 7 (some 78) (bw 35 255) HT_.out (h := ?_)
            refine pd 8 (some 79) (bw 35 511) HT_.out (h := ?_)
            refine pd 9 (some 80) (bw 35 1023) HT_.out (h := ?_)
            refine pd 10 (some 81) (bw 35 2047) HT_.out (h := ?_)
            refine pd 11 (some 82) (bw 35 4095) HT_.out (h := ?_)
            refine pu 12 (some 83) (bw 35 8191) HT_.out (h := ?_)
            refine pu 13 (some 84) (bw 35 16383) HT_.out (h := ?_)
            refine pd 14 (some 85) (bw 35 32767) HT_.out (h := ?_)
            refine pd 15 (some 86) (bw 35 65535) HT_.out (h := ?_)
            refine pd 16 (some 87) (bw 35 131071) HT_.out (h := ?_)
            refine pd 17 (some 88) (bw 35 262143) HT_.out (h := ?_)
            refine pd 18 (some 89) (bw 35 524287) HT_.out (h := ?_)
            refine pd 19 (some 90) (bw 35 1048575) HT_.out (h := ?_)
            refine pd 20 (some 91) (bw 35 2097151) HT_.out (h := ?_)
            refine pd 21 (some 92) (bw 35 4194303) HT_.out (h := ?_)
            refine pd 22 (some 93) (bw 35 8388607) HT_.out (h := ?_)
            refine pd 23 (some 94) (bw 35 16777215) HT_.out (h := ?_)
            refine pd 24 (some 95) (bw 35 33554431) HT_.out (h := ?_)
            refine pd 25 (some 96) (bw 35 67108863) HT_.out (h := ?_)
            refine pd 26 (some 97) (bw 35 134217727) HT_.out (h := ?_)
            refine pd 27 (some 98) (bw 35 268435455) HT_.out (h := ?_)
            refine pd 28 (some 99) (bw 35 536870911) HT_.out (h := ?_)
            refine pd 29 (some 100) (bw 35 1073741823) HT_.out (h := ?_)
            refine pd 30 (some 101) (bw 35 2147483647) HT_.out (h := ?_)
            refine pd 31 (some 102) (bw 35 4294967295) HT_.out (h := ?_)
            refine pd 32 (some 103) (bw 35 8589934591) HT_.out (h := ?_)
            refine pd 33 (some 104) (bw 35 17179869183) HT_.out (h := ?_)
            refine pu 34 (some 105) (bw 35 34359738367) HT_.out (h := ?_)
            refine done_ (done_of HT_.out (by kernel_rfl)) ?_
            try go_wp2
            go_meet
            case rel => exact ⟨_, (x10_2), (by first | rfl | (simp; done) | (simp [*]; done)), H', ⟨by have := HJ3.out; have := HK2.out; first | omega | exact Nat.le_refl _⟩, ⟨by (with_reducible repeat (first | apply Kd.N_alloc | apply Kd.N_drewN | apply Kd.N_drew)); exact HO_160002.out⟩, ⟨pK BK159.out⟩, ⟨pK BK160.out⟩, ⟨pE2 HB.out GE159.out GE160.out⟩⟩
        case rest =>
         clear HC44
         try clear c1
         try clear p1
         try clear q1
         try clear hx1
         try clear p2
         try clear c5
         try clear c17
         try clear p17
         try clear q17
         try clear hx17
         try clear c53
         try clear c53b0
         try clear c54
         try clear c55
         try clear c55b0
         try clear c57
         try clear c58
         try clear hx174_0
         try clear hx174_1
         try clear hx174_2
         try clear hx174_3
         try clear hx174_4
         try clear hx174_5
         try clear hx174_6
         try clear hx174_7
         try clear hx174_8
         try clear hx174_9
         try clear p174
         try clear q174
         obtain ⟨kq, x10_43, rfl, HA, HJ43, HO_160002, BK159, BK160, HB⟩ := hcut
         cases kq with
         | zero => exact absurd HA.out (by simp [raft_Put.j2])
         | succ kj43 =>
          have H := HA.out
          clear HA
          simp only [raft_Put.j2] at H
          by_cases c64 : x10_43 = (l1.length : Int)
          ·rw [if_pos c64] at H
           have c64b0 : (x10_43 == (l1.length : Int)) = true := beq_iff_eq.mpr c64
           have c64b1 : (x10_43 != (l1.length : Int)) = false := bne_eq_false_iff_eq.mpr c64
           clear c64
           simp only [Option.some.injEq, Prod.mk.injEq] at H
           obtain ⟨rfl, rfl, rfl, rfl, rfl, rfl, rfl, rfl⟩ := H
           have hnb65 := NB159_160.out
           have hnc65 := NB160_159.out
           obtain ⟨hcz66_0, hcz66_1, hcz66_2, hcz66_3, hcz66_4, hcz66_5, hcz66_6⟩ := bc7 BK159.out
           obtain ⟨hfz66_0, hfz66_1, hfz66_2, hfz66_3, hfz66_4, hfz66_5, hfz66_6⟩ := bf7 BK159.out
           obtain ⟨hcz67_0, hcz67_1, hcz67_2, hcz67_3, hcz67_4, hcz67_5, hcz67_6⟩ := bc7 BK160.out
           obtain ⟨hfz67_0, hfz67_1, hfz67_2, hfz67_3, hfz67_4, hfz67_5, hfz67_6⟩ := bf7 BK160.out
           go_wp2
           refine bodyPost_ret (results_ct rfl _ _ gb160 26 #[.int .i64 a0_0, .int .i64 a0_1, .slice Ao51 t171.length co51, .int .i64 a0_3, .int .i64 a0_4, .int .i64 a0_5, .int .i64 a0_6] (0, 0) _ rfl (kX0 BK160.out) Try.underlying26 rfl (by kernel_rfl)) rfl ?_
           exact ⟨_, pX, by (with_reducible repeat (first | apply Kd.N_alloc | apply Kd.N_drewN | apply Kd.N_drew)); exact Kd.N_mono (Nf7 (g := gb160) (Kd.N_mono HO_160002.out (fun k_ hk => (⟨hk, hk.2.2⟩ : _ ∧ k_ ≠ gb160))) (fun _ hk => hk.2)) (fun _ hk => hk.1.1), pE2 HB.out GE159.out GE160.out⟩
          ·rw [if_neg c64] at H
           have c64b0 : (x10_43 == (l1.length : Int)) = false := beq_eq_false_iff_ne.mpr c64
           have c64b1 : (x10_43 != (l1.length : Int)) = true := bne_iff_ne.mpr c64
           by_cases c68 : 0 ≤ x10_43
           ·rw [if_pos c68] at H
            have c68b0 : decide (0 ≤ x10_43) = true := decide_eq_true c68
            clear c68
            by_cases c69 : x10_43 < (l1.length : Int)
            ·rw [if_pos c69] at H
             have c69b0 : decide (x10_43 < (l1.length : Int)) = true := decide_eq_true c69
             clear c69
             by_cases c70 : ((rd_T46 l1 x10_43).f0) ≤ a0_5
             ·rw [if_pos c70] at H
              have c70b0 : decide (((rd_T46 l1 x10_43).f0) ≤ a0_5) = true := decide_eq_true c70
              clear c70
              simp only [Option.some.injEq, Prod.mk.injEq] at H
              obtain ⟨rfl, rfl, rfl, rfl, rfl, rfl, rfl, rfl⟩ := H
              try go_wp2
              have n0_ := Aside0.mk (Kd.N_drew HO_160002.out)
              have n1_ := Aside0.mk (blk_drew BK159.out)
              have n2_ := Aside0.mk (blk_drew BK160.out)
              have n3_ := Aside0.mk (below_drew1 HB.out)
              clear HO_160002
              clear BK159
              clear BK160
              clear HB
              have HO_160002 := n0_
              have BK159 := n1_
              have BK160 := n2_
              have HB := n3_
              clear n0_ n1_ n2_ n3_
              have p178 : 0 ≤ (x10_43 : Int) := of_decide_eq_true pS
              have q178 : x10_43 < (l1.length : Int) := of_decide_eq_true pS
              obtain ⟨ad178, A178_5, c178_5, e178, hx178_0, hx178_1, hx178_2, hx178_3, hx178_4, hx178_5, hx178_6, hx178_7, hx178_8, hx178_9, hl178_5, hi178_5⟩ := at_T46 HR1.out x10_43 p178 q178
              have hw178_9 := hx178_9
              have hw178_8 := hx178_8
              have hw178_7 := hx178_7
              have hw178_6 := hx178_6
              have hw178_5 := hx178_5
              have hw178_4 := hx178_4
              have hw178_3 := hx178_3
              have hw178_2 := hx178_2
              have hw178_1 := hx178_1
              have hw178_0 := hx178_0
              obtain rfl : ad165 = ad178 := (by injection e178)
              replace hx178_0 := cU HB.out hx178_0
              replace hx178_1 := cU HB.out hx178_1
              replace hx178_2 := cU HB.out hx178_2
              replace hx178_3 := cU HB.out hx178_3
              replace hx178_4 := cU HB.out hx178_4
              replace hx178_5 := cU HB.out hx178_5
              replace hx178_6 := cU HB.out hx178_6
              replace hx178_7 := cU HB.out hx178_7
              replace hx178_8 := cU HB.out hx178_8
              replace hx178_9 := cU HB.out hx178_9
              have HR178_5 := Aside0.mk hi178_5
              have HC178_5 := Aside0.mk hl178_5
              clear hi178_5 hl178_5
              replace p178 := eq_true p178
              replace q178 := eq_true q178
              refine start_ (n := 10) (S := fun w' => cG w' gb159 0 (.int .i64 a0_0) ∧ cG w' gb159 1 (.int .i64 a0_1) ∧ cG w' gb159 2 (.slice Ao51 t171.length co51) ∧ cG w' gb159 3 (.int .i64 a0_3) ∧ cG w' gb159 4 (.int .i64 a0_4) ∧ cG w' gb159 5 (.int .i64 a0_5) ∧ cG w' gb159 6 (.int .i64 a0_6) ∧ w'.cell? (ad165.add ((x10_43).toNat * 10)) = some (.int .i64 ((rd_T46 l1 x10_43).f0)) ∧ cA w' (ad165.add ((x10_43).toNat * 10)) 1 (.int .i64 ((rd_T46 l1 x10_43).f1)) ∧ cA w' (ad165.add ((x10_43).toNat * 10)) 2 (.int .i64 ((rd_T46 l1 x10_43).f2)) ∧ cA w' (ad165.add ((x10_43).toNat * 10)) 3 (.string ((rd_T46 l1 x10_43).f3)) ∧ cA w' (ad165.add ((x10_43).toNat * 10)) 4 (.bool ((rd_T46 l1 x10_43).f4.f0)) ∧ cA w' (ad165.add ((x10_43).toNat * 10)) 5 (.slice A178_5 ((rd_T46 l1 x10_43).f4.f1).length c178_5) ∧ cA w' (ad165.add ((x10_43).toNat * 10)) 6 (.int .i64 ((rd_T46 l1 x10_43).f4.f2.f0)) ∧ cA w' (ad165.add ((x10_43).toNat * 10)) 7 (.int .i64 ((rd_T46 l1 x10_43).f4.f2.f1)) ∧ cA w' (ad165.add ((x10_43).toNat * 10)) 8 (.int .i64 ((rd_T46 l1 x10_43).f4.f2.f2)) ∧ cA w' (ad165.add ((x10_43).toNat * 10)) 9 (.int .u32 ((rd_T46 l1 x10_43).f4.f2.f3))) (ds := []) #[false, false, false, false, false, false, false, false, false, false] (by kernel_rfl) rfl rfl ⟨(blk_cell BK159.out 0).trans rfl, (blk_cell BK159.out 1).trans rfl, (blk_cell BK159.out 2).trans rfl, (blk_cell BK159.out 3).trans rfl, (blk_cell BK159.out 4).trans rfl, (blk_cell BK159.out 5).trans rfl, (blk_cell BK159.out 6).trans rfl, (cT HB.out hw178_0), (cT HB.out hw178_1), (cT HB.out hw178_2), (cT HB.out hw178_3), (cT HB.out hw178_4), (cT HB.out hw178_5), (cT HB.out hw178_6), (cT HB.out hw178_7), (cT HB.out hw178_8), (cT HB.out hw178_9)⟩ (fun hHeld => ?_); refine with_tabW raft_Put.tab17 raft_Put.bits17 (fun HT_ HW_ => ?_)
              (first | generalize wc.drew = w71 at HO_160002 BK159 BK160 HB HR178_5 hx178_0 hx178_1 hx178_2 hx178_3 hx178_4 hx178_5 hx178_6 hx178_7 hx178_8 hx178_9 hHeld ⊢ | generalize wc.drew = w71 at BK159 BK160 HB HR178_5 hx178_0 hx178_1 hx178_2 hx178_3 hx178_4 hx178_5 hx178_6 hx178_7 hx178_8 hx178_9 hHeld ⊢)
              refine pu 0 (some 113) (bw 10 1) HT_.out (h := ?_)
              refine pu 1 (some 114) (bw 10 3) HT_.out (h := ?_)
              refine pu 2 (some 115) (bw 10 7) HT_.out (h := ?_)
              refine pu 3 (some 116) (bw 10 15) HT_.out (h := ?_)
              refine pu 5 (some 118) (bw 10 47) HT_.out (h := ?_)
              refine tk 4 (some 117) (bw 10 63) HT_.out HW_.out hHeld (h := ?_)
              refine tk 6 (some 119) (bw 10 127) HT_.out HW_.out hHeld (h := ?_)
              refine pu 7 (some 120) (bw 10 255) HT_.out (h := ?_)
              refine pu 8 (some 121) (bw 10 511) HT_.out (h := ?_)
              refine pu 9 (some 11) (bw 10 1023) HT_.out (h := ?_)
              refine done_ (done_of HT_.out (by kernel_rfl)) ?_
              try go_wp2
              have n0_ := Aside0.mk (Kd.N_drew HO_160002.out)
              have n1_ := Aside0.mk (blk_drew BK159.out)
              have n2_ := Aside0.mk (blk_drew BK160.out)
              have n3_ := Aside0.mk (below_drew1 HB.out)
              clear HO_160002
              clear BK159
              clear BK160
              clear HB
              have HO_160002 := n0_
              have BK159 := n1_
              have BK160 := n2_
              have HB := n3_
              clear n0_ n1_ n2_ n3_
              have p179 : 0 ≤ (x10_43 : Int) := of_decide_eq_true pS
              have q179 : x10_43 < (l1.length : Int) := of_decide_eq_true pS
              obtain ⟨ad179, A179_5, c179_5, e179, hx179_0, hx179_1, hx179_2, hx179_3, hx179_4, hx179_5, hx179_6, hx179_7, hx179_8, hx179_9, hl179_5, hi179_5⟩ := at_T46 HR1.out x10_43 p179 q179
              have hw179_9 := hx179_9
              have hw179_8 := hx179_8
              have hw179_7 := hx179_7
              have hw179_6 := hx179_6
              have hw179_5 := hx179_5
              have hw179_4 := hx179_4
              have hw179_3 := hx179_3
              have hw179_2 := hx179_2
              have hw179_1 := hx179_1
              have hw179_0 := hx179_0
              obtain rfl : ad165 = ad179 := (by injection e179)
              replace hx179_0 := cU HB.out hx179_0
              replace hx179_1 := cU HB.out hx179_1
              replace hx179_2 := cU HB.out hx179_2
              replace hx179_3 := cU HB.out hx179_3
              replace hx179_4 := cU HB.out hx179_4
              replace hx179_5 := cU HB.out hx179_5
              replace hx179_6 := cU HB.out hx179_6
              replace hx179_7 := cU HB.out hx179_7
              replace hx179_8 := cU HB.out hx179_8
              replace hx179_9 := cU HB.out hx179_9
              have HR179_5 := Aside0.mk hi179_5
              have HC179_5 := Aside0.mk hl179_5
              clear hi179_5 hl179_5
              replace p179 := eq_true p179
              replace q179 := eq_true q179
              refine start_ (n := 10) (S := fun w' => cG w' gb159 0 (.int .i64 a0_0) ∧ cG w' gb159 1 (.int .i64 a0_1) ∧ cG w' gb159 2 (.slice Ao51 t171.length co51) ∧ cG w' gb159 3 (.int .i64 a0_3) ∧ cG w' gb159 4 (.int .i64 a0_4) ∧ cG w' gb159 5 (.int .i64 a0_5) ∧ cG w' gb159 6 (.int .i64 a0_6) ∧ w'.cell? (ad165.add ((x10_43).toNat * 10)) = some (.int .i64 ((rd_T46 l1 x10_43).f0)) ∧ cA w' (ad165.add ((x10_43).toNat * 10)) 1 (.int .i64 ((rd_T46 l1 x10_43).f1)) ∧ cA w' (ad165.add ((x10_43).toNat * 10)) 2 (.int .i64 ((rd_T46 l1 x10_43).f2)) ∧ cA w' (ad165.add ((x10_43).toNat * 10)) 3 (.string ((rd_T46 l1 x10_43).f3)) ∧ cA w' (ad165.add ((x10_43).toNat * 10)) 4 (.bool ((rd_T46 l1 x10_43).f4.f0)) ∧ cA w' (ad165.add ((x10_43).toNat * 10)) 5 (.slice A179_5 ((rd_T46 l1 x10_43).f4.f1).length c179_5) ∧ cA w' (ad165.add ((x10_43).toNat * 10)) 6 (.int .i64 ((rd_T46 l1 x10_43).f4.f2.f0)) ∧ cA w' (ad165.add ((x10_43).toNat * 10)) 7 (.int .i64 ((rd_T46 l1 x10_43).f4.f2.f1)) ∧ cA w' (ad165.add ((x10_43).toNat * 10)) 8 (.int .i64 ((rd_T46 l1 x10_43).f4.f2.f2)) ∧ cA w' (ad165.add ((x10_43).toNat * 10)) 9 (.int .u32 ((rd_T46 l1 x10_43).f4.f2.f3))) (ds := []) #[false, false, false, false, false, false, false, false, false, false] (by kernel_rfl) rfl rfl ⟨(blk_cell BK159.out 0).trans rfl, (blk_cell BK159.out 1).trans rfl, (blk_cell BK159.out 2).trans rfl, (blk_cell BK159.out 3).trans rfl, (blk_cell BK159.out 4).trans rfl, (blk_cell BK159.out 5).trans rfl, (blk_cell BK159.out 6).trans rfl, (cT HB.out hw179_0), (cT HB.out hw179_1), (cT HB.out hw179_2), (cT HB.out hw179_3), (cT HB.out hw179_4), (cT HB.out hw179_5), (cT HB.out hw179_6), (cT HB.out hw179_7), (cT HB.out hw179_8), (cT HB.out hw179_9)⟩ (fun hHeld => ?_); refine with_tabW raft_Put.tab18 raft_Put.bits18 (fun HT_ HW_ => ?_)
              (first | generalize w71.drew = w72 at HO_160002 BK159 BK160 HB HR179_5 hx179_0 hx179_1 hx179_2 hx179_3 hx179_4 hx179_5 hx179_6 hx179_7 hx179_8 hx179_9 hHeld ⊢ | generalize w71.drew = w72 at BK159 BK160 HB HR179_5 hx179_0 hx179_1 hx179_2 hx179_3 hx179_4 hx179_5 hx179_6 hx179_7 hx179_8 hx179_9 hHeld ⊢)
              refine pu 0 (some 123) (bw 10 1) HT_.out (h := ?_)
              refine pu 1 (some 124) (bw 10 3) HT_.out (h := ?_)
              refine pu 2 (some 125) (bw 10 7) HT_.out (h := ?_)
              refine pu 3 (some 126) (bw 10 15) HT_.out (h := ?_)
              refine pu 5 (some 128) (bw 10 47) HT_.out (h := ?_)
              refine pu 6 (some 129) (bw 10 111) HT_.out (h := ?_)
              refine tk 4 (some 127) (bw 10 127) HT_.out HW_.out hHeld (h := ?_)
              refine tk 7 (some 130) (bw 10 255) HT_.out HW_.out hHeld (h := ?_)
              refine pu 8 (some 131) (bw 10 511) HT_.out (h := ?_)
              refine pu 9 (some 122) (bw 10 1023) HT_.out (h := ?_)
              refine done_ (done_of HT_.out (by kernel_rfl)) ?_
              have hnb73 := NB160_159.out
              have hnc73 := NB159_160.out
              obtain ⟨hcz74_0, hcz74_1, hcz74_2, hcz74_3, hcz74_4, hcz74_5, hcz74_6⟩ := bc7 BK160.out
              obtain ⟨hfz74_0, hfz74_1, hfz74_2, hfz74_3, hfz74_4, hfz74_5, hfz74_6⟩ := bf7 BK160.out
              try go_wp2
              refine bodyPost_ret (results_ct rfl _ _ gb160 26 #[.int .i64 0, .int .i64 0, .slice none 0 0, .int .i64 0, .int .i64 0, .int .i64 0, .int .i64 0] (0, 0) _ rfl (kX0 BK160.out) Try.underlying26 rfl (by kernel_rfl)) rfl ?_
              exact ⟨_, pX, by first | exact Kd.S_nil _ _ _ _ _ | exact Kd.N_nil _ _ _ _ _ | exact Kd.V_nil _ _ _ _ _ | exact Kd.Q_nil _ _ _ _ _ | exact Kd.R_nil _ _ _ _ _, pE2 HB.out GE159.out GE160.out⟩
             ·rw [if_neg c70] at H
              have c70b0 : decide (((rd_T46 l1 x10_43).f0) ≤ a0_5) = false := decide_eq_false c70
              clear c70
              by_cases c75 : (wrap64 ((wrap64 ((wrap64 ((wrap64 (((rd_T46 l1 x10_43).f0) - a0_0)) - 1)) + (l1.length : Int))) - x10_43)) > 1000
              ·rw [if_pos c75] at H
               have c75b0 : decide (1000 < (wrap64 ((wrap64 ((wrap64 ((wrap64 (((rd_T46 l1 x10_43).f0) - a0_0)) - 1)) + (l1.length : Int))) - x10_43))) = true := decide_eq_true c75
               clear c75
               simp only [Option.some.injEq, Prod.mk.injEq] at H
               obtain ⟨rfl, rfl, rfl, rfl, rfl, rfl, rfl, rfl⟩ := H
               try go_wp2
               have n0_ := Aside0.mk (Kd.N_drew HO_160002.out)
               have n1_ := Aside0.mk (blk_drew BK159.out)
               have n2_ := Aside0.mk (blk_drew BK160.out)
               have n3_ := Aside0.mk (below_drew1 HB.out)
               clear HO_160002
               clear BK159
               clear BK160
               clear HB
               have HO_160002 := n0_
               have BK159 := n1_
               have BK160 := n2_
               have HB := n3_
               clear n0_ n1_ n2_ n3_
               have p178 : 0 ≤ (x10_43 : Int) := of_decide_eq_true pS
               have q178 : x10_43 < (l1.length : Int) := of_decide_eq_true pS
               obtain ⟨ad178, A178_5, c178_5, e178, hx178_0, hx178_1, hx178_2, hx178_3, hx178_4, hx178_5, hx178_6, hx178_7, hx178_8, hx178_9, hl178_5, hi178_5⟩ := at_T46 HR1.out x10_43 p178 q178
               have hw178_9 := hx178_9
               have hw178_8 := hx178_8
               have hw178_7 := hx178_7
               have hw178_6 := hx178_6
               have hw178_5 := hx178_5
               have hw178_4 := hx178_4
               have hw178_3 := hx178_3
               have hw178_2 := hx178_2
               have hw178_1 := hx178_1
               have hw178_0 := hx178_0
               obtain rfl : ad165 = ad178 := (by injection e178)
               replace hx178_0 := cU HB.out hx178_0
               replace hx178_1 := cU HB.out hx178_1
               replace hx178_2 := cU HB.out hx178_2
               replace hx178_3 := cU HB.out hx178_3
               replace hx178_4 := cU HB.out hx178_4
               replace hx178_5 := cU HB.out hx178_5
               replace hx178_6 := cU HB.out hx178_6
               replace hx178_7 := cU HB.out hx178_7
               replace hx178_8 := cU HB.out hx178_8
               replace hx178_9 := cU HB.out hx178_9
               have HR178_5 := Aside0.mk hi178_5
               have HC178_5 := Aside0.mk hl178_5
               clear hi178_5 hl178_5
               replace p178 := eq_true p178
               replace q178 := eq_true q178
               refine start_ (n := 10) (S := fun w' => cG w' gb159 0 (.int .i64 a0_0) ∧ cG w' gb159 1 (.int .i64 a0_1) ∧ cG w' gb159 2 (.slice Ao51 t171.length co51) ∧ cG w' gb159 3 (.int .i64 a0_3) ∧ cG w' gb159 4 (.int .i64 a0_4) ∧ cG w' gb159 5 (.int .i64 a0_5) ∧ cG w' gb159 6 (.int .i64 a0_6) ∧ w'.cell? (ad165.add ((x10_43).toNat * 10)) = some (.int .i64 ((rd_T46 l1 x10_43).f0)) ∧ cA w' (ad165.add ((x10_43).toNat * 10)) 1 (.int .i64 ((rd_T46 l1 x10_43).f1)) ∧ cA w' (ad165.add ((x10_43).toNat * 10)) 2 (.int .i64 ((rd_T46 l1 x10_43).f2)) ∧ cA w' (ad165.add ((x10_43).toNat * 10)) 3 (.string ((rd_T46 l1 x10_43).f3)) ∧ cA w' (ad165.add ((x10_43).toNat * 10)) 4 (.bool ((rd_T46 l1 x10_43).f4.f0)) ∧ cA w' (ad165.add ((x10_43).toNat * 10)) 5 (.slice A178_5 ((rd_T46 l1 x10_43).f4.f1).length c178_5) ∧ cA w' (ad165.add ((x10_43).toNat * 10)) 6 (.int .i64 ((rd_T46 l1 x10_43).f4.f2.f0)) ∧ cA w' (ad165.add ((x10_43).toNat * 10)) 7 (.int .i64 ((rd_T46 l1 x10_43).f4.f2.f1)) ∧ cA w' (ad165.add ((x10_43).toNat * 10)) 8 (.int .i64 ((rd_T46 l1 x10_43).f4.f2.f2)) ∧ cA w' (ad165.add ((x10_43).toNat * 10)) 9 (.int .u32 ((rd_T46 l1 x10_43).f4.f2.f3))) (ds := []) #[false, false, false, false, false, false, false, false, false, false] (by kernel_rfl) rfl rfl ⟨(blk_cell BK159.out 0).trans rfl, (blk_cell BK159.out 1).trans rfl, (blk_cell BK159.out 2).trans rfl, (blk_cell BK159.out 3).trans rfl, (blk_cell BK159.out 4).trans rfl, (blk_cell BK159.out 5).trans rfl, (blk_cell BK159.out 6).trans rfl, (cT HB.out hw178_0), (cT HB.out hw178_1), (cT HB.out hw178_2), (cT HB.out hw178_3), (cT HB.out hw178_4), (cT HB.out hw178_5), (cT HB.out hw178_6), (cT HB.out hw178_7), (cT HB.out hw178_8), (cT HB.out hw178_9)⟩ (fun hHeld => ?_); refine with_tabW raft_Put.tab17 raft_Put.bits17 (fun HT_ HW_ => ?_)
               (first | generalize wc.drew = w76 at HO_160002 BK159 BK160 HB HR178_5 hx178_0 hx178_1 hx178_2 hx178_3 hx178_4 hx178_5 hx178_6 hx178_7 hx178_8 hx178_9 hHeld ⊢ | generalize wc.drew = w76 at BK159 BK160 HB HR178_5 hx178_0 hx178_1 hx178_2 hx178_3 hx178_4 hx178_5 hx178_6 hx178_7 hx178_8 hx178_9 hHeld ⊢)
               refine pu 0 (some 113) (bw 10 1) HT_.out (h := ?_)
               refine pu 1 (some 114) (bw 10 3) HT_.out (h := ?_)
               refine pu 2 (some 115) (bw 10 7) HT_.out (h := ?_)
               refine pu 3 (some 116) (bw 10 15) HT_.out (h := ?_)
               refine pu 5 (some 118) (bw 10 47) HT_.out (h := ?_)
               refine tk 4 (some 117) (bw 10 63) HT_.out HW_.out hHeld (h := ?_)
               refine tk 6 (some 119) (bw 10 127) HT_.out HW_.out hHeld (h := ?_)
               refine pu 7 (some 120) (bw 10 255) HT_.out (h := ?_)
               refine pu 8 (some 121) (bw 10 511) HT_.out (h := ?_)
               refine pu 9 (some 11) (bw 10 1023) HT_.out (h := ?_)
               refine done_ (done_of HT_.out (by kernel_rfl)) ?_
               try go_wp2
               have n0_ := Aside0.mk (Kd.N_drew HO_160002.out)
               have n1_ := Aside0.mk (blk_drew BK159.out)
               have n2_ := Aside0.mk (blk_drew BK160.out)
               have n3_ := Aside0.mk (below_drew1 HB.out)
               clear HO_160002
               clear BK159
               clear BK160
               clear HB
               have HO_160002 := n0_
               have BK159 := n1_
               have BK160 := n2_
               have HB := n3_
               clear n0_ n1_ n2_ n3_
               have p179 : 0 ≤ (x10_43 : Int) := of_decide_eq_true pS
               have q179 : x10_43 < (l1.length : Int) := of_decide_eq_true pS
               obtain ⟨ad179, A179_5, c179_5, e179, hx179_0, hx179_1, hx179_2, hx179_3, hx179_4, hx179_5, hx179_6, hx179_7, hx179_8, hx179_9, hl179_5, hi179_5⟩ := at_T46 HR1.out x10_43 p179 q179
               have hw179_9 := hx179_9
               have hw179_8 := hx179_8
               have hw179_7 := hx179_7
               have hw179_6 := hx179_6
               have hw179_5 := hx179_5
               have hw179_4 := hx179_4
               have hw179_3 := hx179_3
               have hw179_2 := hx179_2
               have hw179_1 := hx179_1
               have hw179_0 := hx179_0
               obtain rfl : ad165 = ad179 := (by injection e179)
               replace hx179_0 := cU HB.out hx179_0
               replace hx179_1 := cU HB.out hx179_1
               replace hx179_2 := cU HB.out hx179_2
               replace hx179_3 := cU HB.out hx179_3
               replace hx179_4 := cU HB.out hx179_4
               replace hx179_5 := cU HB.out hx179_5
               replace hx179_6 := cU HB.out hx179_6
               replace hx179_7 := cU HB.out hx179_7
               replace hx179_8 := cU HB.out hx179_8
               replace hx179_9 := cU HB.out hx179_9
               have HR179_5 := Aside0.mk hi179_5
               have HC179_5 := Aside0.mk hl179_5
               clear hi179_5 hl179_5
               replace p179 := eq_true p179
               replace q179 := eq_true q179
               refine start_ (n := 10) (S := fun w' => cG w' gb159 0 (.int .i64 a0_0) ∧ cG w' gb159 1 (.int .i64 a0_1) ∧ cG w' gb159 2 (.slice Ao51 t171.length co51) ∧ cG w' gb159 3 (.int .i64 a0_3) ∧ cG w' gb159 4 (.int .i64 a0_4) ∧ cG w' gb159 5 (.int .i64 a0_5) ∧ cG w' gb159 6 (.int .i64 a0_6) ∧ w'.cell? (ad165.add ((x10_43).toNat * 10)) = some (.int .i64 ((rd_T46 l1 x10_43).f0)) ∧ cA w' (ad165.add ((x10_43).toNat * 10)) 1 (.int .i64 ((rd_T46 l1 x10_43).f1)) ∧ cA w' (ad165.add ((x10_43).toNat * 10)) 2 (.int .i64 ((rd_T46 l1 x10_43).f2)) ∧ cA w' (ad165.add ((x10_43).toNat * 10)) 3 (.string ((rd_T46 l1 x10_43).f3)) ∧ cA w' (ad165.add ((x10_43).toNat * 10)) 4 (.bool ((rd_T46 l1 x10_43).f4.f0)) ∧ cA w' (ad165.add ((x10_43).toNat * 10)) 5 (.slice A179_5 ((rd_T46 l1 x10_43).f4.f1).length c179_5) ∧ cA w' (ad165.add ((x10_43).toNat * 10)) 6 (.int .i64 ((rd_T46 l1 x10_43).f4.f2.f0)) ∧ cA w' (ad165.add ((x10_43).toNat * 10)) 7 (.int .i64 ((rd_T46 l1 x10_43).f4.f2.f1)) ∧ cA w' (ad165.add ((x10_43).toNat * 10)) 8 (.int .i64 ((rd_T46 l1 x10_43).f4.f2.f2)) ∧ cA w' (ad165.add ((x10_43).toNat * 10)) 9 (.int .u32 ((rd_T46 l1 x10_43).f4.f2.f3))) (ds := []) #[false, false, false, false, false, false, false, false, false, false] (by kernel_rfl) rfl rfl ⟨(blk_cell BK159.out 0).trans rfl, (blk_cell BK159.out 1).trans rfl, (blk_cell BK159.out 2).trans rfl, (blk_cell BK159.out 3).trans rfl, (blk_cell BK159.out 4).trans rfl, (blk_cell BK159.out 5).trans rfl, (blk_cell BK159.out 6).trans rfl, (cT HB.out hw179_0), (cT HB.out hw179_1), (cT HB.out hw179_2), (cT HB.out hw179_3), (cT HB.out hw179_4), (cT HB.out hw179_5), (cT HB.out hw179_6), (cT HB.out hw179_7), (cT HB.out hw179_8), (cT HB.out hw179_9)⟩ (fun hHeld => ?_); refine with_tabW raft_Put.tab18 raft_Put.bits18 (fun HT_ HW_ => ?_)
               (first | generalize w76.drew = w77 at HO_160002 BK159 BK160 HB HR179_5 hx179_0 hx179_1 hx179_2 hx179_3 hx179_4 hx179_5 hx179_6 hx179_7 hx179_8 hx179_9 hHeld ⊢ | generalize w76.drew = w77 at BK159 BK160 HB HR179_5 hx179_0 hx179_1 hx179_2 hx179_3 hx179_4 hx179_5 hx179_6 hx179_7 hx179_8 hx179_9 hHeld ⊢)
               refine pu 0 (some 123) (bw 10 1) HT_.out (h := ?_)
               refine pu 1 (some 124) (bw 10 3) HT_.out (h := ?_)
               refine pu 2 (some 125) (bw 10 7) HT_.out (h := ?_)
               refine pu 3 (some 126) (bw 10 15) HT_.out (h := ?_)
               refine pu 5 (some 128) (bw 10 47) HT_.out (h := ?_)
               refine pu 6 (some 129) (bw 10 111) HT_.out (h := ?_)
               refine tk 4 (some 127) (bw 10 127) HT_.out HW_.out hHeld (h := ?_)
               refine tk 7 (some 130) (bw 10 255) HT_.out HW_.out hHeld (h := ?_)
               refine pu 8 (some 131) (bw 10 511) HT_.out (h := ?_)
               refine pu 9 (some 122) (bw 10 1023) HT_.out (h := ?_)
               refine done_ (done_of HT_.out (by kernel_rfl)) ?_
               have hnb78 := NB160_159.out
               have hnc78 := NB159_160.out
               obtain ⟨hcz79_0, hcz79_1, hcz79_2, hcz79_3, hcz79_4, hcz79_5, hcz79_6⟩ := bc7 BK160.out
               obtain ⟨hfz79_0, hfz79_1, hfz79_2, hfz79_3, hfz79_4, hfz79_5, hfz79_6⟩ := bf7 BK160.out
               try go_wp2
               refine bodyPost_ret (results_ct rfl _ _ gb160 26 #[.int .i64 0, .int .i64 0, .slice none 0 0, .int .i64 0, .int .i64 0, .int .i64 0, .int .i64 0] (0, 0) _ rfl (kX0 BK160.out) Try.underlying26 rfl (by kernel_rfl)) rfl ?_
               exact ⟨_, pX, by first | exact Kd.S_nil _ _ _ _ _ | exact Kd.N_nil _ _ _ _ _ | exact Kd.V_nil _ _ _ _ _ | exact Kd.Q_nil _ _ _ _ _ | exact Kd.R_nil _ _ _ _ _, pE2 HB.out GE159.out GE160.out⟩
              ·rw [if_neg c75] at H
               have c75b0 : decide (1000 < (wrap64 ((wrap64 ((wrap64 ((wrap64 (((rd_T46 l1 x10_43).f0) - a0_0)) - 1)) + (l1.length : Int))) - x10_43))) = false := decide_eq_false c75
               clear c75
               obtain ⟨ji80, hji80⟩ : ∃ j_ : Int, (wrap64 ((wrap64 (((rd_T46 l1 x10_43).f0) - a0_0)) - 1)) = j_ := ⟨_, rfl⟩
               replace H : (if 0 ≤ (ji80) then (if (ji80) ≤ (t171.length : Int) then ((some (t171.take ((ji80) : Int).toNat : List (S46))).bind fun y180 => (if x10_43 ≤ (l1.length : Int) then ((raft_owns.f kj43 (l1.drop (x10_43 : Int).toNat)).bind fun t187 => (if y180.length + t187.length < 1353245080339 then (some (a0_0, a0_1, (y180 ++ t187), a0_3, a0_4, a0_5, a0_6, 0)) else (none))) else (none))) else (none)) else (none)) = some (r1, r2, r3, r4, r5, r6, r7, r8) := by first | (rw [hji80] at H; exact H) | (simp only [hji80] at H ⊢; exact H)
               (try rw [hji80] at c32b0)
               (try rw [hji80] at c75b0)
               have hji80w : (IntKind.i64.wrap ((wrap64 (((rd_T46 l1 x10_43).f0) - a0_0)) - 1)) = ji80 := (i64_w _).trans hji80
               by_cases c81 : 0 ≤ (ji80)
               ·rw [if_pos c81] at H
                have c81b0 := eq_true c81
                have c81b1 : decide (0 ≤ (ji80)) = true := decide_eq_true c81
                clear c81
                by_cases c82 : (ji80) ≤ (t171.length : Int)
                ·rw [if_pos c82] at H
                 have c82b0 := eq_true c82
                 have c82b1 : decide ((ji80) ≤ (t171.length : Int)) = true := decide_eq_true c82
                 clear c82
                 obtain ⟨y180, hy180⟩ : ∃ y_ : List (S46), y_ = (t171.take ((ji80) : Int).toNat) := ⟨_, rfl⟩
                 replace H : (if x10_43 ≤ (l1.length : Int) then ((raft_owns.f kj43 (l1.drop (x10_43 : Int).toNat)).bind fun t187 => (if y180.length + t187.length < 1353245080339 then (some (a0_0, a0_1, (y180 ++ t187), a0_3, a0_4, a0_5, a0_6, 0)) else (none))) else (none)) = some (r1, r2, r3, r4, r5, r6, r7, r8) := by first | (rw [hy180]; with_reducible exact H) | (have H2_ := (Option.bind_some _ _).symm.trans H; rw [hy180]; with_reducible exact H2_) | (have H2_ := (Option.bind_some _ _).symm.trans H; with_reducible exact H2_) | with_reducible exact H | (rw [hy180]; exact H) | exact H
                 have Ny180 := Aside0.mk hy180
                 clear hy180
                 have c83b0 := eq_true (of_decide_eq_true pS : 0 ≤ x10_43)
                 by_cases c84 : x10_43 ≤ (l1.length : Int)
                 ·rw [if_pos c84] at H
                  have c84b0 := eq_true c84
                  have c84b1 : decide (x10_43 ≤ (l1.length : Int)) = true := decide_eq_true c84
                  clear c84
                  obtain ⟨y183, hy183⟩ : ∃ y_ : List (S46), y_ = (l1.drop (x10_43 : Int).toNat) := ⟨_, rfl⟩
                  replace H : ((raft_owns.f kj43 y183).bind fun t187 => (if y180.length + t187.length < 1353245080339 then (some (a0_0, a0_1, (y180 ++ t187), a0_3, a0_4, a0_5, a0_6, 0)) else (none))) = some (r1, r2, r3, r4, r5, r6, r7, r8) := by first | (rw [hy183]; with_reducible exact H) | (have H2_ := (Option.bind_some _ _).symm.trans H; rw [hy183]; with_reducible exact H2_) | (have H2_ := (Option.bind_some _ _).symm.trans H; with_reducible exact H2_) | with_reducible exact H | (rw [hy183]; exact H) | exact H
                  have Ny183 := Aside0.mk hy183
                  clear hy183
                  replace H := Option.bind_eq_some_iff.mp H
                  obtain ⟨t187, A850, H⟩ := H
                  replace H : (if y180.length + t187.length < 1353245080339 then (some (a0_0, a0_1, (y180 ++ t187), a0_3, a0_4, a0_5, a0_6, 0)) else (none)) = some (r1, r2, r3, r4, r5, r6, r7, r8) := H
                  have A85 := Aside0.mk A850
                  clear A850
                  by_cases c86 : y180.length + t187.length < 1353245080339
                  ·rw [if_pos c86] at H
                   have LMc86 := Aside0.mk c86
                   clear c86
                   obtain ⟨y190, hy190⟩ : ∃ y_ : List (S46), y_ = (y180 ++ t187) := ⟨_, rfl⟩
                   replace H : (some (a0_0, a0_1, y190, a0_3, a0_4, a0_5, a0_6, 0)) = some (r1, r2, r3, r4, r5, r6, r7, r8) := by first | (rw [hy190]; with_reducible exact H) | (have H2_ := (Option.bind_some _ _).symm.trans H; rw [hy190]; with_reducible exact H2_) | (have H2_ := (Option.bind_some _ _).symm.trans H; with_reducible exact H2_) | with_reducible exact H | (rw [hy190]; exact H) | exact H
                   have Ny190 := Aside0.mk hy190
                   clear hy190
                   simp only [Option.some.injEq, Prod.mk.injEq] at H
                   obtain ⟨rfl, rfl, rfl, rfl, rfl, rfl, rfl, rfl⟩ := H
                   try go_wp2
                   have n0_ := Aside0.mk (Kd.N_drew HO_160002.out)
                   have n1_ := Aside0.mk (blk_drew BK159.out)
                   have n2_ := Aside0.mk (blk_drew BK160.out)
                   have n3_ := Aside0.mk (below_drew1 HB.out)
                   clear HO_160002
                   clear BK159
                   clear BK160
                   clear HB
                   have HO_160002 := n0_
                   have BK159 := n1_
                   have BK160 := n2_
                   have HB := n3_
                   clear n0_ n1_ n2_ n3_
                   have p178 : 0 ≤ (x10_43 : Int) := of_decide_eq_true pS
                   have q178 : x10_43 < (l1.length : Int) := of_decide_eq_true pS
                   obtain ⟨ad178, A178_5, c178_5, e178, hx178_0, hx178_1, hx178_2, hx178_3, hx178_4, hx178_5, hx178_6, hx178_7, hx178_8, hx178_9, hl178_5, hi178_5⟩ := at_T46 HR1.out x10_43 p178 q178
                   have hw178_9 := hx178_9
                   have hw178_8 := hx178_8
                   have hw178_7 := hx178_7
                   have hw178_6 := hx178_6
                   have hw178_5 := hx178_5
                   have hw178_4 := hx178_4
                   have hw178_3 := hx178_3
                   have hw178_2 := hx178_2
                   have hw178_1 := hx178_1
                   have hw178_0 := hx178_0
                   obtain rfl : ad165 = ad178 := (by injection e178)
                   replace hx178_0 := cU HB.out hx178_0
                   replace hx178_1 := cU HB.out hx178_1
                   replace hx178_2 := cU HB.out hx178_2
                   replace hx178_3 := cU HB.out hx178_3
                   replace hx178_4 := cU HB.out hx178_4
                   replace hx178_5 := cU HB.out hx178_5
                   replace hx178_6 := cU HB.out hx178_6
                   replace hx178_7 := cU HB.out hx178_7
                   replace hx178_8 := cU HB.out hx178_8
                   replace hx178_9 := cU HB.out hx178_9
                   have HR178_5 := Aside0.mk hi178_5
                   have HC178_5 := Aside0.mk hl178_5
                   clear hi178_5 hl178_5
                   replace p178 := eq_true p178
                   replace q178 := eq_true q178
                   refine start_ (n := 10) (S := fun w' => cG w' gb159 0 (.int .i64 a0_0) ∧ cG w' gb159 1 (.int .i64 a0_1) ∧ cG w' gb159 2 (.slice Ao51 t171.length co51) ∧ cG w' gb159 3 (.int .i64 a0_3) ∧ cG w' gb159 4 (.int .i64 a0_4) ∧ cG w' gb159 5 (.int .i64 a0_5) ∧ cG w' gb159 6 (.int .i64 a0_6) ∧ w'.cell? (ad165.add ((x10_43).toNat * 10)) = some (.int .i64 ((rd_T46 l1 x10_43).f0)) ∧ cA w' (ad165.add ((x10_43).toNat * 10)) 1 (.int .i64 ((rd_T46 l1 x10_43).f1)) ∧ cA w' (ad165.add ((x10_43).toNat * 10)) 2 (.int .i64 ((rd_T46 l1 x10_43).f2)) ∧ cA w' (ad165.add ((x10_43).toNat * 10)) 3 (.string ((rd_T46 l1 x10_43).f3)) ∧ cA w' (ad165.add ((x10_43).toNat * 10)) 4 (.bool ((rd_T46 l1 x10_43).f4.f0)) ∧ cA w' (ad165.add ((x10_43).toNat * 10)) 5 (.slice A178_5 ((rd_T46 l1 x10_43).f4.f1).length c178_5) ∧ cA w' (ad165.add ((x10_43).toNat * 10)) 6 (.int .i64 ((rd_T46 l1 x10_43).f4.f2.f0)) ∧ cA w' (ad165.add ((x10_43).toNat * 10)) 7 (.int .i64 ((rd_T46 l1 x10_43).f4.f2.f1)) ∧ cA w' (ad165.add ((x10_43).toNat * 10)) 8 (.int .i64 ((rd_T46 l1 x10_43).f4.f2.f2)) ∧ cA w' (ad165.add ((x10_43).toNat * 10)) 9 (.int .u32 ((rd_T46 l1 x10_43).f4.f2.f3))) (ds := []) #[false, false, false, false, false, false, false, false, false, false] (by kernel_rfl) rfl rfl ⟨(blk_cell BK159.out 0).trans rfl, (blk_cell BK159.out 1).trans rfl, (blk_cell BK159.out 2).trans rfl, (blk_cell BK159.out 3).trans rfl, (blk_cell BK159.out 4).trans rfl, (blk_cell BK159.out 5).trans rfl, (blk_cell BK159.out 6).trans rfl, (cT HB.out hw178_0), (cT HB.out hw178_1), (cT HB.out hw178_2), (cT HB.out hw178_3), (cT HB.out hw178_4), (cT HB.out hw178_5), (cT HB.out hw178_6), (cT HB.out hw178_7), (cT HB.out hw178_8), (cT HB.out hw178_9)⟩ (fun hHeld => ?_); refine with_tabW raft_Put.tab17 raft_Put.bits17 (fun HT_ HW_ => ?_)
                   (first | generalize wc.drew = w87 at HO_160002 BK159 BK160 HB HR178_5 hx178_0 hx178_1 hx178_2 hx178_3 hx178_4 hx178_5 hx178_6 hx178_7 hx178_8 hx178_9 hHeld ⊢ | generalize wc.drew = w87 at BK159 BK160 HB HR178_5 hx178_0 hx178_1 hx178_2 hx178_3 hx178_4 hx178_5 hx178_6 hx178_7 hx178_8 hx178_9 hHeld ⊢)
                   refine pu 0 (some 113) (bw 10 1) HT_.out (h := ?_)
                   refine pu 1 (some 114) (bw 10 3) HT_.out (h := ?_)
                   refine pu 2 (some 115) (bw 10 7) HT_.out (h := ?_)
                   refine pu 3 (some 116) (bw 10 15) HT_.out (h := ?_)
                   refine pu 5 (some 118) (bw 10 47) HT_.out (h := ?_)
                   refine tk 4 (some 117) (bw 10 63) HT_.out HW_.out hHeld (h := ?_)
                   refine tk 6 (some 119) (bw 10 127) HT_.out HW_.out hHeld (h := ?_)
                   refine pu 7 (some 120) (bw 10 255) HT_.out (h := ?_)
                   refine pu 8 (some 121) (bw 10 511) HT_.out (h := ?_)
                   refine pu 9 (some 11) (bw 10 1023) HT_.out (h := ?_)
                   refine done_ (done_of HT_.out (by kernel_rfl)) ?_
                   try go_wp2
                   have n0_ := Aside0.mk (Kd.N_drew HO_160002.out)
                   have n1_ := Aside0.mk (blk_drew BK159.out)
                   have n2_ := Aside0.mk (blk_drew BK160.out)
                   have n3_ := Aside0.mk (below_drew1 HB.out)
                   clear HO_160002
                   clear BK159
                   clear BK160
                   clear HB
                   have HO_160002 := n0_
                   have BK159 := n1_
                   have BK160 := n2_
                   have HB := n3_
                   clear n0_ n1_ n2_ n3_
                   have p179 : 0 ≤ (x10_43 : Int) := of_decide_eq_true pS
                   have q179 : x10_43 < (l1.length : Int) := of_decide_eq_true pS
                   obtain ⟨ad179, A179_5, c179_5, e179, hx179_0, hx179_1, hx179_2, hx179_3, hx179_4, hx179_5, hx179_6, hx179_7, hx179_8, hx179_9, hl179_5, hi179_5⟩ := at_T46 HR1.out x10_43 p179 q179
                   have hw179_9 := hx179_9
                   have hw179_8 := hx179_8
                   have hw179_7 := hx179_7
                   have hw179_6 := hx179_6
                   have hw179_5 := hx179_5
                   have hw179_4 := hx179_4
                   have hw179_3 := hx179_3
                   have hw179_2 := hx179_2
                   have hw179_1 := hx179_1
                   have hw179_0 := hx179_0
                   obtain rfl : ad165 = ad179 := (by injection e179)
                   replace hx179_0 := cU HB.out hx179_0
                   replace hx179_1 := cU HB.out hx179_1
                   replace hx179_2 := cU HB.out hx179_2
                   replace hx179_3 := cU HB.out hx179_3
                   replace hx179_4 := cU HB.out hx179_4
                   replace hx179_5 := cU HB.out hx179_5
                   replace hx179_6 := cU HB.out hx179_6
                   replace hx179_7 := cU HB.out hx179_7
                   replace hx179_8 := cU HB.out hx179_8
                   replace hx179_9 := cU HB.out hx179_9
                   have HR179_5 := Aside0.mk hi179_5
                   have HC179_5 := Aside0.mk hl179_5
                   clear hi179_5 hl179_5
                   replace p179 := eq_true p179
                   replace q179 := eq_true q179
                   refine start_ (n := 10) (S := fun w' => cG w' gb159 0 (.int .i64 a0_0) ∧ cG w' gb159 1 (.int .i64 a0_1) ∧ cG w' gb159 2 (.slice Ao51 t171.length co51) ∧ cG w' gb159 3 (.int .i64 a0_3) ∧ cG w' gb159 4 (.int .i64 a0_4) ∧ cG w' gb159 5 (.int .i64 a0_5) ∧ cG w' gb159 6 (.int .i64 a0_6) ∧ w'.cell? (ad165.add ((x10_43).toNat * 10)) = some (.int .i64 ((rd_T46 l1 x10_43).f0)) ∧ cA w' (ad165.add ((x10_43).toNat * 10)) 1 (.int .i64 ((rd_T46 l1 x10_43).f1)) ∧ cA w' (ad165.add ((x10_43).toNat * 10)) 2 (.int .i64 ((rd_T46 l1 x10_43).f2)) ∧ cA w' (ad165.add ((x10_43).toNat * 10)) 3 (.string ((rd_T46 l1 x10_43).f3)) ∧ cA w' (ad165.add ((x10_43).toNat * 10)) 4 (.bool ((rd_T46 l1 x10_43).f4.f0)) ∧ cA w' (ad165.add ((x10_43).toNat * 10)) 5 (.slice A179_5 ((rd_T46 l1 x10_43).f4.f1).length c179_5) ∧ cA w' (ad165.add ((x10_43).toNat * 10)) 6 (.int .i64 ((rd_T46 l1 x10_43).f4.f2.f0)) ∧ cA w' (ad165.add ((x10_43).toNat * 10)) 7 (.int .i64 ((rd_T46 l1 x10_43).f4.f2.f1)) ∧ cA w' (ad165.add ((x10_43).toNat * 10)) 8 (.int .i64 ((rd_T46 l1 x10_43).f4.f2.f2)) ∧ cA w' (ad165.add ((x10_43).toNat * 10)) 9 (.int .u32 ((rd_T46 l1 x10_43).f4.f2.f3))) (ds := []) #[false, false, false, false, false, false, false, false, false, false] (by kernel_rfl) rfl rfl ⟨(blk_cell BK159.out 0).trans rfl, (blk_cell BK159.out 1).trans rfl, (blk_cell BK159.out 2).trans rfl, (blk_cell BK159.out 3).trans rfl, (blk_cell BK159.out 4).trans rfl, (blk_cell BK159.out 5).trans rfl, (blk_cell BK159.out 6).trans rfl, (cT HB.out hw179_0), (cT HB.out hw179_1), (cT HB.out hw179_2), (cT HB.out hw179_3), (cT HB.out hw179_4), (cT HB.out hw179_5), (cT HB.out hw179_6), (cT HB.out hw179_7), (cT HB.out hw179_8), (cT HB.out hw179_9)⟩ (fun hHeld => ?_); refine with_tabW raft_Put.tab18 raft_Put.bits18 (fun HT_ HW_ => ?_)
                   (first | generalize w87.drew = w88 at HO_160002 BK159 BK160 HB HR179_5 hx179_0 hx179_1 hx179_2 hx179_3 hx179_4 hx179_5 hx179_6 hx179_7 hx179_8 hx179_9 hHeld ⊢ | generalize w87.drew = w88 at BK159 BK160 HB HR179_5 hx179_0 hx179_1 hx179_2 hx179_3 hx179_4 hx179_5 hx179_6 hx179_7 hx179_8 hx179_9 hHeld ⊢)
                   refine pu 0 (some 123) (bw 10 1) HT_.out (h := ?_)
                   refine pu 1 (some 124) (bw 10 3) HT_.out (h := ?_)
                   refine pu 2 (some 125) (bw 10 7) HT_.out (h := ?_)
                   refine pu 3 (some 126) (bw 10 15) HT_.out (h := ?_)
                   refine pu 5 (some 128) (bw 10 47) HT_.out (h := ?_)
                   refine pu 6 (some 129) (bw 10 111) HT_.out (h := ?_)
                   refine tk 4 (some 127) (bw 10 127) HT_.out HW_.out hHeld (h := ?_)
                   refine tk 7 (some 130) (bw 10 255) HT_.out HW_.out hHeld (h := ?_)
                   refine pu 8 (some 131) (bw 10 511) HT_.out (h := ?_)
                   refine pu 9 (some 122) (bw 10 1023) HT_.out (h := ?_)
                   refine done_ (done_of HT_.out (by kernel_rfl)) ?_
                   try go_wp2
                   have n0_ := Aside0.mk (Kd.N_drew HO_160002.out)
                   have n1_ := Aside0.mk (blk_drew BK159.out)
                   have n2_ := Aside0.mk (blk_drew BK160.out)
                   have n3_ := Aside0.mk (below_drew1 HB.out)
                   clear HO_160002
                   clear BK159
                   clear BK160
                   clear HB
                   have HO_160002 := n0_
                   have BK159 := n1_
                   have BK160 := n2_
                   have HB := n3_
                   clear n0_ n1_ n2_ n3_
                   have q90 : ((ji80) : Int) ≤ ((t171.length : Int) : Int) := of_decide_eq_true pS
                   obtain ⟨i090, hi090, _, hsz90, _⟩ := info_parts info46
                   have hcut90 := cut_to (P := Try.prog) 22 46 .i64 Try.underlying22 hi090 Ao51 t171.length co51 (ji80) (of_decide_eq_true pS) q90 (Kd.N_reads' HO_160002.out).2.1
                   have hr90 := Kd.N_take (m := ((ji80) : Int).toNat) HO_160002.out (by omega)
                   have hy90 : y180.length = ((ji80) : Int).toNat := (by rw [Ny180.out, List.length_take]; omega)
                   rw [← Ny180.out] at hr90
                   rw [← hy90] at hr90 hcut90
                   clear hy90 hi090 hsz90 HO_160002
                   have HO182 := Aside0.mk hr90
                   clear hr90
                   replace q90 := eq_true q90
                   have q91 : (x10_43 : Int) ≤ ((l1.length : Int) : Int) := of_decide_eq_true pS
                   obtain ⟨i091, hi091, _, hsz91, _⟩ := info_parts info46
                   have hroom91 : l1.length ≤ c1 := HC1.out
                   have hC91 : Kd.C k46 _ (some ad165) l1.length l1 := HR1.out
                   have q091 : (0 : Int) ≤ (x10_43 : Int) := of_decide_eq_true pS
                   have hcut91 := cut_from (P := Try.prog) 22 46 .i64 Try.underlying22 hi091 10 hsz91 (some ad165) l1.length c1 x10_43 q091 q91
                   have hr91 := Kd.C_drop (m := (x10_43 : Int).toNat) (c := c1) hC91 (by omega) hroom91
                   obtain ⟨A91, hA91⟩ : ∃ AX_, AX_ = (if c1 = (x10_43 : Int).toNat then (some ad165) else ((some ad165) : Option Addr).map (·.add ((x10_43 : Int).toNat * 10))) := ⟨_, rfl⟩
                   obtain ⟨c91, hc91⟩ : ∃ cX_, cX_ = c1 - (x10_43 : Int).toNat := ⟨_, rfl⟩
                   have hy91 : y183.length = l1.length - (x10_43 : Int).toNat := (by rw [Ny183.out, List.length_drop] <;> omega)
                   rw [show (l1).drop (x10_43 : Int).toNat = y183 from Ny183.out.symm] at hr91
                   replace hr91 : Kd.C k46 _ A91 y183.length y183 := (by rw [hA91]; exact hr91)
                   rw [← hy91, ← hA91, ← hc91] at hcut91
                   have HR186 := Aside0.mk hr91
                   have HC186 := Aside0.mk (show y183.length ≤ c91 from by rw [hy91, hc91]; exact Nat.sub_le_sub_right hroom91 _)
                   clear hr91 hC91 hroom91 hi091 hsz91 hc91
                   have KY91 := Aside0.mk hy91
                   have KA91 := Aside0.mk hA91
                   clear hy91 hA91
                   replace q91 := eq_true q91
                   refine start_ (n := 11) (S := fun w' => cG w' gb159 0 (.int .i64 a0_0) ∧ cG w' gb159 1 (.int .i64 a0_1) ∧ cG w' gb159 2 (.slice Ao51 t171.length co51) ∧ cG w' gb159 3 (.int .i64 a0_3) ∧ cG w' gb159 4 (.int .i64 a0_4) ∧ cG w' gb159 5 (.int .i64 a0_5) ∧ cG w' gb159 6 (.int .i64 a0_6)) (ds := [10]) #[false, false, false, false, false, false, false, false, false, false, false] (by kernel_rfl) rfl rfl ⟨(blk_cell BK159.out 0).trans rfl, (blk_cell BK159.out 1).trans rfl, (blk_cell BK159.out 2).trans rfl, (blk_cell BK159.out 3).trans rfl, (blk_cell BK159.out 4).trans rfl, (blk_cell BK159.out 5).trans rfl, (blk_cell BK159.out 6).trans rfl⟩ (fun hHeld => ?_); refine with_tabW raft_Put.tab22 raft_Put.bits22 (fun HT_ HW_ => ?_)
                   (first | generalize w88.drew = w89 at HO_160002 BK159 BK160 HB HO182 HR186 hHeld ⊢ | generalize w88.drew = w89 at BK159 BK160 HB HO182 HR186 hHeld ⊢)
                   refine pu 0 (some 142) (bw 11 1) HT_.out (h := ?_)
                   refine pu 2 (some 144) (bw 11 5) HT_.out (h := ?_)
                   refine pu 4 (some 146) (bw 11 21) HT_.out (h := ?_)
                   refine pu 5 (some 147) (bw 11 53) HT_.out (h := ?_)
                   refine pu 6 (some 148) (bw 11 117) HT_.out (h := ?_)
                   refine tk 1 (some 143) (bw 11 119) HT_.out HW_.out hHeld (h := ?_)
                   refine pu 3 (some 145) (bw 11 127) HT_.out (h := ?_)
                   refine one_ (i := 7) (N := some 149) (bw 11 255) rfl rfl (one_of HT_.out (by kernel_rfl)) (by decide) (fun K hK => ?_)
                   refine goes_ Try.func28 (by kernel_rfl) rfl #[.slice A91 y183.length c91] (by rfl) rfl rfl pL ?_
                   with_reducible refine (raft_owns.calls kj43 _ _ y183 t187 _ ?side1 ?side2 A85.out).mono ?_
                   (case side1 => exact pC (Kd.C_below HR186.out HB.out))
                   (case side2 => exact HC186.out)
                   rintro e w92 ⟨v188, rfl, ho0, hb⟩
                   refine ⟨_, rfl, ?_⟩
                   have n0_ := Aside0.mk (Kd.N_elder' (pN HO182.out) (Kd.N_base (Kd.S_N ho0)) hb)
                   have n1_ := Aside0.mk (Kd.N_lower (Kd.N_mono (ok' := fun k_ => (w.heap.size ≤ k_) ∧ some k_ ≠ (.slice Ao51 y180.length co51 : Value).ownBlock ∧ k_ ≠ gb159 ∧ k_ ≠ gb160) (Kd.S_N (Kd.S_bound ho0)) (fun k_ hk_ => ⟨(Nat.le_trans (below_size (pE2 HB.out GE159.out GE160.out)) hk_.2.1), (Kd.fresh' (Kd.N_lt (pN HO182.out)) k_ hk_.2.1), (kF BK159.out k_ hk_.2.1), (kF BK160.out k_ hk_.2.1)⟩)) (below_size (pE2 HB.out GE159.out GE160.out)))
                   have n2_ := Aside0.mk (kB BK159.out hb)
                   have n3_ := Aside0.mk (kB BK160.out hb)
                   have n4_ := Aside0.mk (below_step (pE2 HB.out GE159.out GE160.out) hb)
                   clear HO182
                   clear BK159
                   clear BK160
                   clear HB
                   have HO182 := n0_
                   have HO189 := n1_
                   have BK159 := n2_
                   have BK160 := n3_
                   have HB := n4_
                   clear n0_ n1_ n2_ n3_ n4_
                   (try clear hb)
                   (try clear hb2)
                   (try clear hk)
                   (try clear hi)
                   (try clear ho0)
                   obtain ⟨Ao94, co94, eo94⟩ := Kd.N_slice HO189.out
                   (first | subst eo94 | (injection eo94 with f1_ f2_ f3_; have f4_ := f1_.symm; have f5_ := f3_.symm; clear f1_ f2_ f3_; subst f4_; subst f5_))
                   refine hK.out _ _ ⟨(blk_cell BK159.out 0).trans rfl, (blk_cell BK159.out 1).trans rfl, (blk_cell BK159.out 2).trans rfl, (blk_cell BK159.out 3).trans rfl, (blk_cell BK159.out 4).trans rfl, (blk_cell BK159.out 5).trans rfl, (blk_cell BK159.out 6).trans rfl⟩ (fun hHeld => ?_)
                   clear hK K
                   refine norm_ (a' := ?_) ?_ ?_
                   rotate_left
                   ·show Act.put _ (some 149) _ = _
                    simp only [Act.put, List.setIfInBounds_toArray, List.set_cons_zero, List.set_cons_succ, i64_w, i32_w]
                    rfl
                   refine one_ (i := 8) (N := some 150) (bw 11 511) rfl rfl (one_of HT_.out (by kernel_rfl)) (by decide) (fun K hK => ?_)
                   refine Kd.N_append_rows_step k46 (w0 := w) w.heap.size (by rfl) (.tmp 145) (.tmp 149) 22 46 (.agg #[(.int .i64 0), (.int .i64 0), (.int .i64 0), (.string ⟨#[]⟩), (.bool false), (.slice none 0 0), (.int .i64 0), (.int .i64 0), (.int .i64 0), (.int .u32 0)]) 104 rfl Try.underlying22 info46 rfl (by decide) (by omega) (.slice Ao51 y180.length co51) y180 t187 _ _ _ (fun k_ => (w.heap.size ≤ k_) ∧ k_ ≠ gb159 ∧ k_ ≠ gb160) (fun k_ => ((fun k_ => (w.heap.size ≤ k_) ∧ k_ ≠ gb159 ∧ k_ ≠ gb160)) k_ ∧ some k_ ≠ (.slice Ao51 y180.length co51 : Value).ownBlock) rfl rfl ?aO ?aR (fun _ hk => hk) ?aF ?aB ?aS ?aL ?_
                   (case aR => exact (by skip; exact Kd.N_F (Kd.N_mono (ok' := (fun k_ => ((fun k_ => (w.heap.size ≤ k_) ∧ k_ ≠ gb159 ∧ k_ ≠ gb160)) k_ ∧ some k_ ≠ (.slice Ao51 y180.length co51 : Value).ownBlock)) (HO189.out) (fun k_ hk => ⟨⟨hk.1, ⟨hk.2.2.1, hk.2.2.2⟩⟩, hk.2.1⟩))))
                   (case aB => exact (pE2 HB.out GE159.out GE160.out))
                   (case aF => exact (fun k_ hk => ⟨(Nat.le_trans (below_size (pE2 HB.out GE159.out GE160.out)) hk), kF BK159.out k_ hk, kF BK160.out k_ hk⟩))
                   (case aO => exact (by (with_reducible repeat (first | apply Kd.N_alloc | apply Kd.N_drewN | apply Kd.N_drew)); exact Kd.N_mono HO182.out (fun _ hk => ⟨hk.1.1, ⟨hk.1.2.1, hk.1.2.2⟩⟩)))
                   (case aS => exact (below_size (pE2 HB.out GE159.out GE160.out)))
                   (case aL => have := LMc86.out; omega)
                   intro v191 w93 ho hb hg hat
                   rw [← Ny190.out] at ho
                   have n0_ := Aside0.mk (blk_grown (g := gb159) (o := .cells #[.int .i64 a0_0, .int .i64 a0_1, .slice Ao51 t171.length co51, .int .i64 a0_3, .int .i64 a0_4, .int .i64 a0_5, .int .i64 a0_6] 26 (0, 0)) (pK BK159.out) hg (Kd.N_ne HO182.out BK159.out (by decide)))
                   have n1_ := Aside0.mk (blk_grown (g := gb160) (o := .cells #[.int .i64 0, .int .i64 0, .slice none 0 0, .int .i64 0, .int .i64 0, .int .i64 0, .int .i64 0] 26 (0, 0)) (pK BK160.out) hg (Kd.N_ne HO182.out BK160.out (by decide)))
                   have n2_ := Aside0.mk (Kd.N_afterv (ok := (fun k_ => (w.heap.size ≤ k_) ∧ k_ ≠ gb159 ∧ k_ ≠ gb160)) (by (with_reducible repeat (first | apply Kd.N_alloc | apply Kd.N_drewN | apply Kd.N_drew)); exact Kd.N_mono HO189.out (fun _ hk => ⟨⟨hk.1, ⟨hk.2.2.1, hk.2.2.2⟩⟩, hk.2.1⟩)) hg hat)
                   have n3_ := Aside0.mk (hb)
                   have n4_ := Aside0.mk (ho)
                   clear BK159
                   clear BK160
                   clear HO189
                   clear HB
                   clear HO182
                   have BK159 := n0_
                   have BK160 := n1_
                   have HO189 := n2_
                   have HB := n3_
                   have HO192 := n4_
                   clear n0_ n1_ n2_ n3_ n4_
                   clear ho hb hg hat
                   obtain ⟨Ao95, co95, eo95⟩ := Kd.N_slice HO192.out
                   (first | subst eo95 | (injection eo95 with f1_ f2_ f3_; have f4_ := f1_.symm; have f5_ := f3_.symm; clear f1_ f2_ f3_; subst f4_; subst f5_))
                   refine hK.out _ _ ⟨(blk_cell BK159.out 0).trans rfl, (blk_cell BK159.out 1).trans rfl, (blk_cell BK159.out 2).trans rfl, (blk_cell BK159.out 3).trans rfl, (blk_cell BK159.out 4).trans rfl, (blk_cell BK159.out 5).trans rfl, (blk_cell BK159.out 6).trans rfl⟩ (fun hHeld => ?_)
                   clear hK K
                   refine norm_ (a' := ?_) ?_ ?_
                   rotate_left
                   ·show Act.put _ (some 150) _ = _
                    simp only [Act.put, List.setIfInBounds_toArray, List.set_cons_zero, List.set_cons_succ, i64_w, i32_w]
                    rfl
                   refine pu 9 (some 151) (bw 11 1023) HT_.out (h := ?_)
                   refine last_ (i := 10) (N := none) (bw 11 2047) rfl rfl (one_of HT_.out (by kernel_rfl)) (by decide) (fun K hK => ?_)
                   have hs96 : w93.cell? ⟨gb159, 2, none⟩ = some (.slice Ao51 t171.length co51) := (blk_cell BK159.out 2).trans rfl
                   have hfs96 := blk_frozen BK159.out 2
                   have hns96_1 := NB160_159.out
                   have hms96_1 := NB159_160.out
                   refine skip_ (w1 := ?_) (by rfl) rfl ?_ ?_
                   rotate_left
                   ·go_simp
                    rfl
                   refine hK.out _ _ ?_
                   clear hK K
                   refine done_ (done_of HT_.out (by kernel_rfl)) ?_
                   have hnb97 := NB159_160.out
                   have hnc97 := NB160_159.out
                   obtain ⟨hcz98_0, hcz98_1, hcz98_2, hcz98_3, hcz98_4, hcz98_5, hcz98_6⟩ := bc7 BK159.out
                   obtain ⟨hfz98_0, hfz98_1, hfz98_2, hfz98_3, hfz98_4, hfz98_5, hfz98_6⟩ := bf7 BK159.out
                   obtain ⟨hcz99_0, hcz99_1, hcz99_2, hcz99_3, hcz99_4, hcz99_5, hcz99_6⟩ := bc7 BK160.out
                   obtain ⟨hfz99_0, hfz99_1, hfz99_2, hfz99_3, hfz99_4, hfz99_5, hfz99_6⟩ := bf7 BK160.out
                   try go_wp2
                   refine bodyPost_ret (results_ct rfl _ _ gb160 26 #[.int .i64 a0_0, .int .i64 a0_1, .slice Ao95 y190.length co95, .int .i64 a0_3, .int .i64 a0_4, .int .i64 a0_5, .int .i64 a0_6] (0, 0) _ rfl (kX1 BK160.out NB160_159.out) Try.underlying26 rfl (by kernel_rfl)) rfl ?_
                   exact ⟨_, by first | rfl | (simp [errW_none, errW_some] <;> rfl) | (simp only [← hji80]; first | rfl | (simp [errW_none, errW_some] <;> rfl)) | (simp [*, errW_none, errW_some] <;> rfl), by (with_reducible repeat (first | apply Kd.N_alloc | apply Kd.N_drewN | apply Kd.N_drew)); exact Kd.N_mono (Nf7 (g := gb160) (Kd.N_far (p := ⟨gb159, 2, none⟩) (Kd.N_mono (Kd.N_mono HO192.out (fun k_ hk => (⟨hk, hk.2.1⟩ : _ ∧ k_ ≠ gb159))) (fun k_ hk => (⟨hk, hk.1.2.2⟩ : _ ∧ k_ ≠ gb160))) (fun _ hk => hk.1.2) (.slice Ao95 y190.length co95)) (fun _ hk => hk.2)) (fun _ hk => hk.1.1.1), pE2 HB.out GE159.out GE160.out⟩
                  ·rw [if_neg c86] at H
                   exact absurd H (by simp)
                 ·rw [if_neg c84] at H
                  exact absurd H (by simp)
                ·rw [if_neg c82] at H
                 exact absurd H (by simp)
               ·rw [if_neg c81] at H
                exact absurd H (by simp)
            ·rw [if_neg c69] at H
             exact absurd H (by simp)
           ·rw [if_neg c68] at H
            exact absurd H (by simp)
    ·rw [if_neg c27] at H
     exact absurd H (by simp)
end Go.Proofs.Ytinldhpdfomcjaa.PRaftParts
