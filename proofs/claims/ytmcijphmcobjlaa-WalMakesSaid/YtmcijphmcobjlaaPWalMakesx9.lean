/- What the law reaches, as plain Lean functions, and that the machine's calls answer just that. -/
import Derived.Test.YtmcijphmcobjlaaPWalMakesx0
import Derived.Test.YtmcijphmcobjlaaPWalMakesx5
import Derived.Test.YtmcijphmcobjlaaPWalMakesx8
namespace Go.Proofs.Ytmcijphmcobjlaa.PWalMakes
open Go.RowKit Go.Proofs.YtmcijphmcobjlaaW.PrintWords Go.Proofs.YtmcijphmcobjlaaW.PrintLast Go.Proofs.YtmcijphmcobjlaaW.PrintMore
attribute [local go_sem] max2_int min2_int max_two min_two max_three min_three max_four min_four
set_option linter.unusedVariables false
set_option linter.unusedSimpArgs false
attribute [local go_sem] wrap64_l1 wrap64_l2 wrap64_l3 wrap64_l4 wrap64_l5
mutual
def raft_Put.j0 : Nat → List (S54) → Int → Bool → Int → Int → List (S54) → Int → Int → Int → Int → Option (Int × Int × (List (S54)) × Int × Int × Int × Int × Int)
 | 0, _, _, _, _, _, _, _, _, _, _ => none
 | k + 1, x1, x6, x17, x185000, x185001, x185002, x185003, x185004, x185005, x185006 => if x17 = true then (some (0, 0, ([] : List (S54)), 0, 0, 0, 0, 1)) else (if 0 < (x1.length : Int) then (if ((rd_T54 x1 0).f0) ≤ x185000 then (some (0, 0, ([] : List (S54)), 0, 0, 0, 0, 4)) else (if ((rd_T54 x1 0).f0) > (wrap64 (x6 + 1)) then (some (0, 0, ([] : List (S54)), 0, 0, 0, 0, 5)) else ((raft_Term.f k x185000 x185001 x185002 x185003 x185004 x185005 x185006 (wrap64 (((rd_T54 x1 0).f0) - 1))).bind fun bt193 => (if ((rd_T54 x1 0).f1) < bt193.1 then (some (0, 0, ([] : List (S54)), 0, 0, 0, 0, 1)) else ((raft_owns.f k x185002).bind fun t196 => (raft_Put.l0 k x1 x6 0 x185000 x185001 t196 x185003 x185004 x185005 x185006)))))) else (none))
def raft_Put.j2 : Nat → List (S54) → Int → Int → Int → List (S54) → Int → Int → Int → Int → Option (Int × Int × (List (S54)) × Int × Int × Int × Int × Int)
 | 0, _, _, _, _, _, _, _, _, _ => none
 | k + 1, x1, x10, x185000, x185001, x185002, x185003, x185004, x185005, x185006 => if x10 = (x1.length : Int) then (some (x185000, x185001, x185002, x185003, x185004, x185005, x185006, 0)) else (if 0 ≤ x10 then (if x10 < (x1.length : Int) then (if ((rd_T54 x1 x10).f0) ≤ x185005 then (some (0, 0, ([] : List (S54)), 0, 0, 0, 0, 11)) else (if (wrap64 ((wrap64 ((wrap64 ((wrap64 (((rd_T54 x1 x10).f0) - x185000)) - 1)) + (x1.length : Int))) - x10)) > 1000 then (some (0, 0, ([] : List (S54)), 0, 0, 0, 0, 7)) else (if 0 ≤ (wrap64 ((wrap64 (((rd_T54 x1 x10).f0) - x185000)) - 1)) then (if (wrap64 ((wrap64 (((rd_T54 x1 x10).f0) - x185000)) - 1)) ≤ (x185002.length : Int) then ((some (x185002.take ((wrap64 ((wrap64 (((rd_T54 x1 x10).f0) - x185000)) - 1)) : Int).toNat : List (S54))).bind fun y205 => (if x10 ≤ (x1.length : Int) then ((raft_owns.f k (x1.drop (x10 : Int).toNat)).bind fun t212 => (if y205.length + t212.length < 1353245080339 then (some (x185000, x185001, (y205 ++ t212), x185003, x185004, x185005, x185006, 0)) else (none))) else (none))) else (none)) else (none)))) else (none)) else (none))
def raft_Put.l0 : Nat → List (S54) → Int → Int → Int → Int → List (S54) → Int → Int → Int → Int → Option (Int × Int × (List (S54)) × Int × Int × Int × Int × Int)
 | 0, _, _, _, _, _, _, _, _, _, _ => none
 | k + 1, x1, x6, x10, x185000, x185001, x185002, x185003, x185004, x185005, x185006 => if x10 < (x1.length : Int) then (if 0 ≤ x10 then (if ((rd_T54 x1 x10).f0) ≤ x6 then (if 0 ≤ (wrap64 ((wrap64 (((rd_T54 x1 x10).f0) - x185000)) - 1)) then (if (wrap64 ((wrap64 (((rd_T54 x1 x10).f0) - x185000)) - 1)) < (x185002.length : Int) then (if ((rd_T54 x185002 (wrap64 ((wrap64 (((rd_T54 x1 x10).f0) - x185000)) - 1))).f1) = ((rd_T54 x1 x10).f1) then (raft_Put.l0 k x1 x6 (wrap64 (x10 + 1)) x185000 x185001 x185002 x185003 x185004 x185005 x185006) else (raft_Put.j2 k x1 x10 x185000 x185001 x185002 x185003 x185004 x185005 x185006)) else (none)) else (none)) else (raft_Put.j2 k x1 x10 x185000 x185001 x185002 x185003 x185004 x185005 x185006)) else (none)) else (raft_Put.j2 k x1 x10 x185000 x185001 x185002 x185003 x185004 x185005 x185006)
end
def raft_Put.f (k : Nat) (a0_0 : Int) (a0_1 : Int) (l0_2 : List (S54)) (a0_3 : Int) (a0_4 : Int) (a0_5 : Int) (a0_6 : Int) (l1 : List (S54)) : Option (Int × Int × (List (S54)) × Int × Int × Int × Int × Int) := (raft_Last.f k a0_0 a0_1 l0_2 a0_3 a0_4 a0_5 a0_6).bind fun bt186 => ((raft_Check.f k a0_0 a0_1 l0_2 a0_3 a0_4 a0_5 a0_6).bind fun t188 => (if t188 = 0 then (if (l1.length : Int) = 0 then (raft_Put.j0 k l1 bt186.1 true a0_0 a0_1 l0_2 a0_3 a0_4 a0_5 a0_6) else ((raft_rows.f k l1).bind fun t189 => (raft_Put.j0 k l1 bt186.1 (!t189) a0_0 a0_1 l0_2 a0_3 a0_4 a0_5 a0_6))) else (raft_Put.j0 k l1 bt186.1 true a0_0 a0_1 l0_2 a0_3 a0_4 a0_5 a0_6)))
theorem raft_Put.mono_l : ∀ k, (∀ y0 y1 y2 y3 y4 y5 y6 y7 y8 y9, LeO (raft_Put.j0 k y0 y1 y2 y3 y4 y5 y6 y7 y8 y9) (raft_Put.j0 (k + 1) y0 y1 y2 y3 y4 y5 y6 y7 y8 y9)) ∧ (∀ y0 y1 y2 y3 y4 y5 y6 y7 y8, LeO (raft_Put.j2 k y0 y1 y2 y3 y4 y5 y6 y7 y8) (raft_Put.j2 (k + 1) y0 y1 y2 y3 y4 y5 y6 y7 y8)) ∧ (∀ y0 y1 y2 y3 y4 y5 y6 y7 y8 y9, LeO (raft_Put.l0 k y0 y1 y2 y3 y4 y5 y6 y7 y8 y9) (raft_Put.l0 (k + 1) y0 y1 y2 y3 y4 y5 y6 y7 y8 y9))
 | 0 => ⟨fun _ _ _ _ _ _ _ _ _ _ r h => by simp [raft_Put.j0] at h, fun _ _ _ _ _ _ _ _ _ r h => by simp [raft_Put.j2] at h, fun _ _ _ _ _ _ _ _ _ _ r h => by simp [raft_Put.l0] at h⟩
 | k + 1 => by
  obtain ⟨ih0, ih1, ih2⟩ := raft_Put.mono_l k
  refine ⟨?_, ?_, ?_⟩
  ·intro y0 y1 y2 y3 y4 y5 y6 y7 y8 y9
   unfold raft_Put.j0
   repeat' (with_reducible first | exact ih0 .. | exact ih1 .. | exact ih2 .. | exact raft_Check.mono .. | exact raft_Last.mono .. | exact raft_Term.mono .. | exact raft_owns.mono .. | exact raft_rows.mono .. | exact LeO.refl .. | exact LeO.none .. | refine LeO.ite ?_ ?_ | refine LeO.bind ?_ (fun _ => ?_))
  ·intro y0 y1 y2 y3 y4 y5 y6 y7 y8
   unfold raft_Put.j2
   repeat' (with_reducible first | exact ih0 .. | exact ih1 .. | exact ih2 .. | exact raft_Check.mono .. | exact raft_Last.mono .. | exact raft_Term.mono .. | exact raft_owns.mono .. | exact raft_rows.mono .. | exact LeO.refl .. | exact LeO.none .. | refine LeO.ite ?_ ?_ | refine LeO.bind ?_ (fun _ => ?_))
  ·intro y0 y1 y2 y3 y4 y5 y6 y7 y8 y9
   unfold raft_Put.l0
   repeat' (with_reducible first | exact ih0 .. | exact ih1 .. | exact ih2 .. | exact raft_Check.mono .. | exact raft_Last.mono .. | exact raft_Term.mono .. | exact raft_owns.mono .. | exact raft_rows.mono .. | exact LeO.refl .. | exact LeO.none .. | refine LeO.ite ?_ ?_ | refine LeO.bind ?_ (fun _ => ?_))
theorem raft_Put.mono : ∀ a0 a1 a2 a3 a4 a5 a6 a7 k, LeO (raft_Put.f k a0 a1 a2 a3 a4 a5 a6 a7) (raft_Put.f (k + 1) a0 a1 a2 a3 a4 a5 a6 a7) := by
 intro a0 a1 a2 a3 a4 a5 a6 a7 k
 obtain ⟨ih0, ih1, ih2⟩ := raft_Put.mono_l k
 unfold raft_Put.f
 repeat' (with_reducible first | exact ih0 .. | exact ih1 .. | exact ih2 .. | exact raft_Check.mono .. | exact raft_Last.mono .. | exact raft_Term.mono .. | exact raft_owns.mono .. | exact raft_rows.mono .. | exact LeO.refl .. | exact LeO.none .. | refine LeO.ite ?_ ?_ | refine LeO.bind ?_ (fun _ => ?_))
def raft_Put.T4 : Bool × List (List Nat × List Nat) := (true, [([], []), ([0], [0]), ([1], [1]), ([2], [2]), ([], []), ([4], [4]), ([3, 5], [3, 5]), ([6], [6])])
def raft_Put.B4 : List Nat := [0, 1, 3, 7, 0, 16, 63, 127]
theorem raft_Put.tab4 : rtab .any (opsOf Try.f48 4) = raft_Put.T4 := by kernel_rfl
theorem raft_Put.bits4 : waitsOk raft_Put.T4.2 raft_Put.B4 = true := by kernel_rfl
def raft_Put.T8 : Bool × List (List Nat × List Nat) := (true, [([], []), ([], []), ([1], [1]), ([2], [2]), ([3], [3]), ([4], [4]), ([0, 5], [0, 5]), ([6], [6]), ([7], [7]), ([7], [7]), ([8, 6, 0, 1, 2, 3, 4, 5, 6, 7, 8], [8]), ([9, 10, 0, 1, 2, 3, 4, 5, 6, 7, 8, 9, 10], [9])])
def raft_Put.B8 : List Nat := [0, 0, 2, 6, 14, 30, 63, 127, 255, 255, 511, 2047]
theorem raft_Put.tab8 : rtab .any (opsOf Try.f48 8) = raft_Put.T8 := by kernel_rfl
theorem raft_Put.bits8 : waitsOk raft_Put.T8.2 raft_Put.B8 = true := by kernel_rfl
def raft_Put.T13 : Bool × List (List Nat × List Nat) := (true, [([], []), ([], []), ([1], [1]), ([0, 2], [0, 2]), ([3], [3]), ([4], [4]), ([4], [4]), ([5, 6, 4], [4, 5, 6]), ([7, 4], [4, 7]), ([8, 4], [4, 8]), ([4], [4]), ([9, 10, 4], [4, 9, 10]), ([4, 11], [4, 11]), ([12, 4], [12]), ([13], [13]), ([14, 13], [13, 14]), ([13], [13]), ([13], [13]), ([16, 17, 13], [13, 16, 17]), ([18, 13], [13, 18]), ([19, 13], [13, 19]), ([13], [13]), ([21, 13], [13, 21]), ([20, 22, 13], [13, 20, 22]), ([23, 13], [13, 23]), ([15, 24, 13], [13, 15, 24]), ([25, 13], [13, 25]), ([26, 13], [13, 26]), ([13], [13]), ([13], [13]), ([28, 29, 13], [13, 28, 29]), ([30, 13], [13, 30]), ([31, 13], [13, 31]), ([27, 32, 13], [13, 27, 32]), ([13, 33], [13, 33])])
def raft_Put.B13 : List Nat := [0, 0, 2, 7, 15, 31, 31, 127, 255, 511, 31, 2047, 4095, 8191, 16383, 32767, 16383, 16383, 212991, 475135, 999423, 16383, 2113535, 8339455, 16728063, 33554431, 67108863, 134217727, 16383, 16383, 805322751, 1879064575, 4026548223, 8589934591, 17179869183]
theorem raft_Put.tab13 : rtab .any (opsOf Try.f48 13) = raft_Put.T13 := by kernel_rfl
theorem raft_Put.bits13 : waitsOk raft_Put.T13.2 raft_Put.B13 = true := by kernel_rfl
def raft_Put.T17 : Bool × List (List Nat × List Nat) := (true, [([], []), ([], []), ([0, 1], [0, 1]), ([2], [2]), ([3], [3]), ([], []), ([5], [5]), ([4, 6], [4, 6]), ([7], [7]), ([8, 0, 1, 2, 3, 4, 5, 6, 7, 8], [8])])
def raft_Put.B17 : List Nat := [0, 0, 3, 7, 15, 0, 32, 127, 255, 511]
theorem raft_Put.tab17 : rtab .any (opsOf Try.f48 17) = raft_Put.T17 := by kernel_rfl
theorem raft_Put.bits17 : waitsOk raft_Put.T17.2 raft_Put.B17 = true := by kernel_rfl
def raft_Put.T18 : Bool × List (List Nat × List Nat) := (true, [([], []), ([], []), ([0, 1], [0, 1]), ([2], [2]), ([3], [3]), ([], []), ([5], [5]), ([6], [6]), ([4, 7], [4, 7]), ([8], [8])])
def raft_Put.B18 : List Nat := [0, 0, 3, 7, 15, 0, 32, 96, 255, 511]
theorem raft_Put.tab18 : rtab .any (opsOf Try.f48 18) = raft_Put.T18 := by kernel_rfl
theorem raft_Put.bits18 : waitsOk raft_Put.T18.2 raft_Put.B18 = true := by kernel_rfl
def raft_Put.T22 : Bool × List (List Nat × List Nat) := (true, [([], []), ([0], [0]), ([], []), ([1, 2], [1, 2]), ([], []), ([], []), ([4, 5], [4, 5]), ([6], [6]), ([3, 7, 7], [3, 7]), ([0, 1, 2, 3, 4, 5, 6, 7, 8], []), ([9, 8, 8, 0, 1, 2, 3, 4, 5, 6, 7, 8], [8, 9])])
def raft_Put.B22 : List Nat := [0, 1, 0, 7, 0, 0, 48, 112, 255, 511, 1023]
theorem raft_Put.tab22 : rtab .any (opsOf Try.f48 22) = raft_Put.T22 := by kernel_rfl
theorem raft_Put.bits22 : waitsOk raft_Put.T22.2 raft_Put.B22 = true := by kernel_rfl
set_option maxHeartbeats 8000000 in
set_option maxRecDepth 100000 in
theorem raft_Put.calls (k : Nat) (a0_0 : Int) (a0_1 : Int) (A0_2 : Option Addr) (c0_2 : Nat) (l0_2 : List (S54)) (a0_3 : Int) (a0_4 : Int) (a0_5 : Int) (a0_6 : Int) (A1 : Option Addr) (c1 : Nat) (l1 : List (S54)) (r1 : Int) (r2 : Int) (r3 : List (S54)) (r4 : Int) (r5 : Int) (r6 : Int) (r7 : Int) (r8 : Int) (w : World) (hr0_2 : Kd.C k54 w A0_2 l0_2.length l0_2) (hc0_2 : l0_2.length ≤ c0_2) (hr1 : Kd.C k54 w A1 l1.length l1) (hc1 : l1.length ≤ c1) (h : raft_Put.f k a0_0 a0_1 l0_2 a0_3 a0_4 a0_5 a0_6 l1 = some (r1, r2, r3, r4, r5, r6, r7, r8)) :
 Calls Try.prog 48 #[.agg #[.int .i64 a0_0, .int .i64 a0_1, .slice A0_2 l0_2.length c0_2, .int .i64 a0_3, .int .i64 a0_4, .int .i64 a0_5, .int .i64 a0_6], .slice A1 l1.length c1] w fun e w' => ∃ v2_ : Value, e = .returned (.tuple #[.agg #[.int .i64 r1, .int .i64 r2, v2_, .int .i64 r4, .int .i64 r5, .int .i64 r6, .int .i64 r7], .int .i64 r8]) ∧ Kd.N k54 54 w' w.heap.size (fun k_ => (w.heap.size ≤ k_)) v2_ r3 ∧ Below w.heap.size w w' := by
 have hu26 := Try.underlying26
 have Eh := Am hr0_2
 have Ei := Am hc0_2
 clear hr0_2 hc0_2
 have HR1 := Am hr1
 have HC1 := Am hc1
 clear hr1 hc1
 have HB := Am (Below.refl w.heap.size w)
 unfold raft_Put.f at h
 have H := h
 clear h
 obtain ⟨⟨t186, t187⟩, A3, H⟩ := zb H
 dsimp only at H
 have HC4 := Am H
 clear H
 go_enter Try.func48, Try.ntmps48
 go_upto_region 2 with (first | ((with_reducible refine zD 2 rfl ?_); (try (refine gate_guard (by rfl) ?_; dsimp only)); refine zE 2 #[.int .i64 a0_0, .int .i64 a0_1, .slice A0_2 l0_2.length c0_2, .int .i64 a0_3, .int .i64 a0_4, .int .i64 a0_5, .int .i64 a0_6] 26 ?_; intro Aq hg w5 hbox hb; have Aa := Am (hbox); have Kj := zA hg HB; replace HB := zB HB hb; have At := Kj; clear hb hbox hg) | ((with_reducible refine zD 4 rfl ?_); (try (refine gate_guard (by rfl) ?_; dsimp only)); refine zE 4 #[.int .i64 0, .int .i64 0, .slice none 0 0, .int .i64 0, .int .i64 0, .int .i64 0, .int .i64 0] 26 ?_; intro A9 hg w6 hbox hb; have Ab := Am (hbox); have Kk := zY1 hg HB At.out; replace HB := zX1 HB At.out hb; have Aw := Kk; have Au := Am (zN hg (kL Aa.out)); have As := Am (zM hg (kL Aa.out)); replace Aa := kBa Aa hb; clear hb hbox hg; have hnb7 := Au.out; have hnc7 := As.out; obtain ⟨Js, Jt, Ju, Jv, Jw, Jx, Jy⟩ := bc7 Aa.out; obtain ⟨Jz, J0, J1, J2, J3, J4, J5⟩ := bf7 Aa.out) | ((with_reducible refine zC 63 rfl ?_); refine zL (some 14) Try.func63 #[.agg #[.int .i64 a0_0, .int .i64 a0_1, .slice A0_2 l0_2.length c0_2, .int .i64 a0_3, .int .i64 a0_4, .int .i64 a0_5, .int .i64 a0_6]] ?_; (with_reducible refine (raft_Last.calls k a0_0 a0_1 _ _ l0_2 a0_3 a0_4 a0_5 a0_6 t186 t187 _ ?Bn ?Bo A3.out).mono ?_); (case Bn => exact pC (Kd.C_below Eh.out HB.out)); (case Bo => exact Ei.out); rintro e w9 ⟨rfl, hb⟩; refine ⟨_, rfl, ?_⟩; replace Aa := kBa Aa hb; replace Ab := kBa Ab hb; replace HB := zX2 HB At.out Aw.out hb; (try clear hb)))
 (try simp only [Act.put, List.setIfInBounds_toArray, List.set_cons_zero, List.set_cons_succ])
 go_cut [17] (fun v17 wc => ∃ (kq : Nat) (E4 : Bool), v17 = .bool E4 ∧ Aside0 (raft_Put.j0 kq l1 t186 E4 a0_0 a0_1 l0_2 a0_3 a0_4 a0_5 a0_6 = some (r1, r2, r3, r4, r5, r6, r7, r8)) ∧ Aside0 (kq ≤ k) ∧ Aside0 (wc.heap[Aq]? = some (.cells #[.int .i64 a0_0, .int .i64 a0_1, (.slice A0_2 l0_2.length c0_2), .int .i64 a0_3, .int .i64 a0_4, .int .i64 a0_5, .int .i64 a0_6] 26 (0, 0))) ∧ Aside0 (wc.heap[A9]? = some (.cells #[.int .i64 0, .int .i64 0, (.slice none 0 0), .int .i64 0, .int .i64 0, .int .i64 0, .int .i64 0] 26 (0, 0))) ∧ Aside0 (Below w.heap.size w wc))
 case first =>
  have H := HC4.out
  clear HC4
  obtain ⟨t188, A10, H⟩ := zb H
  by_cases c11 : t188 = 0
  rotate_left
  ·rw [if_neg c11] at H
   obtain ⟨c11b0, c11b1⟩ := zk c11
   (first | rw [c11b0] | (simp only [i64_w, i32_w]; rw [c11b0]) | skip)
   have H' := Am H
   clear H
   have hnb21 := Au.out
   have hnc21 := As.out
   obtain ⟨He, Hf, Hg, Hh, Hi, Hj, Hk⟩ := bc7 Aa.out
   obtain ⟨Hl, Hm, Hn, Ho, Hp, Hq, Hr⟩ := bf7 Aa.out
   go_wp2_with (first | ((with_reducible refine zC 24 rfl ?_); refine zL (some 19) Try.func24 #[.agg #[.int .i64 a0_0, .int .i64 a0_1, .slice A0_2 l0_2.length c0_2, .int .i64 a0_3, .int .i64 a0_4, .int .i64 a0_5, .int .i64 a0_6]] ?_; (with_reducible refine (raft_Check.calls k a0_0 a0_1 _ _ l0_2 a0_3 a0_4 a0_5 a0_6 t188 _ ?Bn ?Bo A10.out).mono ?_); (case Bn => exact pC (Kd.C_below Eh.out HB.out)); (case Bo => exact Ei.out); rintro e w23 ⟨rfl, hb⟩; refine ⟨_, rfl, ?_⟩; replace Aa := kBa Aa hb; replace Ab := kBa Ab hb; replace HB := zX2 HB At.out Aw.out hb; (try clear hb)))
   go_meet
   case rel => exact ⟨_, (true), zr, H', ⟨zo⟩, ⟨pK Aa.out⟩, ⟨pK Ab.out⟩, ⟨pE2 HB.out At.out Aw.out⟩⟩
  rw [if_pos c11] at H
  obtain ⟨c11b0, c11b1⟩ := zc c11
  clear c11
  (first | rw [c11b0] | (simp only [i64_w, i32_w]; rw [c11b0]) | skip)
  by_cases c12 : (l1.length : Int) = 0
  ·rw [if_pos c12] at H
   obtain ⟨c12b0, c12b1⟩ := zc c12
   clear c12
   have H' := Am H
   clear H
   have hnb13 := Au.out
   have hnc13 := As.out
   obtain ⟨Gm, Gn, Go, Gp, Gq, Gr, Gs⟩ := bc7 Aa.out
   obtain ⟨Gt, Gu, Gv, Gw, Gx, Gy, Gz⟩ := bf7 Aa.out
   go_wp2_with (first | ((with_reducible refine zC 24 rfl ?_); refine zL (some 19) Try.func24 #[.agg #[.int .i64 a0_0, .int .i64 a0_1, .slice A0_2 l0_2.length c0_2, .int .i64 a0_3, .int .i64 a0_4, .int .i64 a0_5, .int .i64 a0_6]] ?_; (with_reducible refine (raft_Check.calls k a0_0 a0_1 _ _ l0_2 a0_3 a0_4 a0_5 a0_6 t188 _ ?Bn ?Bo A10.out).mono ?_); (case Bn => exact pC (Kd.C_below Eh.out HB.out)); (case Bo => exact Ei.out); rintro e w15 ⟨rfl, hb⟩; refine ⟨_, rfl, ?_⟩; replace Aa := kBa Aa hb; replace Ab := kBa Ab hb; replace HB := zX2 HB At.out Aw.out hb; (try clear hb)))
   go_meet
   case rel => exact ⟨_, (true), zr, H', ⟨zo⟩, ⟨pK Aa.out⟩, ⟨pK Ab.out⟩, ⟨pE2 HB.out At.out Aw.out⟩⟩
  rw [if_neg c12] at H
  obtain ⟨c12b0, c12b1⟩ := zk c12
  have c12b2 : ¬ (l1 = []) := fun h_ => c12 (by rw [h_]; rfl)
  obtain ⟨t189, A16, H⟩ := zb H
  have H' := Am H
  clear H
  have hnb17 := Au.out
  have hnc17 := As.out
  obtain ⟨G0, G1, G2, G3, G4, G5, G6⟩ := bc7 Aa.out
  obtain ⟨G7, G8, G9, Ha, Hb, Hc, Hd⟩ := bf7 Aa.out
  go_wp2_with (first | ((with_reducible refine zC 24 rfl ?_); refine zL (some 19) Try.func24 #[.agg #[.int .i64 a0_0, .int .i64 a0_1, .slice A0_2 l0_2.length c0_2, .int .i64 a0_3, .int .i64 a0_4, .int .i64 a0_5, .int .i64 a0_6]] ?_; (with_reducible refine (raft_Check.calls k a0_0 a0_1 _ _ l0_2 a0_3 a0_4 a0_5 a0_6 t188 _ ?Bn ?Bo A10.out).mono ?_); (case Bn => exact pC (Kd.C_below Eh.out HB.out)); (case Bo => exact Ei.out); rintro e w19 ⟨rfl, hb⟩; refine ⟨_, rfl, ?_⟩; replace Aa := kBa Aa hb; replace Ab := kBa Ab hb; replace HB := zX2 HB At.out Aw.out hb; (try clear hb)) | (go_at_call 44; (with_reducible refine (raft_rows.calls k _ _ l1 t189 _ ?Bn ?Bo A16.out).mono ?_); (case Bn => exact pC (Kd.C_below HR1.out HB.out)); (case Bo => exact HC1.out); rintro e w20 ⟨rfl, hb⟩; replace Aa := kBa Aa hb; replace Ab := kBa Ab hb; replace HB := zX2 HB At.out Aw.out hb; (try clear hb)))
  go_meet
  case rel => exact ⟨_, (!t189), zr, H', ⟨zo⟩, ⟨pK Aa.out⟩, ⟨pK Ab.out⟩, ⟨pE2 HB.out At.out Aw.out⟩⟩
 case rest =>
  clear HC4
  try clear c1
  try clear c2
  try clear p2
  try clear c4
  try clear c6
  try clear c7
  try clear c11
  try clear c11b0
  try clear c11b1
  try clear c12
  try clear c12b0
  try clear c12b1
  try clear c12b2
  try clear c13
  try clear c17
  try clear c21
  try clear Gm Gn Go Gp Gq Gr Gs
  try clear G0 G1 G2 G3 G4 G5 G6
  try clear He Hf Hg Hh Hi Hj Hk
  try clear Js Jt Ju Jv Jw Jx Jy
  try clear Gt Gu Gv Gw Gx Gy Gz
  try clear G7 G8 G9 Ha Hb Hc Hd
  try clear Hl Hm Hn Ho Hp Hq Hr
  try clear Jz J0 J1 J2 J3 J4 J5
  obtain ⟨kq, E4, rfl, HA, HJ3, Aa, Ab, HB⟩ := hcut
  cases kq with
  | zero => exact absurd HA.out (by simp [raft_Put.j0])
  | succ kj3 =>
   have H := HA.out
   clear HA
   simp only [raft_Put.j0] at H
   by_cases c24 : E4 = true
   ·subst c24
    rw [if_pos rfl] at H
    simp only [Option.some.injEq, Prod.mk.injEq] at H
    obtain ⟨rfl, rfl, rfl, rfl, rfl, rfl, rfl, rfl⟩ := H
    have hnb25 := As.out
    have hnc25 := Au.out
    obtain ⟨_, _, _, _, _, _, _⟩ := bc7 Ab.out
    obtain ⟨_, _, _, _, _, _, _⟩ := bf7 Ab.out
    go_wp2
    refine bodyPost_ret (results_ct rfl _ _ A9 26 #[.int .i64 0, .int .i64 0, .slice none 0 0, .int .i64 0, .int .i64 0, .int .i64 0, .int .i64 0] (0, 0) _ rfl (kX0 Ab.out) Try.underlying26 rfl (by kernel_rfl)) rfl ?_
    exact ⟨_, pX, zn, pE2 HB.out At.out Aw.out⟩
   replace c24 := Bool.eq_false_iff.mpr c24
   subst c24
   rw [if_neg zF] at H
   obtain ⟨c27, H⟩ := zI H
   have c27b0 := decide_eq_true c27
   have c27b1 : decide (0 < l1.length) = true := decide_eq_true (by omega)
   clear c27
   by_cases c28 : ((rd_T54 l1 0).f0) ≤ a0_0
   ·rw [if_pos c28] at H
    have c28b0 := decide_eq_true c28
    clear c28
    simp only [Option.some.injEq, Prod.mk.injEq] at H
    obtain ⟨rfl, rfl, rfl, rfl, rfl, rfl, rfl, rfl⟩ := H
    try go_wp2
    replace Aa := kDa Aa
    replace Ab := kDa Ab
    replace HB := bDa HB
    have p190 : 0 ≤ (0 : Int) := (by omega)
    have q190 : 0 < (l1.length : Int) := of_decide_eq_true pS
    obtain ⟨Ar, E3, c190_5, e190, Ag, Ah, Ai, Aj, Ak, Ae, Al, An, Ao, Ap, Bk, Bl⟩ := at_T54 HR1.out 0 p190 q190
    have Ba := Ap
    (try simp only [tz, show 0 * 10 = 0 from rfl, Addr.add_zero'] at Ba)
    have Bb := Ao
    (try simp only [tz, show 0 * 10 = 0 from rfl, Addr.add_zero'] at Bb)
    have Bc := An
    (try simp only [tz, show 0 * 10 = 0 from rfl, Addr.add_zero'] at Bc)
    have Bd := Al
    (try simp only [tz, show 0 * 10 = 0 from rfl, Addr.add_zero'] at Bd)
    have Be := Ae
    (try simp only [tz, show 0 * 10 = 0 from rfl, Addr.add_zero'] at Be)
    have Bf := Ak
    (try simp only [tz, show 0 * 10 = 0 from rfl, Addr.add_zero'] at Bf)
    have Bg := Aj
    (try simp only [tz, show 0 * 10 = 0 from rfl, Addr.add_zero'] at Bg)
    have Bh := Ai
    (try simp only [tz, show 0 * 10 = 0 from rfl, Addr.add_zero'] at Bh)
    have Bi := Ah
    (try simp only [tz, show 0 * 10 = 0 from rfl, Addr.add_zero'] at Bi)
    have Av := Ag
    (try simp only [tz, show 0 * 10 = 0 from rfl, Addr.add_zero'] at Av)
    cases e190
    have qi190 : (0 < l1.length) = True := eq_true (by omega)
    (try simp only [tz, show 0 * 10 = 0 from rfl, Addr.add_zero'] at Ag Ah Ai Aj Ak Ae Al An Ao Ap)
    replace Ag := cU HB.out Ag
    replace Ah := cU HB.out Ah
    replace Ai := cU HB.out Ai
    replace Aj := cU HB.out Aj
    replace Ak := cU HB.out Ak
    replace Ae := cU HB.out Ae
    replace Al := cU HB.out Al
    replace An := cU HB.out An
    replace Ao := cU HB.out Ao
    replace Ap := cU HB.out Ap
    have Ct := Am Bl
    have Ek := Am Bk
    clear Bl Bk
    replace p190 := eq_true p190
    replace q190 := eq_true q190
    refine start_ (n := 8) (S := fun w' => cG w' Aq 0 (.int .i64 a0_0) ∧ w'.cell? Ar = some (.int .i64 ((rd_T54 l1 0).f0))) (ds := []) #[false, false, false, false, false, false, false, false] (by kernel_rfl) rfl rfl ⟨(blk_cell Aa.out 0).trans rfl, (cT HB.out Av)⟩ (fun hHeld => ?_); refine with_tabW raft_Put.tab4 raft_Put.bits4 (fun HT_ HW_ => ?_)
    generalize wc.drew = w29 at Aa Ab HB Ct Ag Ah Ai Aj Ak Ae Al An Ao Ap hHeld ⊢
    refine pui 0 33 8 1 HT_ ?_
    refine zp 1 (h := zp 2 (h := zp 4 (h := zw 3 (h := zw 5 (h := zp 6 (h := zp 7 (h := ?_)))))))
    refine done_ (done_of HT_.out (by kernel_rfl)) ?_
    have hnb30 := As.out
    have hnc30 := Au.out
    obtain ⟨_, _, _, _, _, _, _⟩ := bc7 Ab.out
    obtain ⟨_, _, _, _, _, _, _⟩ := bf7 Ab.out
    try go_wp2
    refine bodyPost_ret (results_ct rfl _ _ A9 26 #[.int .i64 0, .int .i64 0, .slice none 0 0, .int .i64 0, .int .i64 0, .int .i64 0, .int .i64 0] (0, 0) _ rfl (kX0 Ab.out) Try.underlying26 rfl (by kernel_rfl)) rfl ?_
    exact ⟨_, pX, zn, pE2 HB.out At.out Aw.out⟩
   rw [if_neg c28] at H
   have c28b0 := decide_eq_false c28
   clear c28
   by_cases c32 : ((rd_T54 l1 0).f0) > (wrap64 (t186 + 1))
   ·rw [if_pos c32] at H
    have c32b0 : decide ((wrap64 (t186 + 1)) < ((rd_T54 l1 0).f0)) = true := decide_eq_true c32
    clear c32
    simp only [Option.some.injEq, Prod.mk.injEq] at H
    obtain ⟨rfl, rfl, rfl, rfl, rfl, rfl, rfl, rfl⟩ := H
    try go_wp2
    replace Aa := kDa Aa
    replace Ab := kDa Ab
    replace HB := bDa HB
    have p190 : 0 ≤ (0 : Int) := (by omega)
    have q190 : 0 < (l1.length : Int) := of_decide_eq_true pS
    obtain ⟨Ar, E3, c190_5, e190, Ag, Ah, Ai, Aj, Ak, Ae, Al, An, Ao, Ap, Bk, Bl⟩ := at_T54 HR1.out 0 p190 q190
    have Ba := Ap
    (try simp only [tz, show 0 * 10 = 0 from rfl, Addr.add_zero'] at Ba)
    have Bb := Ao
    (try simp only [tz, show 0 * 10 = 0 from rfl, Addr.add_zero'] at Bb)
    have Bc := An
    (try simp only [tz, show 0 * 10 = 0 from rfl, Addr.add_zero'] at Bc)
    have Bd := Al
    (try simp only [tz, show 0 * 10 = 0 from rfl, Addr.add_zero'] at Bd)
    have Be := Ae
    (try simp only [tz, show 0 * 10 = 0 from rfl, Addr.add_zero'] at Be)
    have Bf := Ak
    (try simp only [tz, show 0 * 10 = 0 from rfl, Addr.add_zero'] at Bf)
    have Bg := Aj
    (try simp only [tz, show 0 * 10 = 0 from rfl, Addr.add_zero'] at Bg)
    have Bh := Ai
    (try simp only [tz, show 0 * 10 = 0 from rfl, Addr.add_zero'] at Bh)
    have Bi := Ah
    (try simp only [tz, show 0 * 10 = 0 from rfl, Addr.add_zero'] at Bi)
    have Av := Ag
    (try simp only [tz, show 0 * 10 = 0 from rfl, Addr.add_zero'] at Av)
    cases e190
    have qi190 : (0 < l1.length) = True := eq_true (by omega)
    (try simp only [tz, show 0 * 10 = 0 from rfl, Addr.add_zero'] at Ag Ah Ai Aj Ak Ae Al An Ao Ap)
    replace Ag := cU HB.out Ag
    replace Ah := cU HB.out Ah
    replace Ai := cU HB.out Ai
    replace Aj := cU HB.out Aj
    replace Ak := cU HB.out Ak
    replace Ae := cU HB.out Ae
    replace Al := cU HB.out Al
    replace An := cU HB.out An
    replace Ao := cU HB.out Ao
    replace Ap := cU HB.out Ap
    have Ct := Am Bl
    have Ek := Am Bk
    clear Bl Bk
    replace p190 := eq_true p190
    replace q190 := eq_true q190
    refine start_ (n := 8) (S := fun w' => cG w' Aq 0 (.int .i64 a0_0) ∧ w'.cell? Ar = some (.int .i64 ((rd_T54 l1 0).f0))) (ds := []) #[false, false, false, false, false, false, false, false] (by kernel_rfl) rfl rfl ⟨(blk_cell Aa.out 0).trans rfl, (cT HB.out Av)⟩ (fun hHeld => ?_); refine with_tabW raft_Put.tab4 raft_Put.bits4 (fun HT_ HW_ => ?_)
    generalize wc.drew = w33 at Aa Ab HB Ct Ag Ah Ai Aj Ak Ae Al An Ao Ap hHeld ⊢
    refine pui 0 33 8 1 HT_ ?_
    refine zp 1 (h := zp 2 (h := zp 4 (h := zw 3 (h := zw 5 (h := zp 6 (h := zp 7 (h := ?_)))))))
    refine done_ (done_of HT_.out (by kernel_rfl)) ?_
    have p191 : 0 ≤ (0 : Int) := (by omega)
    have q191 : 0 < (l1.length : Int) := of_decide_eq_true pS
    obtain ⟨Ez, Gh, c191_5, e191, El, Em, En, Eo, Ep, C7, Er, Es, Et, Eu, By, Bz⟩ := at_T54uz HR1.out p191 q191 HB.out
    obtain rfl : Ar = Ez := (by injection e191)
    have qi191 : (0 < l1.length) = True := eq_true (by omega)
    have E6 := Am Bz
    have E7 := Am By
    clear Bz By
    replace p191 := eq_true p191
    replace q191 := eq_true q191
    have ea_ := Option.some.inj (Ae.symm.trans C7)
    injection ea_ with ea_ en_ ec_
    subst ea_
    subst ec_
    clear en_
    have hnb34 := As.out
    have hnc34 := Au.out
    obtain ⟨_, _, _, _, _, _, _⟩ := bc7 Ab.out
    obtain ⟨_, _, _, _, _, _, _⟩ := bf7 Ab.out
    try go_wp2
    refine bodyPost_ret (results_ct rfl _ _ A9 26 #[.int .i64 0, .int .i64 0, .slice none 0 0, .int .i64 0, .int .i64 0, .int .i64 0, .int .i64 0] (0, 0) _ rfl (kX0 Ab.out) Try.underlying26 rfl (by kernel_rfl)) rfl ?_
    exact ⟨_, pX, zn, pE2 HB.out At.out Aw.out⟩
   rw [if_neg c32] at H
   have c32b0 : decide ((wrap64 (t186 + 1)) < ((rd_T54 l1 0).f0)) = false := decide_eq_false c32
   clear c32
   obtain ⟨⟨t193, t194⟩, A36, H⟩ := zb H
   dsimp only at H
   by_cases c37 : ((rd_T54 l1 0).f1) < t193
   ·rw [if_pos c37] at H
    have c37b0 := decide_eq_true c37
    clear c37
    simp only [Option.some.injEq, Prod.mk.injEq] at H
    obtain ⟨rfl, rfl, rfl, rfl, rfl, rfl, rfl, rfl⟩ := H
    try go_wp2
    replace Aa := kDa Aa
    replace Ab := kDa Ab
    replace HB := bDa HB
    have p190 : 0 ≤ (0 : Int) := (by omega)
    have q190 : 0 < (l1.length : Int) := of_decide_eq_true pS
    obtain ⟨Ar, E3, c190_5, e190, Ag, Ah, Ai, Aj, Ak, Ae, Al, An, Ao, Ap, Bk, Bl⟩ := at_T54 HR1.out 0 p190 q190
    have Ba := Ap
    (try simp only [tz, show 0 * 10 = 0 from rfl, Addr.add_zero'] at Ba)
    have Bb := Ao
    (try simp only [tz, show 0 * 10 = 0 from rfl, Addr.add_zero'] at Bb)
    have Bc := An
    (try simp only [tz, show 0 * 10 = 0 from rfl, Addr.add_zero'] at Bc)
    have Bd := Al
    (try simp only [tz, show 0 * 10 = 0 from rfl, Addr.add_zero'] at Bd)
    have Be := Ae
    (try simp only [tz, show 0 * 10 = 0 from rfl, Addr.add_zero'] at Be)
    have Bf := Ak
    (try simp only [tz, show 0 * 10 = 0 from rfl, Addr.add_zero'] at Bf)
    have Bg := Aj
    (try simp only [tz, show 0 * 10 = 0 from rfl, Addr.add_zero'] at Bg)
    have Bh := Ai
    (try simp only [tz, show 0 * 10 = 0 from rfl, Addr.add_zero'] at Bh)
    have Bi := Ah
    (try simp only [tz, show 0 * 10 = 0 from rfl, Addr.add_zero'] at Bi)
    have Av := Ag
    (try simp only [tz, show 0 * 10 = 0 from rfl, Addr.add_zero'] at Av)
    cases e190
    have qi190 : (0 < l1.length) = True := eq_true (by omega)
    (try simp only [tz, show 0 * 10 = 0 from rfl, Addr.add_zero'] at Ag Ah Ai Aj Ak Ae Al An Ao Ap)
    replace Ag := cU HB.out Ag
    replace Ah := cU HB.out Ah
    replace Ai := cU HB.out Ai
    replace Aj := cU HB.out Aj
    replace Ak := cU HB.out Ak
    replace Ae := cU HB.out Ae
    replace Al := cU HB.out Al
    replace An := cU HB.out An
    replace Ao := cU HB.out Ao
    replace Ap := cU HB.out Ap
    have Ct := Am Bl
    have Ek := Am Bk
    clear Bl Bk
    replace p190 := eq_true p190
    replace q190 := eq_true q190
    refine start_ (n := 8) (S := fun w' => cG w' Aq 0 (.int .i64 a0_0) ∧ w'.cell? Ar = some (.int .i64 ((rd_T54 l1 0).f0))) (ds := []) #[false, false, false, false, false, false, false, false] (by kernel_rfl) rfl rfl ⟨(blk_cell Aa.out 0).trans rfl, (cT HB.out Av)⟩ (fun hHeld => ?_); refine with_tabW raft_Put.tab4 raft_Put.bits4 (fun HT_ HW_ => ?_)
    generalize wc.drew = w38 at Aa Ab HB Ct Ag Ah Ai Aj Ak Ae Al An Ao Ap hHeld ⊢
    refine pui 0 33 8 1 HT_ ?_
    refine zp 1 (h := zp 2 (h := zp 4 (h := zw 3 (h := zw 5 (h := zp 6 (h := zp 7 (h := ?_)))))))
    refine done_ (done_of HT_.out (by kernel_rfl)) ?_
    have p191 : 0 ≤ (0 : Int) := (by omega)
    have q191 : 0 < (l1.length : Int) := of_decide_eq_true pS
    obtain ⟨Ez, Gh, c191_5, e191, El, Em, En, Eo, Ep, C7, Er, Es, Et, Eu, By, Bz⟩ := at_T54uz HR1.out p191 q191 HB.out
    obtain rfl : Ar = Ez := (by injection e191)
    have qi191 : (0 < l1.length) = True := eq_true (by omega)
    have E6 := Am Bz
    have E7 := Am By
    clear Bz By
    replace p191 := eq_true p191
    replace q191 := eq_true q191
    have ea_ := Option.some.inj (Ae.symm.trans C7)
    injection ea_ with ea_ en_ ec_
    subst ea_
    subst ec_
    clear en_
    try go_wp2
    replace Aa := kDa Aa
    replace Ab := kDa Ab
    replace HB := bDa HB
    have p192 : 0 ≤ (0 : Int) := (by omega)
    have q192 : 0 < (l1.length : Int) := of_decide_eq_true pS
    obtain ⟨Gd, J6, c192_5, e192, Ax, Ay, Az, A0, A2, A4, A5, A6, A7, A8, Db, Dc⟩ := at_T54 HR1.out 0 p192 q192
    have Cu := A8
    (try simp only [tz, show 0 * 10 = 0 from rfl, Addr.add_zero'] at Cu)
    have Cv := A7
    (try simp only [tz, show 0 * 10 = 0 from rfl, Addr.add_zero'] at Cv)
    have Cw := A6
    (try simp only [tz, show 0 * 10 = 0 from rfl, Addr.add_zero'] at Cw)
    have Cx := A5
    (try simp only [tz, show 0 * 10 = 0 from rfl, Addr.add_zero'] at Cx)
    have Cy := A4
    (try simp only [tz, show 0 * 10 = 0 from rfl, Addr.add_zero'] at Cy)
    have Cz := A2
    (try simp only [tz, show 0 * 10 = 0 from rfl, Addr.add_zero'] at Cz)
    have C0 := A0
    (try simp only [tz, show 0 * 10 = 0 from rfl, Addr.add_zero'] at C0)
    have C1 := Az
    (try simp only [tz, show 0 * 10 = 0 from rfl, Addr.add_zero'] at C1)
    have C2 := Ay
    (try simp only [tz, show 0 * 10 = 0 from rfl, Addr.add_zero'] at C2)
    have Bm := Ax
    (try simp only [tz, show 0 * 10 = 0 from rfl, Addr.add_zero'] at Bm)
    obtain rfl : Ar = Gd := (by injection e192)
    have qi192 : (0 < l1.length) = True := eq_true (by omega)
    (try simp only [tz, show 0 * 10 = 0 from rfl, Addr.add_zero'] at Ax Ay Az A0 A2 A4 A5 A6 A7 A8)
    replace Ax := cU HB.out Ax
    replace Ay := cU HB.out Ay
    replace Az := cU HB.out Az
    replace A0 := cU HB.out A0
    replace A2 := cU HB.out A2
    replace A4 := cU HB.out A4
    replace A5 := cU HB.out A5
    replace A6 := cU HB.out A6
    replace A7 := cU HB.out A7
    replace A8 := cU HB.out A8
    have Ew := Am Dc
    have Hs := Am Db
    clear Dc Db
    replace p192 := eq_true p192
    replace q192 := eq_true q192
    refine start_ (n := 12) (S := fun w' => cG w' Aq 0 (.int .i64 a0_0) ∧ cG w' Aq 1 (.int .i64 a0_1) ∧ cG w' Aq 2 (.slice A0_2 l0_2.length c0_2) ∧ cG w' Aq 3 (.int .i64 a0_3) ∧ cG w' Aq 4 (.int .i64 a0_4) ∧ cG w' Aq 5 (.int .i64 a0_5) ∧ cG w' Aq 6 (.int .i64 a0_6) ∧ w'.cell? Ar = some (.int .i64 ((rd_T54 l1 0).f0))) (ds := []) #[false, false, false, false, false, false, false, false, false, false, false, false] (by kernel_rfl) rfl rfl ⟨(blk_cell Aa.out 0).trans rfl, (blk_cell Aa.out 1).trans rfl, (blk_cell Aa.out 2).trans rfl, (blk_cell Aa.out 3).trans rfl, (blk_cell Aa.out 4).trans rfl, (blk_cell Aa.out 5).trans rfl, (blk_cell Aa.out 6).trans rfl, (cT HB.out Bm)⟩ (fun hHeld => ?_); refine with_tabW raft_Put.tab8 raft_Put.bits8 (fun HT_ HW_ => ?_)
    generalize w38.drew = w39 at Aa Ab HB Ew Ax Ay Az A0 A2 A4 A5 A6 A7 A8 hHeld ⊢
    refine pui 1 52 12 2 HT_ ?_
    refine zp 2 (h := zp 3 (h := zw 0 (h := zw 4 (h := zp 5 (h := ?_)))))
    refine onei 6 57 12 127 HT_ (fun K hK => ?_)
    refine goes_ Try.func64 (by kernel_rfl) rfl #[.agg #[.int .i64 a0_0, .int .i64 a0_1, .slice A0_2 l0_2.length c0_2, .int .i64 a0_3, .int .i64 a0_4, .int .i64 a0_5, .int .i64 a0_6], .int .i64 (wrap64 (((rd_T54 l1 0).f0) - 1))] (by rfl) rfl rfl pL ?_
    with_reducible refine (raft_Term.calls kj3 a0_0 a0_1 _ _ l0_2 a0_3 a0_4 a0_5 a0_6 (wrap64 (((rd_T54 l1 0).f0) - 1)) t193 t194 _ ?Bn ?Bo A36.out).mono ?_
    (case Bn => exact pC (Kd.C_below Eh.out HB.out))
    (case Bo => exact Ei.out)
    rintro e w40 ⟨rfl, hb⟩
    refine ⟨_, rfl, ?_⟩
    replace Aa := kBa Aa hb
    replace Ab := kBa Ab hb
    replace HB := zX2 HB At.out Aw.out hb
    (try clear hb)
    (try clear hb2)
    (try clear hk)
    (try clear hi)
    refine hK.out _ _ ⟨(blk_cell Aa.out 0).trans rfl, (blk_cell Aa.out 1).trans rfl, (blk_cell Aa.out 2).trans rfl, (blk_cell Aa.out 3).trans rfl, (blk_cell Aa.out 4).trans rfl, (blk_cell Aa.out 5).trans rfl, (blk_cell Aa.out 6).trans rfl, (cT HB.out Bm)⟩ (fun hHeld => ?_)
    clear hK K
    refine norm_ (a' := ?_) ?_ ?_
    rotate_left
    ·show Act.put _ (some 57) _ = _
     simp only [Act.put, List.setIfInBounds_toArray, List.set_cons_zero, List.set_cons_succ, i64_w, i32_w]
     rfl
    refine pui 7 50 12 255 HT_ ?_
    refine zp 8 (h := zp 9 (h := zp 10 (h := zp 11 (h := ?_))))
    refine done_ (done_of HT_.out (by kernel_rfl)) ?_
    have p195 : 0 ≤ (0 : Int) := (by omega)
    have q195 : 0 < (l1.length : Int) := of_decide_eq_true pS
    obtain ⟨Ge, J7, c195_5, e195, E8, E9, Fa, Fb, Fc, Fd, Fe, Ff, Fg, Fh, Dd, De⟩ := at_T54uz HR1.out p195 q195 HB.out
    obtain rfl : Ar = Ge := (by injection e195)
    have qi195 : (0 < l1.length) = True := eq_true (by omega)
    have Ht := Am De
    have Hu := Am Dd
    clear De Dd
    replace p195 := eq_true p195
    replace q195 := eq_true q195
    have hnb41 := As.out
    have hnc41 := Au.out
    obtain ⟨Hv, Hw, Hx, Hy, Hz, H0, H2⟩ := bc7 Ab.out
    obtain ⟨H3, H4, H5, H6, H7, H8, H9⟩ := bf7 Ab.out
    try go_wp2
    refine bodyPost_ret (results_ct rfl _ _ A9 26 #[.int .i64 0, .int .i64 0, .slice none 0 0, .int .i64 0, .int .i64 0, .int .i64 0, .int .i64 0] (0, 0) _ rfl (kX0 Ab.out) Try.underlying26 rfl (by kernel_rfl)) rfl ?_
    exact ⟨_, pX, zn, pE2 HB.out At.out Aw.out⟩
   rw [if_neg c37] at H
   have c37b0 := decide_eq_false c37
   clear c37
   obtain ⟨t196, A43, H⟩ := zb H
   have HC44 := Am H
   clear H
   try go_wp2
   replace Aa := kDa Aa
   replace Ab := kDa Ab
   replace HB := bDa HB
   have p190 : 0 ≤ (0 : Int) := (by omega)
   have q190 : 0 < (l1.length : Int) := of_decide_eq_true pS
   obtain ⟨Ar, E3, c190_5, e190, Ag, Ah, Ai, Aj, Ak, Ae, Al, An, Ao, Ap, Bk, Bl⟩ := at_T54 HR1.out 0 p190 q190
   have Ba := Ap
   (try simp only [tz, show 0 * 10 = 0 from rfl, Addr.add_zero'] at Ba)
   have Bb := Ao
   (try simp only [tz, show 0 * 10 = 0 from rfl, Addr.add_zero'] at Bb)
   have Bc := An
   (try simp only [tz, show 0 * 10 = 0 from rfl, Addr.add_zero'] at Bc)
   have Bd := Al
   (try simp only [tz, show 0 * 10 = 0 from rfl, Addr.add_zero'] at Bd)
   have Be := Ae
   (try simp only [tz, show 0 * 10 = 0 from rfl, Addr.add_zero'] at Be)
   have Bf := Ak
   (try simp only [tz, show 0 * 10 = 0 from rfl, Addr.add_zero'] at Bf)
   have Bg := Aj
   (try simp only [tz, show 0 * 10 = 0 from rfl, Addr.add_zero'] at Bg)
   have Bh := Ai
   (try simp only [tz, show 0 * 10 = 0 from rfl, Addr.add_zero'] at Bh)
   have Bi := Ah
   (try simp only [tz, show 0 * 10 = 0 from rfl, Addr.add_zero'] at Bi)
   have Av := Ag
   (try simp only [tz, show 0 * 10 = 0 from rfl, Addr.add_zero'] at Av)
   cases e190
   have qi190 : (0 < l1.length) = True := eq_true (by omega)
   (try simp only [tz, show 0 * 10 = 0 from rfl, Addr.add_zero'] at Ag Ah Ai Aj Ak Ae Al An Ao Ap)
   replace Ag := cU HB.out Ag
   replace Ah := cU HB.out Ah
   replace Ai := cU HB.out Ai
   replace Aj := cU HB.out Aj
   replace Ak := cU HB.out Ak
   replace Ae := cU HB.out Ae
   replace Al := cU HB.out Al
   replace An := cU HB.out An
   replace Ao := cU HB.out Ao
   replace Ap := cU HB.out Ap
   have Ct := Am Bl
   have Ek := Am Bk
   clear Bl Bk
   replace p190 := eq_true p190
   replace q190 := eq_true q190
   refine start_ (n := 8) (S := fun w' => cG w' Aq 0 (.int .i64 a0_0) ∧ w'.cell? Ar = some (.int .i64 ((rd_T54 l1 0).f0))) (ds := []) #[false, false, false, false, false, false, false, false] (by kernel_rfl) rfl rfl ⟨(blk_cell Aa.out 0).trans rfl, (cT HB.out Av)⟩ (fun hHeld => ?_); refine with_tabW raft_Put.tab4 raft_Put.bits4 (fun HT_ HW_ => ?_)
   generalize wc.drew = w45 at Aa Ab HB Ct Ag Ah Ai Aj Ak Ae Al An Ao Ap hHeld ⊢
   refine pui 0 33 8 1 HT_ ?_
   refine zp 1 (h := zp 2 (h := zp 4 (h := zw 3 (h := zw 5 (h := zp 6 (h := zp 7 (h := ?_)))))))
   refine done_ (done_of HT_.out (by kernel_rfl)) ?_
   have p191 : 0 ≤ (0 : Int) := (by omega)
   have q191 : 0 < (l1.length : Int) := of_decide_eq_true pS
   obtain ⟨Ez, Gh, c191_5, e191, El, Em, En, Eo, Ep, C7, Er, Es, Et, Eu, By, Bz⟩ := at_T54uz HR1.out p191 q191 HB.out
   obtain rfl : Ar = Ez := (by injection e191)
   have qi191 : (0 < l1.length) = True := eq_true (by omega)
   have E6 := Am Bz
   have E7 := Am By
   clear Bz By
   replace p191 := eq_true p191
   replace q191 := eq_true q191
   have ea_ := Option.some.inj (Ae.symm.trans C7)
   injection ea_ with ea_ en_ ec_
   subst ea_
   subst ec_
   clear en_
   try go_wp2
   replace Aa := kDa Aa
   replace Ab := kDa Ab
   replace HB := bDa HB
   have p192 : 0 ≤ (0 : Int) := (by omega)
   have q192 : 0 < (l1.length : Int) := of_decide_eq_true pS
   obtain ⟨Gd, J6, c192_5, e192, Ax, Ay, Az, A0, A2, A4, A5, A6, A7, A8, Db, Dc⟩ := at_T54 HR1.out 0 p192 q192
   have Cu := A8
   (try simp only [tz, show 0 * 10 = 0 from rfl, Addr.add_zero'] at Cu)
   have Cv := A7
   (try simp only [tz, show 0 * 10 = 0 from rfl, Addr.add_zero'] at Cv)
   have Cw := A6
   (try simp only [tz, show 0 * 10 = 0 from rfl, Addr.add_zero'] at Cw)
   have Cx := A5
   (try simp only [tz, show 0 * 10 = 0 from rfl, Addr.add_zero'] at Cx)
   have Cy := A4
   (try simp only [tz, show 0 * 10 = 0 from rfl, Addr.add_zero'] at Cy)
   have Cz := A2
   (try simp only [tz, show 0 * 10 = 0 from rfl, Addr.add_zero'] at Cz)
   have C0 := A0
   (try simp only [tz, show 0 * 10 = 0 from rfl, Addr.add_zero'] at C0)
   have C1 := Az
   (try simp only [tz, show 0 * 10 = 0 from rfl, Addr.add_zero'] at C1)
   have C2 := Ay
   (try simp only [tz, show 0 * 10 = 0 from rfl, Addr.add_zero'] at C2)
   have Bm := Ax
   (try simp only [tz, show 0 * 10 = 0 from rfl, Addr.add_zero'] at Bm)
   obtain rfl : Ar = Gd := (by injection e192)
   have qi192 : (0 < l1.length) = True := eq_true (by omega)
   (try simp only [tz, show 0 * 10 = 0 from rfl, Addr.add_zero'] at Ax Ay Az A0 A2 A4 A5 A6 A7 A8)
   replace Ax := cU HB.out Ax
   replace Ay := cU HB.out Ay
   replace Az := cU HB.out Az
   replace A0 := cU HB.out A0
   replace A2 := cU HB.out A2
   replace A4 := cU HB.out A4
   replace A5 := cU HB.out A5
   replace A6 := cU HB.out A6
   replace A7 := cU HB.out A7
   replace A8 := cU HB.out A8
   have Ew := Am Dc
   have Hs := Am Db
   clear Dc Db
   replace p192 := eq_true p192
   replace q192 := eq_true q192
   refine start_ (n := 12) (S := fun w' => cG w' Aq 0 (.int .i64 a0_0) ∧ cG w' Aq 1 (.int .i64 a0_1) ∧ cG w' Aq 2 (.slice A0_2 l0_2.length c0_2) ∧ cG w' Aq 3 (.int .i64 a0_3) ∧ cG w' Aq 4 (.int .i64 a0_4) ∧ cG w' Aq 5 (.int .i64 a0_5) ∧ cG w' Aq 6 (.int .i64 a0_6) ∧ w'.cell? Ar = some (.int .i64 ((rd_T54 l1 0).f0))) (ds := []) #[false, false, false, false, false, false, false, false, false, false, false, false] (by kernel_rfl) rfl rfl ⟨(blk_cell Aa.out 0).trans rfl, (blk_cell Aa.out 1).trans rfl, (blk_cell Aa.out 2).trans rfl, (blk_cell Aa.out 3).trans rfl, (blk_cell Aa.out 4).trans rfl, (blk_cell Aa.out 5).trans rfl, (blk_cell Aa.out 6).trans rfl, (cT HB.out Bm)⟩ (fun hHeld => ?_); refine with_tabW raft_Put.tab8 raft_Put.bits8 (fun HT_ HW_ => ?_)
   generalize w45.drew = w46 at Aa Ab HB Ew Ax Ay Az A0 A2 A4 A5 A6 A7 A8 hHeld ⊢
   refine pui 1 52 12 2 HT_ ?_
   refine zp 2 (h := zp 3 (h := zw 0 (h := zw 4 (h := zp 5 (h := ?_)))))
   refine onei 6 57 12 127 HT_ (fun K hK => ?_)
   refine goes_ Try.func64 (by kernel_rfl) rfl #[.agg #[.int .i64 a0_0, .int .i64 a0_1, .slice A0_2 l0_2.length c0_2, .int .i64 a0_3, .int .i64 a0_4, .int .i64 a0_5, .int .i64 a0_6], .int .i64 (wrap64 (((rd_T54 l1 0).f0) - 1))] (by rfl) rfl rfl pL ?_
   with_reducible refine (raft_Term.calls kj3 a0_0 a0_1 _ _ l0_2 a0_3 a0_4 a0_5 a0_6 (wrap64 (((rd_T54 l1 0).f0) - 1)) t193 t194 _ ?Bn ?Bo A36.out).mono ?_
   (case Bn => exact pC (Kd.C_below Eh.out HB.out))
   (case Bo => exact Ei.out)
   rintro e w47 ⟨rfl, hb⟩
   refine ⟨_, rfl, ?_⟩
   replace Aa := kBa Aa hb
   replace Ab := kBa Ab hb
   replace HB := zX2 HB At.out Aw.out hb
   (try clear hb)
   (try clear hb2)
   (try clear hk)
   (try clear hi)
   refine hK.out _ _ ⟨(blk_cell Aa.out 0).trans rfl, (blk_cell Aa.out 1).trans rfl, (blk_cell Aa.out 2).trans rfl, (blk_cell Aa.out 3).trans rfl, (blk_cell Aa.out 4).trans rfl, (blk_cell Aa.out 5).trans rfl, (blk_cell Aa.out 6).trans rfl, (cT HB.out Bm)⟩ (fun hHeld => ?_)
   clear hK K
   refine norm_ (a' := ?_) ?_ ?_
   rotate_left
   ·show Act.put _ (some 57) _ = _
    simp only [Act.put, List.setIfInBounds_toArray, List.set_cons_zero, List.set_cons_succ, i64_w, i32_w]
    rfl
   refine pui 7 50 12 255 HT_ ?_
   refine zp 8 (h := zp 9 (h := zp 10 (h := zp 11 (h := ?_))))
   refine done_ (done_of HT_.out (by kernel_rfl)) ?_
   have p195 : 0 ≤ (0 : Int) := (by omega)
   have q195 : 0 < (l1.length : Int) := of_decide_eq_true pS
   obtain ⟨Ge, J7, c195_5, e195, E8, E9, Fa, Fb, Fc, Fd, Fe, Ff, Fg, Fh, Dd, De⟩ := at_T54uz HR1.out p195 q195 HB.out
   obtain rfl : Ar = Ge := (by injection e195)
   have qi195 : (0 < l1.length) = True := eq_true (by omega)
   have Ht := Am De
   have Hu := Am Dd
   clear De Dd
   replace p195 := eq_true p195
   replace q195 := eq_true q195
   have hnb48 := Au.out
   have hnc48 := As.out
   obtain ⟨Ia, Ib, Ic, Ie, If, Ig, Ih⟩ := bc7 Aa.out
   obtain ⟨Ii, Ij, Ik, Il, Im, In, Io⟩ := bf7 Aa.out
   go_upto_block 1 with (first | ((with_reducible refine zC 65 rfl ?_); refine zL (some 69) Try.func65 #[.slice A0_2 l0_2.length c0_2] ?_; (with_reducible refine (raft_owns.calls kj3 _ _ l0_2 t196 _ ?Bn ?Bo A43.out).mono ?_); (case Bn => exact pC (Kd.C_below Eh.out HB.out)); (case Bo => exact Ei.out); rintro e w50 ⟨v197, rfl, ho0, hb⟩; refine ⟨_, rfl, ?_⟩; have Jp := Am (Kd.N_lower (Kd.N_mono (ok' := fun k_ => (w.heap.size ≤ k_) ∧ k_ ≠ Aq ∧ k_ ≠ A9) (Kd.S_N (Kd.S_bound ho0)) (fun k_ hk_ => ⟨(Nat.le_trans (below_size (pE2 HB.out At.out Aw.out)) hk_.2.1), (kF Aa.out k_ hk_.2.1), (kF Ab.out k_ hk_.2.1)⟩)) (below_size (pE2 HB.out At.out Aw.out))); replace Aa := kBa Aa hb; replace Ab := kBa Ab hb; replace HB := zX2 HB At.out Aw.out hb; (try clear hb); (try clear ho0); obtain ⟨C9, C8, Km⟩ := Kd.N_slice Jp.out; subst Km; obtain ⟨Ip, Iq, Ir, Is, It, Iu, Iv⟩ := bc7 Aa.out; obtain ⟨Iw, Ix, Iy, Iz, I0, I1, I2⟩ := bf7 Aa.out))
   (try simp only [Act.put, List.setIfInBounds_toArray, List.set_cons_zero, List.set_cons_succ])
   go_cut [10] (fun v10 wc => ∃ (kq : Nat) (Ad : Int), v10 = .int .i64 Ad ∧ Aside0 (raft_Put.j2 kq l1 Ad a0_0 a0_1 t196 a0_3 a0_4 a0_5 a0_6 = some (r1, r2, r3, r4, r5, r6, r7, r8)) ∧ Aside0 (kq ≤ kj3) ∧ Aside0 (Kd.N k54 54 wc w.heap.size (fun k_ => (w.heap.size ≤ k_) ∧ k_ ≠ Aq ∧ k_ ≠ A9) (.slice C9 t196.length C8) t196) ∧ Aside0 (wc.heap[Aq]? = some (.cells #[.int .i64 a0_0, .int .i64 a0_1, (.slice C9 t196.length C8), .int .i64 a0_3, .int .i64 a0_4, .int .i64 a0_5, .int .i64 a0_6] 26 (0, 0))) ∧ Aside0 (wc.heap[A9]? = some (.cells #[.int .i64 0, .int .i64 0, (.slice none 0 0), .int .i64 0, .int .i64 0, .int .i64 0, .int .i64 0] 26 (0, 0))) ∧ Aside0 (Below w.heap.size w wc))
   case first =>
    have H := HC44.out
    clear HC44
    have H' := Am H
    clear H
    go_wp2
    go_loopg [10] kj3 (fun kq v10 w' => ∃ (Af : Int), v10 = .int .i64 Af ∧ Aside0 (raft_Put.l0 kq l1 t186 Af a0_0 a0_1 t196 a0_3 a0_4 a0_5 a0_6 = some (r1, r2, r3, r4, r5, r6, r7, r8)) ∧ Aside0 (kq ≤ kj3) ∧ Aside0 (Kd.N k54 54 w' w.heap.size (fun k_ => (w.heap.size ≤ k_) ∧ k_ ≠ Aq ∧ k_ ≠ A9) (.slice C9 t196.length C8) t196) ∧ Aside0 (w'.heap[Aq]? = some (.cells #[.int .i64 a0_0, .int .i64 a0_1, (.slice C9 t196.length C8), .int .i64 a0_3, .int .i64 a0_4, .int .i64 a0_5, .int .i64 a0_6] 26 (0, 0))) ∧ Aside0 (w'.heap[A9]? = some (.cells #[.int .i64 0, .int .i64 0, (.slice none 0 0), .int .i64 0, .int .i64 0, .int .i64 0, .int .i64 0] 26 (0, 0))) ∧ Aside0 (Below w.heap.size w w'))
    case atStart => exact ⟨(0), zr, H', ⟨Nat.le_refl _⟩, ⟨by (with_reducible repeat (first | apply Kd.N_alloc | apply Kd.N_drewN | apply Kd.N_drew)); exact Kd.N_mono (Kd.N_far (p := ⟨Aq, 2, none⟩) (Kd.N_mono Jp.out (fun k_ hk => (⟨hk, hk.2.1⟩ : _ ∧ k_ ≠ Aq))) (fun _ hk => hk.2) (.slice C9 t196.length C8)) (fun _ hk => ⟨hk.1.1, ⟨hk.1.2.1, hk.1.2.2⟩⟩)⟩, ⟨by (with_reducible repeat (first | refine blk_drewN ?_ _ | refine blk_drew ?_ | refine blk_alloc ?_ _)); refine blk_put (cs := #[.int .i64 a0_0, .int .i64 a0_1, .slice A0_2 l0_2.length c0_2, .int .i64 a0_3, .int .i64 a0_4, .int .i64 a0_5, .int .i64 a0_6]) ?_ 2 _ rfl; (with_reducible repeat (first | refine blk_drewN ?_ _ | refine blk_drew ?_ | refine blk_alloc ?_ _)); exact Aa.out⟩, ⟨kX1 Ab.out As.out⟩, ⟨pE2 HB.out At.out Aw.out⟩⟩
    case round =>
     clear H'
     try clear c1
     try clear p1
     try clear q1
     try clear hx1
     try clear qi1
     try clear p2
     try clear c3
     try clear c4
     try clear c6
     try clear p6
     try clear c19
     try clear p19
     try clear q19
     try clear hx19
     try clear qi19
     try clear c37
     try clear c37b0
     try clear c41
     try clear c48
     try clear Hv Hw Hx Hy Hz H0 H2
     try clear Ia Ib Ic Ie If Ig Ih
     try clear Ip Iq Ir Is It Iu Iv
     try clear H3 H4 H5 H6 H7 H8 H9
     try clear Ii Ij Ik Il Im In Io
     try clear Iw Ix Iy Iz I0 I1 I2
     try clear Ag
     try clear Ah
     try clear Ai
     try clear Aj
     try clear Ak
     try clear Ae
     try clear Al
     try clear An
     try clear Ao
     try clear Ap
     try clear El
     try clear Em
     try clear En
     try clear Eo
     try clear Ep
     try clear C7
     try clear Er
     try clear Es
     try clear Et
     try clear Eu
     try clear Ax
     try clear Ay
     try clear Az
     try clear A0
     try clear A2
     try clear A4
     try clear A5
     try clear A6
     try clear A7
     try clear A8
     try clear E8
     try clear E9
     try clear Fa
     try clear Fb
     try clear Fc
     try clear Fd
     try clear Fe
     try clear Ff
     try clear Fg
     try clear Fh
     try clear p190
     try clear p191
     try clear p192
     try clear p195
     try clear q190
     try clear q191
     try clear q192
     try clear q195
     obtain ⟨Af, rfl, HA, HK2, Ac, Aa, Ab, HB⟩ := hrel
     cases gk with
     | zero => exact absurd HA.out (by simp [raft_Put.l0])
     | succ k2 =>
      have H := HA.out
      clear HA
      simp only [raft_Put.l0] at H
      by_cases c53 : Af < (l1.length : Int)
      rotate_left
      ·rw [if_neg c53] at H
       have c53b0 := decide_eq_false c53
       clear c53
       (first | rw [c53b0] | (simp only [i64_w, i32_w]; rw [c53b0]) | skip)
       have H' := Am H
       clear H
       try go_wp2
       replace Ac := dNa Ac
       replace Aa := kDa Aa
       replace Ab := kDa Ab
       replace HB := bDa HB
       refine start_ (n := 35) (S := fun w' => True) (ds := []) #[false, false, false, false, false, false, false, false, false, false, false, false, false, false, false, false, false, false, false, false, false, false, false, false, false, false, false, false, false, false, false, false, false, false, false] (by kernel_rfl) rfl rfl trivial (fun hHeld => ?_); refine with_tabW raft_Put.tab13 raft_Put.bits13 (fun HT_ HW_ => ?_)
       (first | generalize wr.drew = w63 at Ac Aa Ab HB hHeld ⊢ | generalize wr.drew = w63 at Aa Ab HB hHeld ⊢)
       refine pui 0 71 35 1 HT_ ?_
       refine zp 1 (h := zp 2 (h := zp 3 (h := zp 4 (h := zq 5 (h := zq 6 (h := zq 7 (h := zq 8 (h := zq 9 (h := zq 10 (h := zq 11 (h := zp 12 (h := zp 13 (h := zq 14 (h := zq 15 (h := zq 16 (h := zq 17 (h := zq 18 (h := zq 19 (h := zq 20 (h := zq 21 (h := zq 22 (h := zq 23 (h := zq 24 (h := zq 25 (h := zq 26 (h := zq 27 (h := zq 28 (h := zq 29 (h := zq 30 (h := zq 31 (h := zq 32 (h := zq 33 (h := zp 34 (h := ?_))))))))))))))))))))))))))))))))))
       refine done_ (done_of HT_.out (by kernel_rfl)) ?_
       try go_wp2
       go_meet
       case rel => exact ⟨_, (Af), zr, H', ⟨by have := HJ3.out; have := HK2.out; first | omega | exact Nat.le_refl _⟩, ⟨by (with_reducible repeat (first | apply Kd.N_alloc | apply Kd.N_drewN | apply Kd.N_drew)); exact Ac.out⟩, ⟨pK Aa.out⟩, ⟨pK Ab.out⟩, ⟨pE2 HB.out At.out Aw.out⟩⟩
      rw [if_pos c53] at H
      have c53b0 := decide_eq_true c53
      clear c53
      (first | rw [c53b0] | (simp only [i64_w, i32_w]; rw [c53b0]) | skip)
      obtain ⟨c54, H⟩ := zI H
      have c54b0 := decide_eq_true c54
      clear c54
      by_cases c55 : ((rd_T54 l1 Af).f0) ≤ t186
      rotate_left
      ·rw [if_neg c55] at H
       have c55b0 := decide_eq_false c55
       clear c55
       have H' := Am H
       clear H
       try go_wp2
       replace Ac := dNa Ac
       replace Aa := kDa Aa
       replace Ab := kDa Ab
       replace HB := bDa HB
       have p199 : 0 ≤ (Af : Int) := of_decide_eq_true pS
       have q199 : Af < (l1.length : Int) := of_decide_eq_true pS
       obtain ⟨E0, Gi, c199_5, e199, Bp, Bq, Br, Bs, Bt, Bj, Bu, Bv, Bw, Bx, B0, B1, Df, Fi, Fj, Fk, Fl, Fm, Fn, Fo, Fp, Fq⟩ := at_T54w HR1.out Af p199 q199 HB.out
       obtain rfl : Ar = E0 := (by injection e199)
       have B2 := Am B1
       have Fr := Am B0
       clear B1 B0
       replace p199 := eq_true p199
       replace q199 := eq_true q199
       refine start_ (n := 35) (S := fun w' => w'.cell? (Ar.add ((Af).toNat * 10)) = some (.int .i64 ((rd_T54 l1 Af).f0))) (ds := []) #[false, false, false, false, false, false, false, false, false, false, false, false, false, false, false, false, false, false, false, false, false, false, false, false, false, false, false, false, false, false, false, false, false, false, false] (by kernel_rfl) rfl rfl ((cT HB.out Df)) (fun hHeld => ?_); refine with_tabW raft_Put.tab13 raft_Put.bits13 (fun HT_ HW_ => ?_)
       (first | generalize wr.drew = w62 at Ac Aa Ab HB B2 Bp Bq Br Bs Bt Bj Bu Bv Bw Bx hHeld ⊢ | generalize wr.drew = w62 at Aa Ab HB B2 Bp Bq Br Bs Bt Bj Bu Bv Bw Bx hHeld ⊢)
       refine pui 0 71 35 1 HT_ ?_
       refine zp 1 (h := zp 2 (h := zp 3 (h := zp 4 (h := zp 5 (h := zp 6 (h := zp 7 (h := zp 8 (h := zp 10 (h := ?_)))))))))
       refine take_ (i := 9) (N := some 80) (v := ?_) (a' := ?_) (bw 35 2047) rfl rfl (take_ofW HT_.out HW_.out (by kernel_rfl)) (fun _ _ _ h => h) (Or.inl ⟨by rfl, ?_⟩) hHeld ?_ ?_
       rotate_left
       ·intro w' s0
        go_simp
        with_reducible rfl
       rotate_left
       ·exact za
       refine pui 11 82 35 4095 HT_ ?_
       refine zp 12 (h := zp 13 (h := zq 14 (h := zq 15 (h := zq 16 (h := zq 17 (h := zq 18 (h := zq 19 (h := zq 20 (h := zq 21 (h := zq 22 (h := zq 23 (h := zq 24 (h := zq 25 (h := zq 26 (h := zq 27 (h := zq 28 (h := zq 29 (h := zq 30 (h := zq 31 (h := zq 32 (h := zq 33 (h := zp 34 (h := ?_)))))))))))))))))))))))
       refine done_ (done_of HT_.out (by kernel_rfl)) ?_
       try go_wp2
       go_meet
       case rel => exact ⟨_, (Af), zr, H', ⟨by have := HJ3.out; have := HK2.out; first | omega | exact Nat.le_refl _⟩, ⟨by (with_reducible repeat (first | apply Kd.N_alloc | apply Kd.N_drewN | apply Kd.N_drew)); exact Ac.out⟩, ⟨pK Aa.out⟩, ⟨pK Ab.out⟩, ⟨pE2 HB.out At.out Aw.out⟩⟩
      rw [if_pos c55] at H
      have c55b0 := decide_eq_true c55
      clear c55
      obtain ⟨ji56, hji56⟩ : ∃ j_ : Int, (wrap64 ((wrap64 (((rd_T54 l1 Af).f0) - a0_0)) - 1)) = j_ := ⟨_, rfl⟩
      replace H : (if 0 ≤ (ji56) then (if (ji56) < (t196.length : Int) then (if ((rd_T54 t196 (ji56)).f1) = ((rd_T54 l1 Af).f1) then (raft_Put.l0 k2 l1 t186 (wrap64 (Af + 1)) a0_0 a0_1 t196 a0_3 a0_4 a0_5 a0_6) else (raft_Put.j2 k2 l1 Af a0_0 a0_1 t196 a0_3 a0_4 a0_5 a0_6)) else (none)) else (none)) = some (r1, r2, r3, r4, r5, r6, r7, r8) := by first | (rw [hji56] at H; exact H) | (simp only [hji56] at H ⊢; exact H)
      (try rw [hji56] at c32b0)
      have hji56w : (IntKind.i64.wrap ((wrap64 (((rd_T54 l1 Af).f0) - a0_0)) - 1)) = ji56 := (i64_w _).trans hji56
      obtain ⟨c57, H⟩ := zI H
      have c57b0 := decide_eq_true c57
      clear c57
      obtain ⟨c58, H⟩ := zI H
      have c58b0 := decide_eq_true c58
      clear c58
      by_cases c59 : ((rd_T54 t196 (ji56)).f1) = ((rd_T54 l1 Af).f1)
      rotate_left
      ·rw [if_neg c59] at H
       obtain ⟨c59b0, c59b1⟩ := zk c59
       have H' := Am H
       clear H
       try go_wp2
       replace Ac := dNa Ac
       replace Aa := kDa Aa
       replace Ab := kDa Ab
       replace HB := bDa HB
       have p199 : 0 ≤ (Af : Int) := of_decide_eq_true pS
       have q199 : Af < (l1.length : Int) := of_decide_eq_true pS
       obtain ⟨E0, Gi, c199_5, e199, Bp, Bq, Br, Bs, Bt, Bj, Bu, Bv, Bw, Bx, B0, B1, Df, Fi, Fj, Fk, Fl, Fm, Fn, Fo, Fp, Fq⟩ := at_T54w HR1.out Af p199 q199 HB.out
       obtain rfl : Ar = E0 := (by injection e199)
       have B2 := Am B1
       have Fr := Am B0
       clear B1 B0
       replace p199 := eq_true p199
       replace q199 := eq_true q199
       have p200 : 0 ≤ (Af : Int) := of_decide_eq_true pS
       have q200 : Af < (l1.length : Int) := of_decide_eq_true pS
       obtain ⟨Gf, J8, c200_5, e200, Dg, Dh, Di, Dj, Dk, C3, Dl, Dm, Dn, Do, Dp, Dq, I3, I4, I5, I6, I7, I8, I9, Ja, Jb, Jc⟩ := at_T54w HR1.out Af p200 q200 HB.out
       obtain rfl : Ar = Gf := (by injection e200)
       have Dr := Am Dq
       have Jd := Am Dp
       clear Dq Dp
       replace p200 := eq_true p200
       replace q200 := eq_true q200
       have ea_ := Option.some.inj (Bj.symm.trans C3)
       injection ea_ with ea_ en_ ec_
       subst ea_
       subst ec_
       clear en_
       have p201 : 0 ≤ ((ji56) : Int) := of_decide_eq_true pS
       have q201 : (ji56) < (t196.length : Int) := of_decide_eq_true pS
       obtain ⟨Ej, J9, c201_5, e201, Ds, C4, Dt, Du, Dv, C5, Dw, Dx, Dy, Dz, D0, D1⟩ := at_T54 (Kd.N_reads' Ac.out).2.2 (ji56) p201 q201
       cases e201
       obtain ⟨ce201, hce201, hMe201, hcc201⟩ := Kd.N_get Ac.out z54 (ji56) p201 (by first | exact q201 | exact of_decide_eq_true pS | (have e_ := (Kd.N_reads' Ac.out).1; omega))
       obtain ⟨ua201_5, uc201_5, rfl, ul201_5, ge201_5⟩ := k54_openF hMe201
       have hv201_5 := hcc201 5 _ rfl
       rw [add_field _ _ 5 (by omega)] at hv201_5
       replace hv201_5 := Option.some.inj (hv201_5.symm.trans C5)
       injection hv201_5 with hva_ hvn_ hvc_
       rw [hva_] at ge201_5
       rw [hvc_] at ul201_5
       have HL201_5 := Am (show Kd.V (Kd.int .u8) 5 _ w.heap.size _ _ ((rd_T54 t196 (ji56)).f4.f1) from Kd.V_mk ul201_5 ge201_5)
       clear hva_ hvn_ hvc_ ge201_5 ul201_5
       clear hcc201 hce201
       have D2 := Am D1
       have Je := Am D0
       clear D1 D0
       replace p201 := eq_true p201
       replace q201 := eq_true q201
       have p202 : 0 ≤ (Af : Int) := of_decide_eq_true pS
       have q202 : Af < (l1.length : Int) := of_decide_eq_true pS
       obtain ⟨Gg, Ka, c202_5, e202, D3, D4, D5, D6, D7, C6, D8, D9, Ea, Eb, Ec, Ed, Jf, Ex, Jg, Jh, Ji, Jj, Jk, Jl, Jm, Jn⟩ := at_T54w HR1.out Af p202 q202 HB.out
       obtain rfl : Ar = Gg := (by injection e202)
       have Ee := Am Ed
       have Jo := Am Ec
       clear Ed Ec
       replace p202 := eq_true p202
       replace q202 := eq_true q202
       have ea_ := Option.some.inj (Bj.symm.trans C6)
       injection ea_ with ea_ en_ ec_
       subst ea_
       subst ec_
       clear en_
       refine start_ (n := 35) (S := fun w' => cG w' Aq 0 (.int .i64 a0_0) ∧ cG w' Aq 2 (.slice (some Ej) t196.length C8) ∧ w'.cell? (Ar.add ((Af).toNat * 10)) = some (.int .i64 ((rd_T54 l1 Af).f0)) ∧ w'.cell? ⟨(Ej.add (((ji56)).toNat * 10)).block, (Ej.add (((ji56)).toNat * 10)).off + 1, none⟩ = some (.int .i64 ((rd_T54 t196 (ji56)).f1)) ∧ cA w' (Ar.add ((Af).toNat * 10)) 1 (.int .i64 ((rd_T54 l1 Af).f1))) (ds := []) #[false, false, false, false, false, false, false, false, false, false, false, false, false, false, false, false, false, false, false, false, false, false, false, false, false, false, false, false, false, false, false, false, false, false, false] (by kernel_rfl) rfl rfl ⟨(blk_cell Aa.out 0).trans rfl, (blk_cell Aa.out 2).trans rfl, (cT HB.out Df), C4, (cT HB.out Ex)⟩ (fun hHeld => ?_); refine with_tabW raft_Put.tab13 raft_Put.bits13 (fun HT_ HW_ => ?_)
       (first | generalize wr.drew = w61 at Ac Aa Ab HB HL201_5 B2 Dr D2 Ee Bp Bq Br Bs Bt Bj Bu Bv Bw Bx Dg Dh Di Dj Dk C3 Dl Dm Dn Do Ds C4 Dt Du Dv C5 Dw Dx Dy Dz D3 D4 D5 D6 D7 C6 D8 D9 Ea Eb hHeld ⊢ | generalize wr.drew = w61 at Aa Ab HB HL201_5 B2 Dr D2 Ee Bp Bq Br Bs Bt Bj Bu Bv Bw Bx Dg Dh Di Dj Dk C3 Dl Dm Dn Do Ds C4 Dt Du Dv C5 Dw Dx Dy Dz D3 D4 D5 D6 D7 C6 D8 D9 Ea Eb hHeld ⊢)
       refine pui 0 71 35 1 HT_ ?_
       refine zp 1 (h := zp 2 (h := zp 3 (h := zp 4 (h := zp 5 (h := zp 6 (h := zp 7 (h := zp 8 (h := zp 10 (h := zw 9 (h := zp 11 (h := zp 12 (h := zp 13 (h := zp 14 (h := zp 16 (h := zp 17 (h := zp 18 (h := zp 19 (h := zp 21 (h := zp 28 (h := zp 29 (h := zp 30 (h := zp 31 (h := zw 15 (h := zw 20 (h := zw 22 (h := zp 23 (h := zp 24 (h := zp 25 (h := zp 26 (h := zw 27 (h := zw 32 (h := zp 33 (h := zp 34 (h := ?_))))))))))))))))))))))))))))))))))
       refine done_ (done_of HT_.out (by kernel_rfl)) ?_
       try go_wp2
       go_meet
       case rel => exact ⟨_, (Af), zr, H', ⟨by have := HJ3.out; have := HK2.out; first | omega | exact Nat.le_refl _⟩, ⟨by (with_reducible repeat (first | apply Kd.N_alloc | apply Kd.N_drewN | apply Kd.N_drew)); exact Ac.out⟩, ⟨pK Aa.out⟩, ⟨pK Ab.out⟩, ⟨pE2 HB.out At.out Aw.out⟩⟩
      rw [if_pos c59] at H
      obtain ⟨c59b0, c59b1⟩ := zc c59
      clear c59
      have H' := Am H
      clear H
      try go_wp2
      replace Ac := dNa Ac
      replace Aa := kDa Aa
      replace Ab := kDa Ab
      replace HB := bDa HB
      have p199 : 0 ≤ (Af : Int) := of_decide_eq_true pS
      have q199 : Af < (l1.length : Int) := of_decide_eq_true pS
      obtain ⟨E0, Gi, c199_5, e199, Bp, Bq, Br, Bs, Bt, Bj, Bu, Bv, Bw, Bx, B0, B1, Df, Fi, Fj, Fk, Fl, Fm, Fn, Fo, Fp, Fq⟩ := at_T54w HR1.out Af p199 q199 HB.out
      obtain rfl : Ar = E0 := (by injection e199)
      have B2 := Am B1
      have Fr := Am B0
      clear B1 B0
      replace p199 := eq_true p199
      replace q199 := eq_true q199
      have p200 : 0 ≤ (Af : Int) := of_decide_eq_true pS
      have q200 : Af < (l1.length : Int) := of_decide_eq_true pS
      obtain ⟨Gf, J8, c200_5, e200, Dg, Dh, Di, Dj, Dk, C3, Dl, Dm, Dn, Do, Dp, Dq, I3, I4, I5, I6, I7, I8, I9, Ja, Jb, Jc⟩ := at_T54w HR1.out Af p200 q200 HB.out
      obtain rfl : Ar = Gf := (by injection e200)
      have Dr := Am Dq
      have Jd := Am Dp
      clear Dq Dp
      replace p200 := eq_true p200
      replace q200 := eq_true q200
      have ea_ := Option.some.inj (Bj.symm.trans C3)
      injection ea_ with ea_ en_ ec_
      subst ea_
      subst ec_
      clear en_
      have p201 : 0 ≤ ((ji56) : Int) := of_decide_eq_true pS
      have q201 : (ji56) < (t196.length : Int) := of_decide_eq_true pS
      obtain ⟨Ej, J9, c201_5, e201, Ds, C4, Dt, Du, Dv, C5, Dw, Dx, Dy, Dz, D0, D1⟩ := at_T54 (Kd.N_reads' Ac.out).2.2 (ji56) p201 q201
      cases e201
      obtain ⟨ce201, hce201, hMe201, hcc201⟩ := Kd.N_get Ac.out z54 (ji56) p201 (by first | exact q201 | exact of_decide_eq_true pS | (have e_ := (Kd.N_reads' Ac.out).1; omega))
      obtain ⟨ua201_5, uc201_5, rfl, ul201_5, ge201_5⟩ := k54_openF hMe201
      have hv201_5 := hcc201 5 _ rfl
      rw [add_field _ _ 5 (by omega)] at hv201_5
      replace hv201_5 := Option.some.inj (hv201_5.symm.trans C5)
      injection hv201_5 with hva_ hvn_ hvc_
      rw [hva_] at ge201_5
      rw [hvc_] at ul201_5
      have HL201_5 := Am (show Kd.V (Kd.int .u8) 5 _ w.heap.size _ _ ((rd_T54 t196 (ji56)).f4.f1) from Kd.V_mk ul201_5 ge201_5)
      clear hva_ hvn_ hvc_ ge201_5 ul201_5
      clear hcc201 hce201
      have D2 := Am D1
      have Je := Am D0
      clear D1 D0
      replace p201 := eq_true p201
      replace q201 := eq_true q201
      have p202 : 0 ≤ (Af : Int) := of_decide_eq_true pS
      have q202 : Af < (l1.length : Int) := of_decide_eq_true pS
      obtain ⟨Gg, Ka, c202_5, e202, D3, D4, D5, D6, D7, C6, D8, D9, Ea, Eb, Ec, Ed, Jf, Ex, Jg, Jh, Ji, Jj, Jk, Jl, Jm, Jn⟩ := at_T54w HR1.out Af p202 q202 HB.out
      obtain rfl : Ar = Gg := (by injection e202)
      have Ee := Am Ed
      have Jo := Am Ec
      clear Ed Ec
      replace p202 := eq_true p202
      replace q202 := eq_true q202
      have ea_ := Option.some.inj (Bj.symm.trans C6)
      injection ea_ with ea_ en_ ec_
      subst ea_
      subst ec_
      clear en_
      refine start_ (n := 35) (S := fun w' => cG w' Aq 0 (.int .i64 a0_0) ∧ cG w' Aq 2 (.slice (some Ej) t196.length C8) ∧ w'.cell? (Ar.add ((Af).toNat * 10)) = some (.int .i64 ((rd_T54 l1 Af).f0)) ∧ w'.cell? ⟨(Ej.add (((ji56)).toNat * 10)).block, (Ej.add (((ji56)).toNat * 10)).off + 1, none⟩ = some (.int .i64 ((rd_T54 t196 (ji56)).f1)) ∧ cA w' (Ar.add ((Af).toNat * 10)) 1 (.int .i64 ((rd_T54 l1 Af).f1))) (ds := []) #[false, false, false, false, false, false, false, false, false, false, false, false, false, false, false, false, false, false, false, false, false, false, false, false, false, false, false, false, false, false, false, false, false, false, false] (by kernel_rfl) rfl rfl ⟨(blk_cell Aa.out 0).trans rfl, (blk_cell Aa.out 2).trans rfl, (cT HB.out Df), C4, (cT HB.out Ex)⟩ (fun hHeld => ?_); refine with_tabW raft_Put.tab13 raft_Put.bits13 (fun HT_ HW_ => ?_)
      (first | generalize wr.drew = w60 at Ac Aa Ab HB HL201_5 B2 Dr D2 Ee Bp Bq Br Bs Bt Bj Bu Bv Bw Bx Dg Dh Di Dj Dk C3 Dl Dm Dn Do Ds C4 Dt Du Dv C5 Dw Dx Dy Dz D3 D4 D5 D6 D7 C6 D8 D9 Ea Eb hHeld ⊢ | generalize wr.drew = w60 at Aa Ab HB HL201_5 B2 Dr D2 Ee Bp Bq Br Bs Bt Bj Bu Bv Bw Bx Dg Dh Di Dj Dk C3 Dl Dm Dn Do Ds C4 Dt Du Dv C5 Dw Dx Dy Dz D3 D4 D5 D6 D7 C6 D8 D9 Ea Eb hHeld ⊢)
      refine pui 0 71 35 1 HT_ ?_
      refine zp 1 (h := zp 2 (h := zp 3 (h := zp 4 (h := zp 5 (h := zp 6 (h := zp 7 (h := zp 8 (h := zp 10 (h := zw 9 (h := zp 11 (h := zp 12 (h := zp 13 (h := zp 14 (h := zp 16 (h := zp 17 (h := zp 18 (h := zp 19 (h := zp 21 (h := zp 28 (h := zp 29 (h := zp 30 (h := zp 31 (h := zw 15 (h := zw 20 (h := zw 22 (h := zp 23 (h := zp 24 (h := zp 25 (h := zp 26 (h := zw 27 (h := zw 32 (h := zp 33 (h := zp 34 (h := ?_))))))))))))))))))))))))))))))))))
      refine done_ (done_of HT_.out (by kernel_rfl)) ?_
      try go_wp2
      go_roundg k2
      case measure => have := HJ3.out; have := HK2.out; omega
      case rel => exact ⟨(wrap64 (Af + 1)), zr, H', ⟨by have := HJ3.out; have := HK2.out; omega⟩, ⟨by (with_reducible repeat (first | apply Kd.N_alloc | apply Kd.N_drewN | apply Kd.N_drew)); exact Ac.out⟩, ⟨pK Aa.out⟩, ⟨pK Ab.out⟩, ⟨pE2 HB.out At.out Aw.out⟩⟩
   case rest =>
    clear HC44
    try clear c1
    try clear p1
    try clear q1
    try clear hx1
    try clear p2
    try clear c5
    try clear c19
    try clear p19
    try clear q19
    try clear hx19
    try clear c53
    try clear c53b0
    try clear c54
    try clear c55
    try clear c55b0
    try clear c57
    try clear c58
    try clear Bp
    try clear Bq
    try clear Br
    try clear Bs
    try clear Bt
    try clear Bj
    try clear Bu
    try clear Bv
    try clear Bw
    try clear Bx
    try clear p199
    try clear q199
    obtain ⟨kq, Ad, rfl, HA, HJ43, Ac, Aa, Ab, HB⟩ := hcut
    cases kq with
    | zero => exact absurd HA.out (by simp [raft_Put.j2])
    | succ kj43 =>
     have H := HA.out
     clear HA
     simp only [raft_Put.j2] at H
     by_cases c64 : Ad = (l1.length : Int)
     ·rw [if_pos c64] at H
      obtain ⟨c64b0, c64b1⟩ := zc c64
      clear c64
      simp only [Option.some.injEq, Prod.mk.injEq] at H
      obtain ⟨rfl, rfl, rfl, rfl, rfl, rfl, rfl, rfl⟩ := H
      have hnb65 := Au.out
      have hnc65 := As.out
      obtain ⟨_, _, _, _, _, _, _⟩ := bc7 Aa.out
      obtain ⟨_, _, _, _, _, _, _⟩ := bf7 Aa.out
      obtain ⟨_, _, _, _, _, _, _⟩ := bc7 Ab.out
      obtain ⟨_, _, _, _, _, _, _⟩ := bf7 Ab.out
      go_wp2
      refine bodyPost_ret (results_ct rfl _ _ A9 26 #[.int .i64 a0_0, .int .i64 a0_1, .slice C9 t196.length C8, .int .i64 a0_3, .int .i64 a0_4, .int .i64 a0_5, .int .i64 a0_6] (0, 0) _ rfl (kX0 Ab.out) Try.underlying26 rfl (by kernel_rfl)) rfl ?_
      exact ⟨_, pX, by (with_reducible repeat (first | apply Kd.N_alloc | apply Kd.N_drewN | apply Kd.N_drew)); exact Kd.N_mono (Nf7 (g := A9) (Kd.N_mono Ac.out (fun k_ hk => (⟨hk, hk.2.2⟩ : _ ∧ k_ ≠ A9))) (fun _ hk => hk.2)) (fun _ hk => hk.1.1), pE2 HB.out At.out Aw.out⟩
     rw [if_neg c64] at H
     obtain ⟨c64b0, c64b1⟩ := zk c64
     obtain ⟨c68, H⟩ := zI H
     have c68b0 := decide_eq_true c68
     clear c68
     obtain ⟨c69, H⟩ := zI H
     have c69b0 := decide_eq_true c69
     clear c69
     by_cases c70 : ((rd_T54 l1 Ad).f0) ≤ a0_5
     ·rw [if_pos c70] at H
      have c70b0 := decide_eq_true c70
      clear c70
      simp only [Option.some.injEq, Prod.mk.injEq] at H
      obtain ⟨rfl, rfl, rfl, rfl, rfl, rfl, rfl, rfl⟩ := H
      try go_wp2
      replace Ac := dNa Ac
      replace Aa := kDa Aa
      replace Ab := kDa Ab
      replace HB := bDa HB
      have p203 : 0 ≤ (Ad : Int) := of_decide_eq_true pS
      have q203 : Ad < (l1.length : Int) := of_decide_eq_true pS
      obtain ⟨E1, Gj, c203_5, e203, B3, B4, B5, B6, B7, B8, B9, Ca, Cb, Cc, Cd, Ce, Ef, Fs, Ft, Fu, Fv, Fw, Fx, Fy, Fz, F0⟩ := at_T54w HR1.out Ad p203 q203 HB.out
      obtain rfl : Ar = E1 := (by injection e203)
      have Cf := Am Ce
      have F1 := Am Cd
      clear Ce Cd
      replace p203 := eq_true p203
      replace q203 := eq_true q203
      refine start_ (n := 10) (S := fun w' => cG w' Aq 0 (.int .i64 a0_0) ∧ w'.cell? (Ar.add ((Ad).toNat * 10)) = some (.int .i64 ((rd_T54 l1 Ad).f0))) (ds := []) #[false, false, false, false, false, false, false, false, false, false] (by kernel_rfl) rfl rfl ⟨(blk_cell Aa.out 0).trans rfl, (cT HB.out Ef)⟩ (fun hHeld => ?_); refine with_tabW raft_Put.tab17 raft_Put.bits17 (fun HT_ HW_ => ?_)
      (first | generalize wc.drew = w71 at Ac Aa Ab HB Cf B3 B4 B5 B6 B7 B8 B9 Ca Cb Cc hHeld ⊢ | generalize wc.drew = w71 at Aa Ab HB Cf B3 B4 B5 B6 B7 B8 B9 Ca Cb Cc hHeld ⊢)
      refine pui 0 113 10 1 HT_ ?_
      refine zp 1 (h := zp 2 (h := zp 3 (h := zp 5 (h := zw 4 (h := zw 6 (h := zp 7 (h := zp 8 (h := zp 9 (h := ?_)))))))))
      refine done_ (done_of HT_.out (by kernel_rfl)) ?_
      try go_wp2
      replace Ac := dNa Ac
      replace Aa := kDa Aa
      replace Ab := kDa Ab
      replace HB := bDa HB
      have p204 : 0 ≤ (Ad : Int) := of_decide_eq_true pS
      have q204 : Ad < (l1.length : Int) := of_decide_eq_true pS
      obtain ⟨E2, Gk, c204_5, e204, Cg, Ch, Ci, Cj, Ck, Cl, Cm, Cn, Co, Cp, Cq, Cr, Eg, F2, F3, F4, F5, F6, F7, F8, F9, Ga⟩ := at_T54w HR1.out Ad p204 q204 HB.out
      obtain rfl : Ar = E2 := (by injection e204)
      have Cs := Am Cr
      have Gb := Am Cq
      clear Cr Cq
      replace p204 := eq_true p204
      replace q204 := eq_true q204
      refine start_ (n := 10) (S := fun w' => cG w' Aq 5 (.int .i64 a0_5) ∧ w'.cell? (Ar.add ((Ad).toNat * 10)) = some (.int .i64 ((rd_T54 l1 Ad).f0))) (ds := []) #[false, false, false, false, false, false, false, false, false, false] (by kernel_rfl) rfl rfl ⟨(blk_cell Aa.out 5).trans rfl, (cT HB.out Eg)⟩ (fun hHeld => ?_); refine with_tabW raft_Put.tab18 raft_Put.bits18 (fun HT_ HW_ => ?_)
      (first | generalize w71.drew = w72 at Ac Aa Ab HB Cs Cg Ch Ci Cj Ck Cl Cm Cn Co Cp hHeld ⊢ | generalize w71.drew = w72 at Aa Ab HB Cs Cg Ch Ci Cj Ck Cl Cm Cn Co Cp hHeld ⊢)
      refine pui 0 123 10 1 HT_ ?_
      refine zp 1 (h := zp 2 (h := zp 3 (h := zp 5 (h := zp 6 (h := zw 4 (h := zw 7 (h := zp 8 (h := zp 9 (h := ?_)))))))))
      refine done_ (done_of HT_.out (by kernel_rfl)) ?_
      have hnb73 := As.out
      have hnc73 := Au.out
      obtain ⟨_, _, _, _, _, _, _⟩ := bc7 Ab.out
      obtain ⟨_, _, _, _, _, _, _⟩ := bf7 Ab.out
      try go_wp2
      refine bodyPost_ret (results_ct rfl _ _ A9 26 #[.int .i64 0, .int .i64 0, .slice none 0 0, .int .i64 0, .int .i64 0, .int .i64 0, .int .i64 0] (0, 0) _ rfl (kX0 Ab.out) Try.underlying26 rfl (by kernel_rfl)) rfl ?_
      exact ⟨_, pX, zn, pE2 HB.out At.out Aw.out⟩
     rw [if_neg c70] at H
     have c70b0 := decide_eq_false c70
     clear c70
     by_cases c75 : (wrap64 ((wrap64 ((wrap64 ((wrap64 (((rd_T54 l1 Ad).f0) - a0_0)) - 1)) + (l1.length : Int))) - Ad)) > 1000
     ·rw [if_pos c75] at H
      have c75b0 : decide (1000 < (wrap64 ((wrap64 ((wrap64 ((wrap64 (((rd_T54 l1 Ad).f0) - a0_0)) - 1)) + (l1.length : Int))) - Ad))) = true := decide_eq_true c75
      clear c75
      simp only [Option.some.injEq, Prod.mk.injEq] at H
      obtain ⟨rfl, rfl, rfl, rfl, rfl, rfl, rfl, rfl⟩ := H
      try go_wp2
      replace Ac := dNa Ac
      replace Aa := kDa Aa
      replace Ab := kDa Ab
      replace HB := bDa HB
      have p203 : 0 ≤ (Ad : Int) := of_decide_eq_true pS
      have q203 : Ad < (l1.length : Int) := of_decide_eq_true pS
      obtain ⟨E1, Gj, c203_5, e203, B3, B4, B5, B6, B7, B8, B9, Ca, Cb, Cc, Cd, Ce, Ef, Fs, Ft, Fu, Fv, Fw, Fx, Fy, Fz, F0⟩ := at_T54w HR1.out Ad p203 q203 HB.out
      obtain rfl : Ar = E1 := (by injection e203)
      have Cf := Am Ce
      have F1 := Am Cd
      clear Ce Cd
      replace p203 := eq_true p203
      replace q203 := eq_true q203
      refine start_ (n := 10) (S := fun w' => cG w' Aq 0 (.int .i64 a0_0) ∧ w'.cell? (Ar.add ((Ad).toNat * 10)) = some (.int .i64 ((rd_T54 l1 Ad).f0))) (ds := []) #[false, false, false, false, false, false, false, false, false, false] (by kernel_rfl) rfl rfl ⟨(blk_cell Aa.out 0).trans rfl, (cT HB.out Ef)⟩ (fun hHeld => ?_); refine with_tabW raft_Put.tab17 raft_Put.bits17 (fun HT_ HW_ => ?_)
      (first | generalize wc.drew = w76 at Ac Aa Ab HB Cf B3 B4 B5 B6 B7 B8 B9 Ca Cb Cc hHeld ⊢ | generalize wc.drew = w76 at Aa Ab HB Cf B3 B4 B5 B6 B7 B8 B9 Ca Cb Cc hHeld ⊢)
      refine pui 0 113 10 1 HT_ ?_
      refine zp 1 (h := zp 2 (h := zp 3 (h := zp 5 (h := zw 4 (h := zw 6 (h := zp 7 (h := zp 8 (h := zp 9 (h := ?_)))))))))
      refine done_ (done_of HT_.out (by kernel_rfl)) ?_
      try go_wp2
      replace Ac := dNa Ac
      replace Aa := kDa Aa
      replace Ab := kDa Ab
      replace HB := bDa HB
      have p204 : 0 ≤ (Ad : Int) := of_decide_eq_true pS
      have q204 : Ad < (l1.length : Int) := of_decide_eq_true pS
      obtain ⟨E2, Gk, c204_5, e204, Cg, Ch, Ci, Cj, Ck, Cl, Cm, Cn, Co, Cp, Cq, Cr, Eg, F2, F3, F4, F5, F6, F7, F8, F9, Ga⟩ := at_T54w HR1.out Ad p204 q204 HB.out
      obtain rfl : Ar = E2 := (by injection e204)
      have Cs := Am Cr
      have Gb := Am Cq
      clear Cr Cq
      replace p204 := eq_true p204
      replace q204 := eq_true q204
      refine start_ (n := 10) (S := fun w' => cG w' Aq 5 (.int .i64 a0_5) ∧ w'.cell? (Ar.add ((Ad).toNat * 10)) = some (.int .i64 ((rd_T54 l1 Ad).f0))) (ds := []) #[false, false, false, false, false, false, false, false, false, false] (by kernel_rfl) rfl rfl ⟨(blk_cell Aa.out 5).trans rfl, (cT HB.out Eg)⟩ (fun hHeld => ?_); refine with_tabW raft_Put.tab18 raft_Put.bits18 (fun HT_ HW_ => ?_)
      (first | generalize w76.drew = w77 at Ac Aa Ab HB Cs Cg Ch Ci Cj Ck Cl Cm Cn Co Cp hHeld ⊢ | generalize w76.drew = w77 at Aa Ab HB Cs Cg Ch Ci Cj Ck Cl Cm Cn Co Cp hHeld ⊢)
      refine pui 0 123 10 1 HT_ ?_
      refine zp 1 (h := zp 2 (h := zp 3 (h := zp 5 (h := zp 6 (h := zw 4 (h := zw 7 (h := zp 8 (h := zp 9 (h := ?_)))))))))
      refine done_ (done_of HT_.out (by kernel_rfl)) ?_
      have hnb78 := As.out
      have hnc78 := Au.out
      obtain ⟨_, _, _, _, _, _, _⟩ := bc7 Ab.out
      obtain ⟨_, _, _, _, _, _, _⟩ := bf7 Ab.out
      try go_wp2
      refine bodyPost_ret (results_ct rfl _ _ A9 26 #[.int .i64 0, .int .i64 0, .slice none 0 0, .int .i64 0, .int .i64 0, .int .i64 0, .int .i64 0] (0, 0) _ rfl (kX0 Ab.out) Try.underlying26 rfl (by kernel_rfl)) rfl ?_
      exact ⟨_, pX, zn, pE2 HB.out At.out Aw.out⟩
     rw [if_neg c75] at H
     have c75b0 : decide (1000 < (wrap64 ((wrap64 ((wrap64 ((wrap64 (((rd_T54 l1 Ad).f0) - a0_0)) - 1)) + (l1.length : Int))) - Ad))) = false := decide_eq_false c75
     clear c75
     obtain ⟨ji80, hji80⟩ : ∃ j_ : Int, (wrap64 ((wrap64 (((rd_T54 l1 Ad).f0) - a0_0)) - 1)) = j_ := ⟨_, rfl⟩
     replace H : (if 0 ≤ (ji80) then (if (ji80) ≤ (t196.length : Int) then ((some (t196.take ((ji80) : Int).toNat : List (S54))).bind fun y205 => (if Ad ≤ (l1.length : Int) then ((raft_owns.f kj43 (l1.drop (Ad : Int).toNat)).bind fun t212 => (if y205.length + t212.length < 1353245080339 then (some (a0_0, a0_1, (y205 ++ t212), a0_3, a0_4, a0_5, a0_6, 0)) else (none))) else (none))) else (none)) else (none)) = some (r1, r2, r3, r4, r5, r6, r7, r8) := by first | (rw [hji80] at H; exact H) | (simp only [hji80] at H ⊢; exact H)
     (try rw [hji80] at c32b0)
     (try rw [hji80] at c75b0)
     have hji80w : (IntKind.i64.wrap ((wrap64 (((rd_T54 l1 Ad).f0) - a0_0)) - 1)) = ji80 := (i64_w _).trans hji80
     obtain ⟨c81, H⟩ := zI H
     have c81b0 := eq_true c81
     have c81b1 := decide_eq_true c81
     clear c81
     obtain ⟨c82, H⟩ := zI H
     have c82b0 := eq_true c82
     have c82b1 := decide_eq_true c82
     clear c82
     obtain ⟨y205, hy205⟩ : ∃ y_ : List (S54), y_ = (t196.take ((ji80) : Int).toNat) := ⟨_, rfl⟩
     replace H : (if Ad ≤ (l1.length : Int) then ((raft_owns.f kj43 (l1.drop (Ad : Int).toNat)).bind fun t212 => (if y205.length + t212.length < 1353245080339 then (some (a0_0, a0_1, (y205 ++ t212), a0_3, a0_4, a0_5, a0_6, 0)) else (none))) else (none)) = some (r1, r2, r3, r4, r5, r6, r7, r8) := zy hy205 H
     have Ny205 := Am hy205
     clear hy205
     have c83b0 := eq_true (of_decide_eq_true pS : 0 ≤ Ad)
     obtain ⟨c84, H⟩ := zI H
     have c84b0 := eq_true c84
     have c84b1 := decide_eq_true c84
     clear c84
     obtain ⟨y208, hy208⟩ : ∃ y_ : List (S54), y_ = (l1.drop (Ad : Int).toNat) := ⟨_, rfl⟩
     replace H : ((raft_owns.f kj43 y208).bind fun t212 => (if y205.length + t212.length < 1353245080339 then (some (a0_0, a0_1, (y205 ++ t212), a0_3, a0_4, a0_5, a0_6, 0)) else (none))) = some (r1, r2, r3, r4, r5, r6, r7, r8) := zy hy208 H
     have Ny208 := Am hy208
     clear hy208
     obtain ⟨t212, A85, H⟩ := zb H
     obtain ⟨c86, H⟩ := zI H
     have LMc86 := Am c86
     clear c86
     obtain ⟨y215, hy215⟩ : ∃ y_ : List (S54), y_ = (y205 ++ t212) := ⟨_, rfl⟩
     replace H : (some (a0_0, a0_1, y215, a0_3, a0_4, a0_5, a0_6, 0)) = some (r1, r2, r3, r4, r5, r6, r7, r8) := zy hy215 H
     have Ny215 := Am hy215
     clear hy215
     simp only [Option.some.injEq, Prod.mk.injEq] at H
     obtain ⟨rfl, rfl, rfl, rfl, rfl, rfl, rfl, rfl⟩ := H
     try go_wp2
     replace Ac := dNa Ac
     replace Aa := kDa Aa
     replace Ab := kDa Ab
     replace HB := bDa HB
     have p203 : 0 ≤ (Ad : Int) := of_decide_eq_true pS
     have q203 : Ad < (l1.length : Int) := of_decide_eq_true pS
     obtain ⟨E1, Gj, c203_5, e203, B3, B4, B5, B6, B7, B8, B9, Ca, Cb, Cc, Cd, Ce, Ef, Fs, Ft, Fu, Fv, Fw, Fx, Fy, Fz, F0⟩ := at_T54w HR1.out Ad p203 q203 HB.out
     obtain rfl : Ar = E1 := (by injection e203)
     have Cf := Am Ce
     have F1 := Am Cd
     clear Ce Cd
     replace p203 := eq_true p203
     replace q203 := eq_true q203
     refine start_ (n := 10) (S := fun w' => cG w' Aq 0 (.int .i64 a0_0) ∧ w'.cell? (Ar.add ((Ad).toNat * 10)) = some (.int .i64 ((rd_T54 l1 Ad).f0))) (ds := []) #[false, false, false, false, false, false, false, false, false, false] (by kernel_rfl) rfl rfl ⟨(blk_cell Aa.out 0).trans rfl, (cT HB.out Ef)⟩ (fun hHeld => ?_); refine with_tabW raft_Put.tab17 raft_Put.bits17 (fun HT_ HW_ => ?_)
     (first | generalize wc.drew = w87 at Ac Aa Ab HB Cf B3 B4 B5 B6 B7 B8 B9 Ca Cb Cc hHeld ⊢ | generalize wc.drew = w87 at Aa Ab HB Cf B3 B4 B5 B6 B7 B8 B9 Ca Cb Cc hHeld ⊢)
     refine pui 0 113 10 1 HT_ ?_
     refine zp 1 (h := zp 2 (h := zp 3 (h := zp 5 (h := zw 4 (h := zw 6 (h := zp 7 (h := zp 8 (h := zp 9 (h := ?_)))))))))
     refine done_ (done_of HT_.out (by kernel_rfl)) ?_
     try go_wp2
     replace Ac := dNa Ac
     replace Aa := kDa Aa
     replace Ab := kDa Ab
     replace HB := bDa HB
     have p204 : 0 ≤ (Ad : Int) := of_decide_eq_true pS
     have q204 : Ad < (l1.length : Int) := of_decide_eq_true pS
     obtain ⟨E2, Gk, c204_5, e204, Cg, Ch, Ci, Cj, Ck, Cl, Cm, Cn, Co, Cp, Cq, Cr, Eg, F2, F3, F4, F5, F6, F7, F8, F9, Ga⟩ := at_T54w HR1.out Ad p204 q204 HB.out
     obtain rfl : Ar = E2 := (by injection e204)
     have Cs := Am Cr
     have Gb := Am Cq
     clear Cr Cq
     replace p204 := eq_true p204
     replace q204 := eq_true q204
     refine start_ (n := 10) (S := fun w' => cG w' Aq 5 (.int .i64 a0_5) ∧ w'.cell? (Ar.add ((Ad).toNat * 10)) = some (.int .i64 ((rd_T54 l1 Ad).f0))) (ds := []) #[false, false, false, false, false, false, false, false, false, false] (by kernel_rfl) rfl rfl ⟨(blk_cell Aa.out 5).trans rfl, (cT HB.out Eg)⟩ (fun hHeld => ?_); refine with_tabW raft_Put.tab18 raft_Put.bits18 (fun HT_ HW_ => ?_)
     (first | generalize w87.drew = w88 at Ac Aa Ab HB Cs Cg Ch Ci Cj Ck Cl Cm Cn Co Cp hHeld ⊢ | generalize w87.drew = w88 at Aa Ab HB Cs Cg Ch Ci Cj Ck Cl Cm Cn Co Cp hHeld ⊢)
     refine pui 0 123 10 1 HT_ ?_
     refine zp 1 (h := zp 2 (h := zp 3 (h := zp 5 (h := zp 6 (h := zw 4 (h := zw 7 (h := zp 8 (h := zp 9 (h := ?_)))))))))
     refine done_ (done_of HT_.out (by kernel_rfl)) ?_
     try go_wp2
     replace Ac := dNa Ac
     replace Aa := kDa Aa
     replace Ab := kDa Ab
     replace HB := bDa HB
     have q90 : ((ji80) : Int) ≤ ((t196.length : Int) : Int) := of_decide_eq_true pS
     obtain ⟨i090, hi090, _, Kl, _⟩ := info_parts info54
     have Kb := cut_to (P := Try.prog) 22 54 .i64 Try.underlying22 hi090 C9 t196.length C8 (ji80) (of_decide_eq_true pS) q90 (Kd.N_reads' Ac.out).2.1
     have Gl := Kd.N_take (m := ((ji80) : Int).toNat) Ac.out (by omega)
     have hy90 : y205.length = ((ji80) : Int).toNat := (by rw [Ny205.out, List.length_take]; omega)
     rw [← Ny205.out] at Gl
     rw [← hy90] at Gl Kb
     clear hy90 hi090 Kl Ac
     have Da := Am Gl
     clear Gl
     replace q90 := eq_true q90
     have q91 : (Ad : Int) ≤ ((l1.length : Int) : Int) := of_decide_eq_true pS
     obtain ⟨i091, hi091, _, Jq, _⟩ := info_parts info54
     have Ey : l1.length ≤ c1 := HC1.out
     have Ke : Kd.C k54 _ (some Ar) l1.length l1 := HR1.out
     have q091 : (0 : Int) ≤ (Ad : Int) := of_decide_eq_true pS
     have Kc := cut_from (P := Try.prog) 22 54 .i64 Try.underlying22 hi091 10 Jq (some Ar) l1.length c1 Ad q091 q91
     have Gc := Kd.C_drop (m := (Ad : Int).toNat) (c := c1) Ke (by omega) Ey
     obtain ⟨A91, hA91⟩ : ∃ AX_, AX_ = (if c1 = (Ad : Int).toNat then (some Ar) else ((some Ar) : Option Addr).map (·.add ((Ad : Int).toNat * 10))) := ⟨_, rfl⟩
     obtain ⟨c91, hc91⟩ : ∃ cX_, cX_ = c1 - (Ad : Int).toNat := ⟨_, rfl⟩
     have hy91 : y208.length = l1.length - (Ad : Int).toNat := (by rw [Ny208.out, List.length_drop] <;> omega)
     rw [show (l1).drop (Ad : Int).toNat = y208 from Ny208.out.symm] at Gc
     replace Gc : Kd.C k54 _ A91 y208.length y208 := (by rw [hA91]; exact Gc)
     rw [← hy91, ← hA91, ← hc91] at Kc
     have HR211 := Am Gc
     have HC211 := Am (show y208.length ≤ c91 from by rw [hy91, hc91]; exact Nat.sub_le_sub_right Ey _)
     clear Gc Ke Ey hi091 Jq hc91
     have KY91 := Am hy91
     have KA91 := Am hA91
     clear hy91 hA91
     replace q91 := eq_true q91
     refine start_ (n := 11) (S := fun w' => cG w' Aq 2 (.slice C9 t196.length C8)) (ds := [10]) #[false, false, false, false, false, false, false, false, false, false, false] (by kernel_rfl) rfl rfl ((blk_cell Aa.out 2).trans rfl) (fun hHeld => ?_); refine with_tabW raft_Put.tab22 raft_Put.bits22 (fun HT_ HW_ => ?_)
     (first | generalize w88.drew = w89 at Ac Aa Ab HB Da HR211 hHeld ⊢ | generalize w88.drew = w89 at Aa Ab HB Da HR211 hHeld ⊢)
     refine pui 0 142 11 1 HT_ ?_
     refine zp 2 (h := zp 4 (h := zp 5 (h := zp 6 (h := ?_))))
     refine take_ (i := 1) (N := some 143) (v := ?_) (a' := ?_) (bw 11 119) rfl rfl (take_ofW HT_.out HW_.out (by kernel_rfl)) (fun _ _ _ h => h) (Or.inl ⟨by rfl, ?_⟩) hHeld ?_ ?_
     rotate_left
     ·intro w' s0
      go_simp
      with_reducible rfl
     rotate_left
     ·exact za
     refine pui 3 145 11 127 HT_ ?_
     refine onei 7 149 11 255 HT_ (fun K hK => ?_)
     refine goes_ Try.func65 (by kernel_rfl) rfl #[.slice A91 y208.length c91] (by rfl) rfl rfl pL ?_
     with_reducible refine (raft_owns.calls kj43 _ _ y208 t212 _ ?Bn ?Bo A85.out).mono ?_
     (case Bn => exact pC (Kd.C_below HR211.out HB.out))
     (case Bo => exact HC211.out)
     rintro e w92 ⟨v213, rfl, ho0, hb⟩
     refine ⟨_, rfl, ?_⟩
     have E5 := Am (Kd.N_lower (Kd.N_mono (ok' := fun k_ => (w.heap.size ≤ k_) ∧ some k_ ≠ (.slice C9 y205.length C8 : Value).ownBlock ∧ k_ ≠ Aq ∧ k_ ≠ A9) (Kd.S_N (Kd.S_bound ho0)) (fun k_ hk_ => ⟨(Nat.le_trans (below_size (pE2 HB.out At.out Aw.out)) hk_.2.1), (Kd.fresh' (Kd.N_lt (pN Da.out)) k_ hk_.2.1), (kF Aa.out k_ hk_.2.1), (kF Ab.out k_ hk_.2.1)⟩)) (below_size (pE2 HB.out At.out Aw.out)))
     replace Da := Am (Kd.N_elder' (pN Da.out) (Kd.N_base (Kd.S_N ho0)) hb)
     replace Aa := kBa Aa hb
     replace Ab := kBa Ab hb
     replace HB := zX2 HB At.out Aw.out hb
     (try clear hb)
     (try clear hb2)
     (try clear hk)
     (try clear hi)
     (try clear ho0)
     obtain ⟨Ao94, co94, Kf⟩ := Kd.N_slice E5.out
     (first | subst Kf | (injection Kf with f1_ f2_ f3_; have f4_ := f1_.symm; have f5_ := f3_.symm; clear f1_ f2_ f3_; subst f4_; subst f5_))
     refine hK.out _ _ ((blk_cell Aa.out 2).trans rfl) (fun hHeld => ?_)
     clear hK K
     refine norm_ (a' := ?_) ?_ ?_
     rotate_left
     ·show Act.put _ (some 149) _ = _
      simp only [Act.put, List.setIfInBounds_toArray, List.set_cons_zero, List.set_cons_succ, i64_w, i32_w]
      rfl
     refine onei 8 150 11 511 HT_ (fun K hK => ?_)
     refine Kd.N_append_rows_step k54 (w0 := w) w.heap.size (by rfl) (.tmp 145) (.tmp 149) 22 54 (.agg #[(.int .i64 0), (.int .i64 0), (.int .i64 0), (.string ⟨#[]⟩), (.bool false), (.slice none 0 0), (.int .i64 0), (.int .i64 0), (.int .i64 0), (.int .u32 0)]) 104 rfl Try.underlying22 info54 rfl (by decide) (by omega) (.slice C9 y205.length C8) y205 t212 _ _ _ (fun k_ => (w.heap.size ≤ k_) ∧ k_ ≠ Aq ∧ k_ ≠ A9) (fun k_ => ((fun k_ => (w.heap.size ≤ k_) ∧ k_ ≠ Aq ∧ k_ ≠ A9)) k_ ∧ some k_ ≠ (.slice C9 y205.length C8 : Value).ownBlock) rfl rfl ?aO ?aR (fun _ hk => hk) ?aF ?aB ?aS ?aL ?_
     (case aR => exact (by skip; exact Kd.N_F (Kd.N_mono (ok' := (fun k_ => ((fun k_ => (w.heap.size ≤ k_) ∧ k_ ≠ Aq ∧ k_ ≠ A9)) k_ ∧ some k_ ≠ (.slice C9 y205.length C8 : Value).ownBlock)) (E5.out) (fun k_ hk => ⟨⟨hk.1, ⟨hk.2.2.1, hk.2.2.2⟩⟩, hk.2.1⟩))))
     (case aB => exact (pE2 HB.out At.out Aw.out))
     (case aF => exact (fun k_ hk => ⟨(Nat.le_trans (below_size (pE2 HB.out At.out Aw.out)) hk), kF Aa.out k_ hk, kF Ab.out k_ hk⟩))
     (case aO => exact (by (with_reducible repeat (first | apply Kd.N_alloc | apply Kd.N_drewN | apply Kd.N_drew)); exact Kd.N_mono Da.out (fun _ hk => ⟨hk.1.1, ⟨hk.1.2.1, hk.1.2.2⟩⟩)))
     (case aS => exact (below_size (pE2 HB.out At.out Aw.out)))
     (case aL => have := LMc86.out; omega)
     intro v216 w93 ho hb hg hat
     rw [← Ny215.out] at ho
     replace Aa := Am (blk_grown (g := Aq) (o := .cells #[.int .i64 a0_0, .int .i64 a0_1, .slice C9 t196.length C8, .int .i64 a0_3, .int .i64 a0_4, .int .i64 a0_5, .int .i64 a0_6] 26 (0, 0)) (pK Aa.out) hg (Kd.N_ne Da.out Aa.out (by decide)))
     replace Ab := Am (blk_grown (g := A9) (o := .cells #[.int .i64 0, .int .i64 0, .slice none 0 0, .int .i64 0, .int .i64 0, .int .i64 0, .int .i64 0] 26 (0, 0)) (pK Ab.out) hg (Kd.N_ne Da.out Ab.out (by decide)))
     replace E5 := Am (Kd.N_afterv (ok := (fun k_ => (w.heap.size ≤ k_) ∧ k_ ≠ Aq ∧ k_ ≠ A9)) (by (with_reducible repeat (first | apply Kd.N_alloc | apply Kd.N_drewN | apply Kd.N_drew)); exact Kd.N_mono E5.out (fun _ hk => ⟨⟨hk.1, ⟨hk.2.2.1, hk.2.2.2⟩⟩, hk.2.1⟩)) hg hat)
     replace HB := Am (hb)
     have Jr := Am (ho)
     clear Da
     clear ho hb hg hat
     obtain ⟨Kg, Kh, Ki⟩ := Kd.N_slice Jr.out
     (first | subst Ki | (injection Ki with f1_ f2_ f3_; have f4_ := f1_.symm; have f5_ := f3_.symm; clear f1_ f2_ f3_; subst f4_; subst f5_))
     refine hK.out _ _ ((blk_cell Aa.out 2).trans rfl) (fun hHeld => ?_)
     clear hK K
     refine norm_ (a' := ?_) ?_ ?_
     rotate_left
     ·show Act.put _ (some 150) _ = _
      simp only [Act.put, List.setIfInBounds_toArray, List.set_cons_zero, List.set_cons_succ, i64_w, i32_w]
      rfl
     refine pui 9 151 11 1023 HT_ ?_
     refine last_ (i := 10) (N := none) (bw 11 2047) rfl rfl (one_of HT_.out (by kernel_rfl)) (by decide) (fun K hK => ?_)
     have hs96 : w93.cell? ⟨Aq, 2, none⟩ = some (.slice C9 t196.length C8) := (blk_cell Aa.out 2).trans rfl
     have hfs96 := blk_frozen Aa.out 2
     have hns96_1 := As.out
     have hms96_1 := Au.out
     refine skip_ (w1 := ?_) (by rfl) rfl ?_ ?_
     rotate_left
     ·go_simp
      rfl
     refine hK.out _ _ ?_
     clear hK K
     refine done_ (done_of HT_.out (by kernel_rfl)) ?_
     have hnb97 := Au.out
     have hnc97 := As.out
     obtain ⟨_, _, _, _, _, _, _⟩ := bc7 Aa.out
     obtain ⟨_, _, _, _, _, _, _⟩ := bf7 Aa.out
     obtain ⟨_, _, _, _, _, _, _⟩ := bc7 Ab.out
     obtain ⟨_, _, _, _, _, _, _⟩ := bf7 Ab.out
     try go_wp2
     refine bodyPost_ret (results_ct rfl _ _ A9 26 #[.int .i64 a0_0, .int .i64 a0_1, .slice Kg y215.length Kh, .int .i64 a0_3, .int .i64 a0_4, .int .i64 a0_5, .int .i64 a0_6] (0, 0) _ rfl (kX1 Ab.out As.out) Try.underlying26 rfl (by kernel_rfl)) rfl ?_
     exact ⟨_, by first | rfl | (simp [errW_none, errW_some] <;> rfl) | (simp only [← hji80]; first | rfl | (simp [errW_none, errW_some] <;> rfl)) | (simp [*, errW_none, errW_some] <;> rfl), by (with_reducible repeat (first | apply Kd.N_alloc | apply Kd.N_drewN | apply Kd.N_drew)); exact Kd.N_mono (Nf7 (g := A9) (Kd.N_far (p := ⟨Aq, 2, none⟩) (Kd.N_mono (Kd.N_mono Jr.out (fun k_ hk => (⟨hk, hk.2.1⟩ : _ ∧ k_ ≠ Aq))) (fun k_ hk => (⟨hk, hk.1.2.2⟩ : _ ∧ k_ ≠ A9))) (fun _ hk => hk.1.2) (.slice Kg y215.length Kh)) (fun _ hk => hk.2)) (fun _ hk => hk.1.1.1), pE2 HB.out At.out Aw.out⟩
end Go.Proofs.Ytmcijphmcobjlaa.PWalMakes
