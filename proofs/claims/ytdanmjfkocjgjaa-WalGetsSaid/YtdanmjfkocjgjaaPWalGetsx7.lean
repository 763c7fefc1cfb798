/- What the law reaches, as plain Lean functions, and that the machine's calls answer just that. -/
import Derived.Test.YtdanmjfkocjgjaaPWalGetsx0
import Derived.Test.YtdanmjfkocjgjaaPWalGetsx3
import Derived.Test.YtdanmjfkocjgjaaPWalGetsx6
namespace Go.Proofs.Ytdanmjfkocjgjaa.PWalGets
open Go.RowKit Go.Proofs.YtdanmjfkocjgjaaW.PrintWords Go.Proofs.YtdanmjfkocjgjaaW.PrintLast Go.Proofs.YtdanmjfkocjgjaaW.PrintMore
attribute [local go_sem] max2_int min2_int max_two min_two max_three min_three max_four min_four
set_option linter.unusedVariables false
set_option linter.unusedSimpArgs false
attribute [local go_sem] wrap64_l1 wrap64_l2 wrap64_l3 wrap64_l4 wrap64_l5
def raft_Put.l0 : Nat → List (S52) → Int → Int → Int → Int → List (S52) → Int → Int → Int → Int → Option (Int × Int × (List (S52)) × Int × Int × Int × Int × Int)
 | 0, _, _, _, _, _, _, _, _, _, _ => none
 | k + 1, x1, x6, x10, x172000, x172001, x172002, x172003, x172004, x172005, x172006 => if x10 < (x1.length : Int) then (if 0 ≤ x10 then (if ((rd_T52 x1 x10).f0) ≤ x6 then (none) else (if x10 = (x1.length : Int) then (none) else (if ((rd_T52 x1 x10).f0) ≤ x172005 then (none) else (if (wrap64 ((wrap64 ((wrap64 ((wrap64 (((rd_T52 x1 x10).f0) - x172000)) - 1)) + (x1.length : Int))) - x10)) > 1000 then (none) else (if 0 ≤ (wrap64 ((wrap64 (((rd_T52 x1 x10).f0) - x172000)) - 1)) then (if (wrap64 ((wrap64 (((rd_T52 x1 x10).f0) - x172000)) - 1)) ≤ (x172002.length : Int) then ((some (x172002.take ((wrap64 ((wrap64 (((rd_T52 x1 x10).f0) - x172000)) - 1)) : Int).toNat : List (S52))).bind fun y189 => (if x10 ≤ (x1.length : Int) then ((raft_owns.f k (x1.drop (x10 : Int).toNat)).bind fun t196 => (if y189.length + t196.length < 1353245080339 then (some (x172000, x172001, (y189 ++ t196), x172003, x172004, x172005, x172006, 0)) else (none))) else (none))) else (none)) else (none)))))) else (none)) else (none)
def raft_Put.f (k : Nat) (a0_0 : Int) (a0_1 : Int) (l0_2 : List (S52)) (a0_3 : Int) (a0_4 : Int) (a0_5 : Int) (a0_6 : Int) (l1 : List (S52)) : Option (Int × Int × (List (S52)) × Int × Int × Int × Int × Int) := (raft_Last.f k a0_0 a0_1 l0_2 a0_3 a0_4 a0_5 a0_6).bind fun bt173 => ((raft_Check.f k a0_0 a0_1 l0_2 a0_3 a0_4 a0_5 a0_6).bind fun t175 => (if t175 = 0 then (if (l1.length : Int) = 0 then (none) else ((raft_rows.f k l1).bind fun t176 => (if t176 = true then (if 0 < (l1.length : Int) then (if ((rd_T52 l1 0).f0) ≤ a0_0 then (none) else (if ((rd_T52 l1 0).f0) > (wrap64 (bt173.1 + 1)) then (none) else ((raft_Term.f k a0_0 a0_1 l0_2 a0_3 a0_4 a0_5 a0_6 (wrap64 (((rd_T52 l1 0).f0) - 1))).bind fun bt180 => (if ((rd_T52 l1 0).f1) < bt180.1 then (none) else ((raft_owns.f k l0_2).bind fun t183 => (raft_Put.l0 k l1 bt173.1 0 a0_0 a0_1 t183 a0_3 a0_4 a0_5 a0_6)))))) else (none)) else (none)))) else (none)))
theorem raft_Put.mono_l : ∀ k, (∀ y0 y1 y2 y3 y4 y5 y6 y7 y8 y9, LeO (raft_Put.l0 k y0 y1 y2 y3 y4 y5 y6 y7 y8 y9) (raft_Put.l0 (k + 1) y0 y1 y2 y3 y4 y5 y6 y7 y8 y9))
 | 0 => fun _ _ _ _ _ _ _ _ _ _ r h => by simp [raft_Put.l0] at h
 | k + 1 => by
  have ih0 := raft_Put.mono_l k
  ·intro y0 y1 y2 y3 y4 y5 y6 y7 y8 y9
   unfold raft_Put.l0
   repeat' (with_reducible first | exact ih0 .. | exact raft_Check.mono .. | exact raft_Last.mono .. | exact raft_Term.mono .. | exact raft_owns.mono .. | exact raft_rows.mono .. | exact LeO.refl .. | exact LeO.none .. | refine LeO.ite ?_ ?_ | refine LeO.bind ?_ (fun _ => ?_))
theorem raft_Put.mono : ∀ a0 a1 a2 a3 a4 a5 a6 a7 k, LeO (raft_Put.f k a0 a1 a2 a3 a4 a5 a6 a7) (raft_Put.f (k + 1) a0 a1 a2 a3 a4 a5 a6 a7) := by
 intro a0 a1 a2 a3 a4 a5 a6 a7 k
 have ih0 := raft_Put.mono_l k
 unfold raft_Put.f
 repeat' (with_reducible first | exact ih0 .. | exact raft_Check.mono .. | exact raft_Last.mono .. | exact raft_Term.mono .. | exact raft_owns.mono .. | exact raft_rows.mono .. | exact LeO.refl .. | exact LeO.none .. | refine LeO.ite ?_ ?_ | refine LeO.bind ?_ (fun _ => ?_))
def raft_Put.T4 : Bool × List (List Nat × List Nat) := (true, [([], []), ([0], [0]), ([1], [1]), ([2], [2]), ([], []), ([4], [4]), ([3, 5], [3, 5]), ([6], [6])])
def raft_Put.B4 : List Nat := [0, 1, 3, 7, 0, 16, 63, 127]
theorem raft_Put.tab4 : rtab .any (opsOf Try.f62 4) = raft_Put.T4 := by kernel_rfl
theorem raft_Put.bits4 : waitsOk raft_Put.T4.2 raft_Put.B4 = true := by kernel_rfl
def raft_Put.T8 : Bool × List (List Nat × List Nat) := (true, [([], []), ([], []), ([1], [1]), ([2], [2]), ([3], [3]), ([4], [4]), ([0, 5], [0, 5]), ([6], [6]), ([7], [7]), ([7], [7]), ([8, 6, 0, 1, 2, 3, 4, 5, 6, 7, 8], [8]), ([9, 10, 0, 1, 2, 3, 4, 5, 6, 7, 8, 9, 10], [9])])
def raft_Put.B8 : List Nat := [0, 0, 2, 6, 14, 30, 63, 127, 255, 255, 511, 2047]
theorem raft_Put.tab8 : rtab .any (opsOf Try.f62 8) = raft_Put.T8 := by kernel_rfl
theorem raft_Put.bits8 : waitsOk raft_Put.T8.2 raft_Put.B8 = true := by kernel_rfl
def raft_Put.T13 : Bool × List (List Nat × List Nat) := (true, [([], []), ([], []), ([1], [1]), ([0, 2], [0, 2]), ([3], [3]), ([4], [4]), ([4], [4]), ([5, 6, 4], [4, 5, 6]), ([7, 4], [4, 7]), ([8, 4], [4, 8]), ([4], [4]), ([9, 10, 4], [4, 9, 10]), ([4, 11], [4, 11]), ([12, 4], [12]), ([13], [13]), ([14, 13], [13, 14]), ([13], [13]), ([13], [13]), ([16, 17, 13], [13, 16, 17]), ([18, 13], [13, 18]), ([19, 13], [13, 19]), ([13], [13]), ([21, 13], [13, 21]), ([20, 22, 13], [13, 20, 22]), ([23, 13], [13, 23]), ([15, 24, 13], [13, 15, 24]), ([25, 13], [13, 25]), ([26, 13], [13, 26]), ([13], [13]), ([13], [13]), ([28, 29, 13], [13, 28, 29]), ([30, 13], [13, 30]), ([31, 13], [13, 31]), ([27, 32, 13], [13, 27, 32]), ([13, 33], [13, 33])])
def raft_Put.B13 : List Nat := [0, 0, 2, 7, 15, 31, 31, 127, 255, 511, 31, 2047, 4095, 8191, 16383, 32767, 16383, 16383, 212991, 475135, 999423, 16383, 2113535, 8339455, 16728063, 33554431, 67108863, 134217727, 16383, 16383, 805322751, 1879064575, 4026548223, 8589934591, 17179869183]
theorem raft_Put.tab13 : rtab .any (opsOf Try.f62 13) = raft_Put.T13 := by kernel_rfl
theorem raft_Put.bits13 : waitsOk raft_Put.T13.2 raft_Put.B13 = true := by kernel_rfl
def raft_Put.T17 : Bool × List (List Nat × List Nat) := (true, [([], []), ([], []), ([0, 1], [0, 1]), ([2], [2]), ([3], [3]), ([], []), ([5], [5]), ([4, 6], [4, 6]), ([7], [7]), ([8, 0, 1, 2, 3, 4, 5, 6, 7, 8], [8])])
def raft_Put.B17 : List Nat := [0, 0, 3, 7, 15, 0, 32, 127, 255, 511]
theorem raft_Put.tab17 : rtab .any (opsOf Try.f62 17) = raft_Put.T17 := by kernel_rfl
theorem raft_Put.bits17 : waitsOk raft_Put.T17.2 raft_Put.B17 = true := by kernel_rfl
def raft_Put.T18 : Bool × List (List Nat × List Nat) := (true, [([], []), ([], []), ([0, 1], [0, 1]), ([2], [2]), ([3], [3]), ([], []), ([5], [5]), ([6], [6]), ([4, 7], [4, 7]), ([8], [8])])
def raft_Put.B18 : List Nat := [0, 0, 3, 7, 15, 0, 32, 96, 255, 511]
theorem raft_Put.tab18 : rtab .any (opsOf Try.f62 18) = raft_Put.T18 := by kernel_rfl
theorem raft_Put.bits18 : waitsOk raft_Put.T18.2 raft_Put.B18 = true := by kernel_rfl
def raft_Put.T22 : Bool × List (List Nat × List Nat) := (true, [([], []), ([0], [0]), ([], []), ([1, 2], [1, 2]), ([], []), ([], []), ([4, 5], [4, 5]), ([6], [6]), ([3, 7, 7], [3, 7]), ([0, 1, 2, 3, 4, 5, 6, 7, 8], []), ([9, 8, 8, 0, 1, 2, 3, 4, 5, 6, 7, 8], [8, 9])])
def raft_Put.B22 : List Nat := [0, 1, 0, 7, 0, 0, 48, 112, 255, 511, 1023]
theorem raft_Put.tab22 : rtab .any (opsOf Try.f62 22) = raft_Put.T22 := by kernel_rfl
theorem raft_Put.bits22 : waitsOk raft_Put.T22.2 raft_Put.B22 = true := by kernel_rfl
set_option maxHeartbeats 8000000 in
set_option maxRecDepth 100000 in
theorem raft_Put.calls (k : Nat) (a0_0 : Int) (a0_1 : Int) (A0_2 : Option Addr) (c0_2 : Nat) (l0_2 : List (S52)) (a0_3 : Int) (a0_4 : Int) (a0_5 : Int) (a0_6 : Int) (A1 : Option Addr) (c1 : Nat) (l1 : List (S52)) (r1 : Int) (r2 : Int) (r3 : List (S52)) (r4 : Int) (r5 : Int) (r6 : Int) (r7 : Int) (r8 : Int) (w : World) (hr0_2 : Kd.C k52 w A0_2 l0_2.length l0_2) (hc0_2 : l0_2.length ≤ c0_2) (hr1 : Kd.C k52 w A1 l1.length l1) (hc1 : l1.length ≤ c1) (h : raft_Put.f k a0_0 a0_1 l0_2 a0_3 a0_4 a0_5 a0_6 l1 = some (r1, r2, r3, r4, r5, r6, r7, r8)) :
 Calls Try.prog 62 #[.agg #[.int .i64 a0_0, .int .i64 a0_1, .slice A0_2 l0_2.length c0_2, .int .i64 a0_3, .int .i64 a0_4, .int .i64 a0_5, .int .i64 a0_6], .slice A1 l1.length c1] w fun e w' => ∃ v2_ : Value, e = .returned (.tuple #[.agg #[.int .i64 r1, .int .i64 r2, v2_, .int .i64 r4, .int .i64 r5, .int .i64 r6, .int .i64 r7], .int .i64 r8]) ∧ Kd.N k52 52 w' w.heap.size (fun k_ => (w.heap.size ≤ k_)) v2_ r3 ∧ Below w.heap.size w w' := by
 have hu54 := Try.underlying54
 have B0 := Am hr0_2
 have B1 := Am hc0_2
 clear hr0_2 hc0_2
 have HR1 := Am hr1
 have HC1 := Am hc1
 clear hr1 hc1
 have HB := Am (Below.refl w.heap.size w)
 unfold raft_Put.f at h
 have H := h
 clear h
 replace H := Option.bind_eq_some_iff.mp H
 obtain ⟨⟨t173, t174⟩, A30, H⟩ := H
 dsimp only at H
 have A3 := Am A30
 clear A30
 replace H := Option.bind_eq_some_iff.mp H
 obtain ⟨t175, A40, H⟩ := H
 have A4 := Am A40
 clear A40
 obtain ⟨c5, H⟩ := zI H
 have c5b0 := beq_iff_eq.mpr c5
 have c5b1 := bne_eq_false_iff_eq.mpr c5
 clear c5
 obtain ⟨c6, H⟩ := zJ H
 have c6b0 := beq_eq_false_iff_ne.mpr c6
 have c6b1 := bne_iff_ne.mpr c6
 have c6b2 : ¬ (l1 = []) := fun h_ => c6 (by rw [h_]; rfl)
 replace H := Option.bind_eq_some_iff.mp H
 obtain ⟨t176, A70, H⟩ := H
 have A7 := Am A70
 clear A70
 by_cases c8 : t176 = true
 rotate_left
 ·replace c8 := Bool.eq_false_iff.mpr c8
  subst c8
  rw [if_neg zF] at H
  exact absurd H (by simp)
 subst c8
 rw [if_pos rfl] at H
 obtain ⟨c9, H⟩ := zI H
 have c9b0 := decide_eq_true c9
 have c9b1 : decide (0 < l1.length) = true := decide_eq_true (by omega)
 clear c9
 obtain ⟨c10, H⟩ := zJ H
 have c10b0 := decide_eq_false c10
 clear c10
 obtain ⟨c11, H⟩ := zJ H
 have c11b0 : decide ((wrap64 (t173 + 1)) < ((rd_T52 l1 0).f0)) = false := decide_eq_false c11
 clear c11
 replace H := Option.bind_eq_some_iff.mp H
 obtain ⟨⟨t180, t181⟩, A120, H⟩ := H
 dsimp only at H
 have A12 := Am A120
 clear A120
 obtain ⟨c13, H⟩ := zJ H
 have c13b0 := decide_eq_false c13
 clear c13
 replace H := Option.bind_eq_some_iff.mp H
 obtain ⟨t183, A140, H⟩ := H
 have A14 := Am A140
 clear A140
 have H' := Am H
 clear H
 go_enter Try.func62, Try.ntmps62
 try go_wp2_with (first | ((with_reducible refine gate_dst (N := 2) rfl ?_); (try (refine gate_guard (by rfl) ?_; dsimp only)); refine zE 2 #[.int .i64 a0_0, .int .i64 a0_1, .slice A0_2 l0_2.length c0_2, .int .i64 a0_3, .int .i64 a0_4, .int .i64 a0_5, .int .i64 a0_6] 54 ?_; intro Ad hg w15 hbox hb; have Aa := Am (hbox); have Gx := Am (zG hg (below_size (pB HB.out))); replace HB := Am (below_step (pB HB.out) hb); have Ag := Gx; clear hb hbox hg) | ((with_reducible refine gate_dst (N := 4) rfl ?_); (try (refine gate_guard (by rfl) ?_; dsimp only)); refine zE 4 #[.int .i64 0, .int .i64 0, .slice none 0 0, .int .i64 0, .int .i64 0, .int .i64 0, .int .i64 0] 54 ?_; intro Ai hg w16 hbox hb; have Ae := Am (hbox); have Gy := Am (zG hg (below_size (pE HB.out Ag.out))); replace HB := Am (below_step (pE HB.out Ag.out) hb); have Aj := Gy; have Bo := Am (zN hg (kL Aa.out)); have A8 := Am (zM hg (kL Aa.out)); replace Aa := kBa Aa hb; clear hb hbox hg; have hnb17 := Bo.out; have hnc17 := A8.out; obtain ⟨Dh, Di, Dj, Dk, Dl, Dm, Dn⟩ := bc7 Aa.out; obtain ⟨Do, Dp, Dq, Dr, Ds, Dt, Du⟩ := bf7 Aa.out) | ((with_reducible refine gate_callee (f := 74) rfl ?_); refine goesL_ (some 14) rfl rfl Try.func74 (by kernel_rfl) rfl #[.agg #[.int .i64 a0_0, .int .i64 a0_1, .slice A0_2 l0_2.length c0_2, .int .i64 a0_3, .int .i64 a0_4, .int .i64 a0_5, .int .i64 a0_6]] rfl pL ?_; (with_reducible refine (raft_Last.calls k a0_0 a0_1 _ _ l0_2 a0_3 a0_4 a0_5 a0_6 t173 t174 _ ?A9 ?Ba A3.out).mono ?_); (case A9 => exact pC (Kd.C_below B0.out HB.out)); (case Ba => exact B1.out); rintro e w19 ⟨rfl, hb⟩; refine ⟨_, rfl, ?_⟩; replace Aa := kBa Aa hb; replace Ae := kBa Ae hb; replace HB := Am (below_step (pE2 HB.out Ag.out Aj.out) hb); (try clear hb); (try clear hb2); (try clear hk); (try clear hi); obtain ⟨Dv, Dw, Dx, Dy, Dz, D0, D1⟩ := bc7 Aa.out; obtain ⟨D2, D3, D4, D5, D6, D7, D8⟩ := bf7 Aa.out) | ((with_reducible refine gate_callee (f := 37) rfl ?_); refine goesL_ (some 19) rfl rfl Try.func37 (by kernel_rfl) rfl #[.agg #[.int .i64 a0_0, .int .i64 a0_1, .slice A0_2 l0_2.length c0_2, .int .i64 a0_3, .int .i64 a0_4, .int .i64 a0_5, .int .i64 a0_6]] rfl pL ?_; (with_reducible refine (raft_Check.calls k a0_0 a0_1 _ _ l0_2 a0_3 a0_4 a0_5 a0_6 t175 _ ?A9 ?Ba A4.out).mono ?_); (case A9 => exact pC (Kd.C_below B0.out HB.out)); (case Ba => exact B1.out); rintro e w21 ⟨rfl, hb⟩; refine ⟨_, rfl, ?_⟩; replace Aa := kBa Aa hb; replace Ae := kBa Ae hb; replace HB := Am (below_step (pE2 HB.out Ag.out Aj.out) hb); (try clear hb); (try clear hb2); (try clear hk); (try clear hi)) | (go_at_call 60; (with_reducible refine (raft_rows.calls k _ _ l1 true _ ?A9 ?Ba A7.out).mono ?_); (case A9 => exact pC (Kd.C_below HR1.out HB.out)); (case Ba => exact HC1.out); rintro e w22 ⟨rfl, hb⟩; replace Aa := kBa Aa hb; replace Ae := kBa Ae hb; replace HB := Am (below_step (pE2 HB.out Ag.out Aj.out) hb); (try clear hb); (try clear hb2); (try clear hk); (try clear hi)))
 replace Aa := kDa Aa
 replace Ae := kDa Ae
 replace HB := bDa HB
 have p177 : 0 ≤ (0 : Int) := (by omega)
 have q177 : 0 < (l1.length : Int) := of_decide_eq_true pS
 obtain ⟨Ac, Gl, c177_5, e177, Ak, Al, An, Ao, Ap, Ah, Aq, Ar, As, At, B3, B4⟩ := at_T52 HR1.out 0 p177 q177
 have Bp := At
 (try rw [tz] at Bp)
 (try rw [show 0 * 10 = 0 from rfl] at Bp)
 (try rw [Addr.add_zero'] at Bp)
 have Bq := As
 (try rw [tz] at Bq)
 (try rw [show 0 * 10 = 0 from rfl] at Bq)
 (try rw [Addr.add_zero'] at Bq)
 have Br := Ar
 (try rw [tz] at Br)
 (try rw [show 0 * 10 = 0 from rfl] at Br)
 (try rw [Addr.add_zero'] at Br)
 have Bs := Aq
 (try rw [tz] at Bs)
 (try rw [show 0 * 10 = 0 from rfl] at Bs)
 (try rw [Addr.add_zero'] at Bs)
 have Bt := Ah
 (try rw [tz] at Bt)
 (try rw [show 0 * 10 = 0 from rfl] at Bt)
 (try rw [Addr.add_zero'] at Bt)
 have Bu := Ap
 (try rw [tz] at Bu)
 (try rw [show 0 * 10 = 0 from rfl] at Bu)
 (try rw [Addr.add_zero'] at Bu)
 have Bv := Ao
 (try rw [tz] at Bv)
 (try rw [show 0 * 10 = 0 from rfl] at Bv)
 (try rw [Addr.add_zero'] at Bv)
 have Bw := An
 (try rw [tz] at Bw)
 (try rw [show 0 * 10 = 0 from rfl] at Bw)
 (try rw [Addr.add_zero'] at Bw)
 have Bx := Al
 (try rw [tz] at Bx)
 (try rw [show 0 * 10 = 0 from rfl] at Bx)
 (try rw [Addr.add_zero'] at Bx)
 have By := Ak
 (try rw [tz] at By)
 (try rw [show 0 * 10 = 0 from rfl] at By)
 (try rw [Addr.add_zero'] at By)
 cases e177
 have qi177 : (0 < l1.length) = True := eq_true (by omega)
 (try rw [tz] at Ak)
 (try rw [show 0 * 10 = 0 from rfl] at Ak)
 (try rw [Addr.add_zero'] at Ak)
 (try rw [tz] at Al)
 (try rw [show 0 * 10 = 0 from rfl] at Al)
 (try rw [Addr.add_zero'] at Al)
 (try rw [tz] at An)
 (try rw [show 0 * 10 = 0 from rfl] at An)
 (try rw [Addr.add_zero'] at An)
 (try rw [tz] at Ao)
 (try rw [show 0 * 10 = 0 from rfl] at Ao)
 (try rw [Addr.add_zero'] at Ao)
 (try rw [tz] at Ap)
 (try rw [show 0 * 10 = 0 from rfl] at Ap)
 (try rw [Addr.add_zero'] at Ap)
 (try rw [tz] at Ah)
 (try rw [show 0 * 10 = 0 from rfl] at Ah)
 (try rw [Addr.add_zero'] at Ah)
 (try rw [tz] at Aq)
 (try rw [show 0 * 10 = 0 from rfl] at Aq)
 (try rw [Addr.add_zero'] at Aq)
 (try rw [tz] at Ar)
 (try rw [show 0 * 10 = 0 from rfl] at Ar)
 (try rw [Addr.add_zero'] at Ar)
 (try rw [tz] at As)
 (try rw [show 0 * 10 = 0 from rfl] at As)
 (try rw [Addr.add_zero'] at As)
 (try rw [tz] at At)
 (try rw [show 0 * 10 = 0 from rfl] at At)
 (try rw [Addr.add_zero'] at At)
 replace Ak := cU HB.out Ak
 replace Al := cU HB.out Al
 replace An := cU HB.out An
 replace Ao := cU HB.out Ao
 replace Ap := cU HB.out Ap
 replace Ah := cU HB.out Ah
 replace Aq := cU HB.out Aq
 replace Ar := cU HB.out Ar
 replace As := cU HB.out As
 replace At := cU HB.out At
 have D9 := Am B4
 have HC177_5 := Am B3
 clear B4 B3
 replace p177 := eq_true p177
 replace q177 := eq_true q177
 refine start_ (n := 8) (S := fun w' => cG w' Ad 0 (.int .i64 a0_0) ∧ cG w' Ad 1 (.int .i64 a0_1) ∧ cG w' Ad 2 (.slice A0_2 l0_2.length c0_2) ∧ cG w' Ad 3 (.int .i64 a0_3) ∧ cG w' Ad 4 (.int .i64 a0_4) ∧ cG w' Ad 5 (.int .i64 a0_5) ∧ cG w' Ad 6 (.int .i64 a0_6) ∧ w'.cell? Ac = some (.int .i64 ((rd_T52 l1 0).f0)) ∧ cA w' Ac 1 (.int .i64 ((rd_T52 l1 0).f1)) ∧ cA w' Ac 2 (.int .i64 ((rd_T52 l1 0).f2)) ∧ cA w' Ac 3 (.string ((rd_T52 l1 0).f3)) ∧ cA w' Ac 4 (.bool ((rd_T52 l1 0).f4.f0)) ∧ cA w' Ac 5 (.slice Gl ((rd_T52 l1 0).f4.f1).length c177_5) ∧ cA w' Ac 6 (.int .i64 ((rd_T52 l1 0).f4.f2.f0)) ∧ cA w' Ac 7 (.int .i64 ((rd_T52 l1 0).f4.f2.f1)) ∧ cA w' Ac 8 (.int .i64 ((rd_T52 l1 0).f4.f2.f2)) ∧ cA w' Ac 9 (.int .u32 ((rd_T52 l1 0).f4.f2.f3))) (ds := []) #[false, false, false, false, false, false, false, false] (by kernel_rfl) rfl rfl ⟨(blk_cell Aa.out 0).trans rfl, (blk_cell Aa.out 1).trans rfl, (blk_cell Aa.out 2).trans rfl, (blk_cell Aa.out 3).trans rfl, (blk_cell Aa.out 4).trans rfl, (blk_cell Aa.out 5).trans rfl, (blk_cell Aa.out 6).trans rfl, (cT HB.out By), (cT HB.out Bx), (cT HB.out Bw), (cT HB.out Bv), (cT HB.out Bu), (cT HB.out Bt), (cT HB.out Bs), (cT HB.out Br), (cT HB.out Bq), (cT HB.out Bp)⟩ (fun hHeld => ?_); refine with_tabW raft_Put.tab4 raft_Put.bits4 (fun HT_ HW_ => ?_)
 generalize w22.drew = w23 at Aa Ae HB D9 Ak Al An Ao Ap Ah Aq Ar As At hHeld ⊢
 refine pui 0 33 8 1 HT_ ?_
 refine pui 1 34 8 3 HT_ ?_
 refine pui 2 35 8 7 HT_ ?_
 refine pui 4 37 8 23 HT_ ?_
 refine tki 3 36 8 31 HT_ HW_ hHeld ?_
 refine tki 5 38 8 63 HT_ HW_ hHeld ?_
 refine pui 6 39 8 127 HT_ ?_
 refine pui 7 32 8 255 HT_ ?_
 refine done_ (done_of HT_.out (by kernel_rfl)) ?_
 have p178 : 0 ≤ (0 : Int) := (by omega)
 have q178 : 0 < (l1.length : Int) := of_decide_eq_true pS
 obtain ⟨Gz, A178_5, c178_5, e178, Ea, Eb, Ec, Ed, Ee, B5, Ef, Eg, Eh, Ei, B6, B7⟩ := at_T52uz HR1.out p178 q178 HB.out
 obtain rfl : Ac = Gz := (by injection e178)
 have qi178 : (0 < l1.length) = True := eq_true (by omega)
 have HR178_5 := Am B7
 have HC178_5 := Am B6
 clear B7 B6
 replace p178 := eq_true p178
 replace q178 := eq_true q178
 have ea_ := Option.some.inj (Ah.symm.trans B5)
 injection ea_ with ea_ en_ ec_
 subst ea_
 subst ec_
 clear en_
 try go_wp2
 replace Aa := kDa Aa
 replace Ae := kDa Ae
 replace HB := bDa HB
 have p179 : 0 ≤ (0 : Int) := (by omega)
 have q179 : 0 < (l1.length : Int) := of_decide_eq_true pS
 obtain ⟨G0, Gm, c179_5, e179, Au, Av, Aw, Ax, Ay, Az, A0, A2, A5, A6, B8, B9⟩ := at_T52 HR1.out 0 p179 q179
 have Bc := A6
 (try rw [tz] at Bc)
 (try rw [show 0 * 10 = 0 from rfl] at Bc)
 (try rw [Addr.add_zero'] at Bc)
 have Bd := A5
 (try rw [tz] at Bd)
 (try rw [show 0 * 10 = 0 from rfl] at Bd)
 (try rw [Addr.add_zero'] at Bd)
 have Be := A2
 (try rw [tz] at Be)
 (try rw [show 0 * 10 = 0 from rfl] at Be)
 (try rw [Addr.add_zero'] at Be)
 have Bf := A0
 (try rw [tz] at Bf)
 (try rw [show 0 * 10 = 0 from rfl] at Bf)
 (try rw [Addr.add_zero'] at Bf)
 have Bg := Az
 (try rw [tz] at Bg)
 (try rw [show 0 * 10 = 0 from rfl] at Bg)
 (try rw [Addr.add_zero'] at Bg)
 have Bh := Ay
 (try rw [tz] at Bh)
 (try rw [show 0 * 10 = 0 from rfl] at Bh)
 (try rw [Addr.add_zero'] at Bh)
 have Bi := Ax
 (try rw [tz] at Bi)
 (try rw [show 0 * 10 = 0 from rfl] at Bi)
 (try rw [Addr.add_zero'] at Bi)
 have Bj := Aw
 (try rw [tz] at Bj)
 (try rw [show 0 * 10 = 0 from rfl] at Bj)
 (try rw [Addr.add_zero'] at Bj)
 have Bk := Av
 (try rw [tz] at Bk)
 (try rw [show 0 * 10 = 0 from rfl] at Bk)
 (try rw [Addr.add_zero'] at Bk)
 have Bl := Au
 (try rw [tz] at Bl)
 (try rw [show 0 * 10 = 0 from rfl] at Bl)
 (try rw [Addr.add_zero'] at Bl)
 obtain rfl : Ac = G0 := (by injection e179)
 have qi179 : (0 < l1.length) = True := eq_true (by omega)
 (try rw [tz] at Au)
 (try rw [show 0 * 10 = 0 from rfl] at Au)
 (try rw [Addr.add_zero'] at Au)
 (try rw [tz] at Av)
 (try rw [show 0 * 10 = 0 from rfl] at Av)
 (try rw [Addr.add_zero'] at Av)
 (try rw [tz] at Aw)
 (try rw [show 0 * 10 = 0 from rfl] at Aw)
 (try rw [Addr.add_zero'] at Aw)
 (try rw [tz] at Ax)
 (try rw [show 0 * 10 = 0 from rfl] at Ax)
 (try rw [Addr.add_zero'] at Ax)
 (try rw [tz] at Ay)
 (try rw [show 0 * 10 = 0 from rfl] at Ay)
 (try rw [Addr.add_zero'] at Ay)
 (try rw [tz] at Az)
 (try rw [show 0 * 10 = 0 from rfl] at Az)
 (try rw [Addr.add_zero'] at Az)
 (try rw [tz] at A0)
 (try rw [show 0 * 10 = 0 from rfl] at A0)
 (try rw [Addr.add_zero'] at A0)
 (try rw [tz] at A2)
 (try rw [show 0 * 10 = 0 from rfl] at A2)
 (try rw [Addr.add_zero'] at A2)
 (try rw [tz] at A5)
 (try rw [show 0 * 10 = 0 from rfl] at A5)
 (try rw [Addr.add_zero'] at A5)
 (try rw [tz] at A6)
 (try rw [show 0 * 10 = 0 from rfl] at A6)
 (try rw [Addr.add_zero'] at A6)
 replace Au := cU HB.out Au
 replace Av := cU HB.out Av
 replace Aw := cU HB.out Aw
 replace Ax := cU HB.out Ax
 replace Ay := cU HB.out Ay
 replace Az := cU HB.out Az
 replace A0 := cU HB.out A0
 replace A2 := cU HB.out A2
 replace A5 := cU HB.out A5
 replace A6 := cU HB.out A6
 have Ej := Am B9
 have HC179_5 := Am B8
 clear B9 B8
 replace p179 := eq_true p179
 replace q179 := eq_true q179
 refine start_ (n := 12) (S := fun w' => cG w' Ad 0 (.int .i64 a0_0) ∧ cG w' Ad 1 (.int .i64 a0_1) ∧ cG w' Ad 2 (.slice A0_2 l0_2.length c0_2) ∧ cG w' Ad 3 (.int .i64 a0_3) ∧ cG w' Ad 4 (.int .i64 a0_4) ∧ cG w' Ad 5 (.int .i64 a0_5) ∧ cG w' Ad 6 (.int .i64 a0_6) ∧ w'.cell? Ac = some (.int .i64 ((rd_T52 l1 0).f0)) ∧ cA w' Ac 1 (.int .i64 ((rd_T52 l1 0).f1)) ∧ cA w' Ac 2 (.int .i64 ((rd_T52 l1 0).f2)) ∧ cA w' Ac 3 (.string ((rd_T52 l1 0).f3)) ∧ cA w' Ac 4 (.bool ((rd_T52 l1 0).f4.f0)) ∧ cA w' Ac 5 (.slice Gm ((rd_T52 l1 0).f4.f1).length c179_5) ∧ cA w' Ac 6 (.int .i64 ((rd_T52 l1 0).f4.f2.f0)) ∧ cA w' Ac 7 (.int .i64 ((rd_T52 l1 0).f4.f2.f1)) ∧ cA w' Ac 8 (.int .i64 ((rd_T52 l1 0).f4.f2.f2)) ∧ cA w' Ac 9 (.int .u32 ((rd_T52 l1 0).f4.f2.f3))) (ds := []) #[false, false, false, false, false, false, false, false, false, false, false, false] (by kernel_rfl) rfl rfl ⟨(blk_cell Aa.out 0).trans rfl, (blk_cell Aa.out 1).trans rfl, (blk_cell Aa.out 2).trans rfl, (blk_cell Aa.out 3).trans rfl, (blk_cell Aa.out 4).trans rfl, (blk_cell Aa.out 5).trans rfl, (blk_cell Aa.out 6).trans rfl, (cT HB.out Bl), (cT HB.out Bk), (cT HB.out Bj), (cT HB.out Bi), (cT HB.out Bh), (cT HB.out Bg), (cT HB.out Bf), (cT HB.out Be), (cT HB.out Bd), (cT HB.out Bc)⟩ (fun hHeld => ?_); refine with_tabW raft_Put.tab8 raft_Put.bits8 (fun HT_ HW_ => ?_)
 generalize w23.drew = w24 at Aa Ae HB Ej Au Av Aw Ax Ay Az A0 A2 A5 A6 hHeld ⊢
 refine pui 1 52 12 2 HT_ ?_
 refine pui 2 53 12 6 HT_ ?_
 refine pui 3 54 12 14 HT_ ?_
 refine tki 0 51 12 15 HT_ HW_ hHeld ?_
 refine tki 4 55 12 31 HT_ HW_ hHeld ?_
 refine pui 5 56 12 63 HT_ ?_
 refine onei 6 57 12 127 HT_ (fun K hK => ?_)
 refine goes_ Try.func75 (by kernel_rfl) rfl #[.agg #[.int .i64 a0_0, .int .i64 a0_1, .slice A0_2 l0_2.length c0_2, .int .i64 a0_3, .int .i64 a0_4, .int .i64 a0_5, .int .i64 a0_6], .int .i64 (wrap64 (((rd_T52 l1 0).f0) - 1))] (by rfl) rfl rfl pL ?_
 with_reducible refine (raft_Term.calls k a0_0 a0_1 _ _ l0_2 a0_3 a0_4 a0_5 a0_6 (wrap64 (((rd_T52 l1 0).f0) - 1)) t180 t181 _ ?A9 ?Ba A12.out).mono ?_
 (case A9 => exact pC (Kd.C_below B0.out HB.out))
 (case Ba => exact B1.out)
 rintro e w25 ⟨rfl, hb⟩
 refine ⟨_, rfl, ?_⟩
 replace Aa := kBa Aa hb
 replace Ae := kBa Ae hb
 replace HB := Am (below_step (pE2 HB.out Ag.out Aj.out) hb)
 (try clear hb)
 (try clear hb2)
 (try clear hk)
 (try clear hi)
 refine hK.out _ _ ⟨(blk_cell Aa.out 0).trans rfl, (blk_cell Aa.out 1).trans rfl, (blk_cell Aa.out 2).trans rfl, (blk_cell Aa.out 3).trans rfl, (blk_cell Aa.out 4).trans rfl, (blk_cell Aa.out 5).trans rfl, (blk_cell Aa.out 6).trans rfl, (cT HB.out Bl), (cT HB.out Bk), (cT HB.out Bj), (cT HB.out Bi), (cT HB.out Bh), (cT HB.out Bg), (cT HB.out Bf), (cT HB.out Be), (cT HB.out Bd), (cT HB.out Bc)⟩ (fun hHeld => ?_)
 clear hK K
 refine norm_ (a' := ?_) ?_ ?_
 rotate_left
 ·show Act.put _ (some 57) _ = _
  simp only [Act.put, List.setIfInBounds_toArray, List.set_cons_zero, List.set_cons_succ, i64_w, i32_w]
  rfl
 refine pui 7 50 12 255 HT_ ?_
 refine pui 8 58 12 511 HT_ ?_
 refine pui 9 59 12 1023 HT_ ?_
 refine pui 10 8 12 2047 HT_ ?_
 refine pui 11 9 12 4095 HT_ ?_
 refine done_ (done_of HT_.out (by kernel_rfl)) ?_
 have p182 : 0 ≤ (0 : Int) := (by omega)
 have q182 : 0 < (l1.length : Int) := of_decide_eq_true pS
 obtain ⟨G1, A182_5, c182_5, e182, Ek, El, Em, En, Eo, Ep, Er, Es, Et, Eu, Ca, Cb⟩ := at_T52uz HR1.out p182 q182 HB.out
 obtain rfl : Ac = G1 := (by injection e182)
 have qi182 : (0 < l1.length) = True := eq_true (by omega)
 have HR182_5 := Am Cb
 have HC182_5 := Am Ca
 clear Cb Ca
 replace p182 := eq_true p182
 replace q182 := eq_true q182
 obtain ⟨Ew, Ex, Ey, Ez, E0, E1, E2⟩ := bc7 Aa.out
 obtain ⟨E3, E4, E5, E6, E7, E8, E9⟩ := bf7 Aa.out
 try go_wp2_with (first | ((with_reducible refine gate_callee (f := 76) rfl ?_); refine goesL_ (some 69) rfl rfl Try.func76 (by kernel_rfl) rfl #[.slice A0_2 l0_2.length c0_2] rfl pL ?_; (with_reducible refine (raft_owns.calls k _ _ l0_2 t183 _ ?A9 ?Ba A14.out).mono ?_); (case A9 => exact pC (Kd.C_below B0.out HB.out)); (case Ba => exact B1.out); rintro e w27 ⟨v184, rfl, ho0, hb⟩; refine ⟨_, rfl, ?_⟩; have Gi := Am (Kd.N_lower (Kd.N_mono (ok' := fun k_ => (w.heap.size ≤ k_) ∧ k_ ≠ Ad ∧ k_ ≠ Ai) (Kd.S_N (Kd.S_bound ho0)) (fun k_ hk_ => ⟨(Nat.le_trans (below_size (pE2 HB.out Ag.out Aj.out)) hk_.2.1), (kF Aa.out k_ hk_.2.1), (kF Ae.out k_ hk_.2.1)⟩)) (below_size (pE2 HB.out Ag.out Aj.out))); replace Aa := kBa Aa hb; replace Ae := kBa Ae hb; replace HB := Am (below_step (pE2 HB.out Ag.out Aj.out) hb); (try clear hb); (try clear hb2); (try clear hk); (try clear hi); (try clear ho0); obtain ⟨Bm, Bn, G6⟩ := Kd.N_slice Gi.out; subst G6; obtain ⟨Fa, Fb, Fc, Fd, Fe, Ff, Fg⟩ := bc7 Aa.out; obtain ⟨Fh, Fi, Fj, Fk, Fl, Fm, Fn⟩ := bf7 Aa.out))
 go_loopg [10] k (fun kq v10 w' => ∃ (Ab : Int), v10 = .int .i64 Ab ∧ Aside0 (raft_Put.l0 kq l1 t173 Ab a0_0 a0_1 t183 a0_3 a0_4 a0_5 a0_6 = some (r1, r2, r3, r4, r5, r6, r7, r8)) ∧ Aside0 (kq ≤ k) ∧ Aside0 (Kd.N k52 52 w' w.heap.size (fun k_ => (w.heap.size ≤ k_) ∧ k_ ≠ Ad ∧ k_ ≠ Ai) (.slice Bm t183.length Bn) t183) ∧ Aside0 (w'.heap[Ad]? = some (.cells #[.int .i64 a0_0, .int .i64 a0_1, (.slice Bm t183.length Bn), .int .i64 a0_3, .int .i64 a0_4, .int .i64 a0_5, .int .i64 a0_6] 54 (0, 0))) ∧ Aside0 (w'.heap[Ai]? = some (.cells #[.int .i64 0, .int .i64 0, (.slice none 0 0), .int .i64 0, .int .i64 0, .int .i64 0, .int .i64 0] 54 (0, 0))) ∧ Aside0 (Below w.heap.size w w'))
 case atStart => exact ⟨(0), zr, H', ⟨Nat.le_refl _⟩, ⟨by (with_reducible repeat (first | apply Kd.N_alloc | apply Kd.N_drewN | apply Kd.N_drew)); exact Kd.N_mono (Kd.N_far (p := ⟨Ad, 2, none⟩) (Kd.N_mono Gi.out (fun k_ hk => (⟨hk, hk.2.1⟩ : _ ∧ k_ ≠ Ad))) (fun _ hk => hk.2) (.slice Bm t183.length Bn)) (fun _ hk => ⟨hk.1.1, ⟨hk.1.2.1, hk.1.2.2⟩⟩)⟩, ⟨by (with_reducible repeat (first | refine blk_drewN ?_ _ | refine blk_drew ?_ | refine blk_alloc ?_ _)); refine blk_put (cs := #[.int .i64 a0_0, .int .i64 a0_1, .slice A0_2 l0_2.length c0_2, .int .i64 a0_3, .int .i64 a0_4, .int .i64 a0_5, .int .i64 a0_6]) ?_ 2 _ rfl; (with_reducible repeat (first | refine blk_drewN ?_ _ | refine blk_drew ?_ | refine blk_alloc ?_ _)); exact Aa.out⟩, ⟨kX1 Ae.out A8.out⟩, ⟨pE2 HB.out Ag.out Aj.out⟩⟩
 case round =>
  clear H'
  try clear c1
  try clear p1
  try clear q1
  try clear hx1
  try clear qi1
  try clear p2
  try clear c3
  try clear c5
  try clear c5b0
  try clear c5b1
  try clear c6
  try clear c6b0
  try clear c6b1
  try clear c6b2
  try clear p6
  try clear c7
  try clear c8
  try clear c9
  try clear c9b0
  try clear c9b1
  try clear c10
  try clear c10b0
  try clear c11
  try clear c11b0
  try clear c13
  try clear c13b0
  try clear c17
  try clear p17
  try clear q17
  try clear hx17
  try clear qi17
  try clear c18
  try clear p18
  try clear q18
  try clear hx18
  try clear qi18
  try clear Dh Di Dj Dk Dl Dm Dn
  try clear Dv Dw Dx Dy Dz D0 D1
  try clear Ew Ex Ey Ez E0 E1 E2
  try clear Fa Fb Fc Fd Fe Ff Fg
  try clear Do Dp Dq Dr Ds Dt Du
  try clear D2 D3 D4 D5 D6 D7 D8
  try clear E3 E4 E5 E6 E7 E8 E9
  try clear Fh Fi Fj Fk Fl Fm Fn
  try clear Ak
  try clear Al
  try clear An
  try clear Ao
  try clear Ap
  try clear Ah
  try clear Aq
  try clear Ar
  try clear As
  try clear At
  try clear Ea
  try clear Eb
  try clear Ec
  try clear Ed
  try clear Ee
  try clear B5
  try clear Ef
  try clear Eg
  try clear Eh
  try clear Ei
  try clear Au
  try clear Av
  try clear Aw
  try clear Ax
  try clear Ay
  try clear Az
  try clear A0
  try clear A2
  try clear A5
  try clear A6
  try clear Ek
  try clear El
  try clear Em
  try clear En
  try clear Eo
  try clear Ep
  try clear Er
  try clear Es
  try clear Et
  try clear Eu
  try clear p177
  try clear p178
  try clear p179
  try clear p182
  try clear q177
  try clear q178
  try clear q179
  try clear q182
  obtain ⟨Ab, rfl, HA, HK1, Af, Aa, Ae, HB⟩ := hrel
  cases gk with
  | zero => exact absurd HA.out (by simp [raft_Put.l0])
  | succ k1 =>
   have H := HA.out
   clear HA
   simp only [raft_Put.l0] at H
   obtain ⟨c30, H⟩ := zI H
   have c30b0 := decide_eq_true c30
   clear c30
   obtain ⟨c31, H⟩ := zI H
   have c31b0 := decide_eq_true c31
   clear c31
   obtain ⟨c32, H⟩ := zJ H
   have c32b0 := decide_eq_false c32
   clear c32
   obtain ⟨c33, H⟩ := zJ H
   have c33b0 := beq_eq_false_iff_ne.mpr c33
   have c33b1 := bne_iff_ne.mpr c33
   obtain ⟨c34, H⟩ := zJ H
   have c34b0 := decide_eq_false c34
   clear c34
   obtain ⟨c35, H⟩ := zJ H
   have c35b0 : decide (1000 < (wrap64 ((wrap64 ((wrap64 ((wrap64 (((rd_T52 l1 Ab).f0) - a0_0)) - 1)) + (l1.length : Int))) - Ab))) = false := decide_eq_false c35
   clear c35
   obtain ⟨ji36, hji36⟩ : ∃ j_ : Int, (wrap64 ((wrap64 (((rd_T52 l1 Ab).f0) - a0_0)) - 1)) = j_ := ⟨_, rfl⟩
   replace H : (if 0 ≤ (ji36) then (if (ji36) ≤ (t183.length : Int) then ((some (t183.take ((ji36) : Int).toNat : List (S52))).bind fun y189 => (if Ab ≤ (l1.length : Int) then ((raft_owns.f k1 (l1.drop (Ab : Int).toNat)).bind fun t196 => (if y189.length + t196.length < 1353245080339 then (some (a0_0, a0_1, (y189 ++ t196), a0_3, a0_4, a0_5, a0_6, 0)) else (none))) else (none))) else (none)) else (none)) = some (r1, r2, r3, r4, r5, r6, r7, r8) := by first | (rw [hji36] at H; exact H) | (simp only [hji36] at H ⊢; exact H)
   (try rw [hji36] at c11b0)
   (try rw [hji36] at c35b0)
   have hji36w : (IntKind.i64.wrap ((wrap64 (((rd_T52 l1 Ab).f0) - a0_0)) - 1)) = ji36 := (i64_w _).trans hji36
   obtain ⟨c37, H⟩ := zI H
   have c37b0 := eq_true c37
   have c37b1 := decide_eq_true c37
   clear c37
   obtain ⟨c38, H⟩ := zI H
   have c38b0 := eq_true c38
   have c38b1 := decide_eq_true c38
   clear c38
   obtain ⟨y189, hy189⟩ : ∃ y_ : List (S52), y_ = (t183.take ((ji36) : Int).toNat) := ⟨_, rfl⟩
   replace H : (if Ab ≤ (l1.length : Int) then ((raft_owns.f k1 (l1.drop (Ab : Int).toNat)).bind fun t196 => (if y189.length + t196.length < 1353245080339 then (some (a0_0, a0_1, (y189 ++ t196), a0_3, a0_4, a0_5, a0_6, 0)) else (none))) else (none)) = some (r1, r2, r3, r4, r5, r6, r7, r8) := by first | (rw [hy189]; with_reducible exact H) | (have H2_ := (Option.bind_some _ _).symm.trans H; rw [hy189]; with_reducible exact H2_) | (have H2_ := (Option.bind_some _ _).symm.trans H; with_reducible exact H2_) | with_reducible exact H | (rw [hy189]; exact H) | exact H
   have Ny189 := Am hy189
   clear hy189
   have c39b0 := eq_true (of_decide_eq_true pS : 0 ≤ Ab)
   obtain ⟨c40, H⟩ := zI H
   have c40b0 := eq_true c40
   have c40b1 := decide_eq_true c40
   clear c40
   obtain ⟨y192, hy192⟩ : ∃ y_ : List (S52), y_ = (l1.drop (Ab : Int).toNat) := ⟨_, rfl⟩
   replace H : ((raft_owns.f k1 y192).bind fun t196 => (if y189.length + t196.length < 1353245080339 then (some (a0_0, a0_1, (y189 ++ t196), a0_3, a0_4, a0_5, a0_6, 0)) else (none))) = some (r1, r2, r3, r4, r5, r6, r7, r8) := by first | (rw [hy192]; with_reducible exact H) | (have H2_ := (Option.bind_some _ _).symm.trans H; rw [hy192]; with_reducible exact H2_) | (have H2_ := (Option.bind_some _ _).symm.trans H; with_reducible exact H2_) | with_reducible exact H | (rw [hy192]; exact H) | exact H
   have Ny192 := Am hy192
   clear hy192
   replace H := Option.bind_eq_some_iff.mp H
   obtain ⟨t196, A410, H⟩ := H
   have A41 := Am A410
   clear A410
   obtain ⟨c42, H⟩ := zI H
   have LMc42 := Am c42
   clear c42
   obtain ⟨y199, hy199⟩ : ∃ y_ : List (S52), y_ = (y189 ++ t196) := ⟨_, rfl⟩
   replace H : (some (a0_0, a0_1, y199, a0_3, a0_4, a0_5, a0_6, 0)) = some (r1, r2, r3, r4, r5, r6, r7, r8) := by first | (rw [hy199]; with_reducible exact H) | (have H2_ := (Option.bind_some _ _).symm.trans H; rw [hy199]; with_reducible exact H2_) | (have H2_ := (Option.bind_some _ _).symm.trans H; with_reducible exact H2_) | with_reducible exact H | (rw [hy199]; exact H) | exact H
   have Ny199 := Am hy199
   clear hy199
   simp only [Option.some.injEq, Prod.mk.injEq] at H
   obtain ⟨rfl, rfl, rfl, rfl, rfl, rfl, rfl, rfl⟩ := H
   try go_wp2
   replace Af := dNa Af
   replace Aa := kDa Aa
   replace Ae := kDa Ae
   replace HB := bDa HB
   have p186 : 0 ≤ (Ab : Int) := of_decide_eq_true pS
   have q186 : Ab < (l1.length : Int) := of_decide_eq_true pS
   obtain ⟨G2, Gn, c186_5, e186, Cc, Cd, Ce, Cf, Cg, Ch, Ci, Cj, Ck, Cl, Cm, Cn, Fo, Fp, Fq, Fr, Fs, Ft, Fu, Fv, Fw, Fx⟩ := at_T52w HR1.out Ab p186 q186 HB.out
   obtain rfl : Ac = G2 := (by injection e186)
   have Co := Am Cn
   have HC186_5 := Am Cm
   clear Cn Cm
   replace p186 := eq_true p186
   replace q186 := eq_true q186
   refine start_ (n := 35) (S := fun w' => w'.cell? (Ac.add ((Ab).toNat * 10)) = some (.int .i64 ((rd_T52 l1 Ab).f0)) ∧ cA w' (Ac.add ((Ab).toNat * 10)) 1 (.int .i64 ((rd_T52 l1 Ab).f1)) ∧ cA w' (Ac.add ((Ab).toNat * 10)) 2 (.int .i64 ((rd_T52 l1 Ab).f2)) ∧ cA w' (Ac.add ((Ab).toNat * 10)) 3 (.string ((rd_T52 l1 Ab).f3)) ∧ cA w' (Ac.add ((Ab).toNat * 10)) 4 (.bool ((rd_T52 l1 Ab).f4.f0)) ∧ cA w' (Ac.add ((Ab).toNat * 10)) 5 (.slice Gn ((rd_T52 l1 Ab).f4.f1).length c186_5) ∧ cA w' (Ac.add ((Ab).toNat * 10)) 6 (.int .i64 ((rd_T52 l1 Ab).f4.f2.f0)) ∧ cA w' (Ac.add ((Ab).toNat * 10)) 7 (.int .i64 ((rd_T52 l1 Ab).f4.f2.f1)) ∧ cA w' (Ac.add ((Ab).toNat * 10)) 8 (.int .i64 ((rd_T52 l1 Ab).f4.f2.f2)) ∧ cA w' (Ac.add ((Ab).toNat * 10)) 9 (.int .u32 ((rd_T52 l1 Ab).f4.f2.f3))) (ds := []) #[false, false, false, false, false, false, false, false, false, false, false, false, false, false, false, false, false, false, false, false, false, false, false, false, false, false, false, false, false, false, false, false, false, false, false] (by kernel_rfl) rfl rfl ⟨(cT HB.out Fo), (cT HB.out Fp), (cT HB.out Fq), (cT HB.out Fr), (cT HB.out Fs), (cT HB.out Ft), (cT HB.out Fu), (cT HB.out Fv), (cT HB.out Fw), (cT HB.out Fx)⟩ (fun hHeld => ?_); refine with_tabW raft_Put.tab13 raft_Put.bits13 (fun HT_ HW_ => ?_)
   (first | generalize wr.drew = w43 at Af Aa Ae HB Co Cc Cd Ce Cf Cg Ch Ci Cj Ck Cl hHeld ⊢ | generalize wr.drew = w43 at Aa Ae HB Co Cc Cd Ce Cf Cg Ch Ci Cj Ck Cl hHeld ⊢)
   refine pui 0 71 35 1 HT_ ?_
   refine pui 1 72 35 3 HT_ ?_
   refine pui 2 73 35 7 HT_ ?_
   refine pui 3 74 35 15 HT_ ?_
   refine pui 4 75 35 31 HT_ ?_
   refine pui 5 76 35 63 HT_ ?_
   refine pui 6 77 35 127 HT_ ?_
   refine pui 7 78 35 255 HT_ ?_
   refine pui 8 79 35 511 HT_ ?_
   refine pui 10 81 35 1535 HT_ ?_
   refine tki 9 80 35 2047 HT_ HW_ hHeld ?_
   refine pui 11 82 35 4095 HT_ ?_
   refine pui 12 83 35 8191 HT_ ?_
   refine pui 13 84 35 16383 HT_ ?_
   refine pdi 14 85 35 32767 HT_ ?_
   refine pdi 15 86 35 65535 HT_ ?_
   refine pdi 16 87 35 131071 HT_ ?_
   refine pdi 17 88 35 262143 HT_ ?_
   refine pdi 18 89 35 524287 HT_ ?_
   refine pdi 19 90 35 1048575 HT_ ?_
   refine pdi 20 91 35 2097151 HT_ ?_
   refine pdi 21 92 35 4194303 HT_ ?_
   refine pdi 22 93 35 8388607 HT_ ?_
   refine pdi 23 94 35 16777215 HT_ ?_
   refine pdi 24 95 35 33554431 HT_ ?_
   refine pdi 25 96 35 67108863 HT_ ?_
   refine pdi 26 97 35 134217727 HT_ ?_
   refine pdi 27 98 35 268435455 HT_ ?_
   refine pdi 28 99 35 536870911 HT_ ?_
   refine pdi 29 100 35 1073741823 HT_ ?_
   refine pdi 30 101 35 2147483647 HT_ ?_
   refine pdi 31 102 35 4294967295 HT_ ?_
   refine pdi 32 103 35 8589934591 HT_ ?_
   refine pdi 33 104 35 17179869183 HT_ ?_
   refine pui 34 105 35 34359738367 HT_ ?_
   refine done_ (done_of HT_.out (by kernel_rfl)) ?_
   try go_wp2
   replace Af := dNa Af
   replace Aa := kDa Aa
   replace Ae := kDa Ae
   replace HB := bDa HB
   have p187 : 0 ≤ (Ab : Int) := of_decide_eq_true pS
   have q187 : Ab < (l1.length : Int) := of_decide_eq_true pS
   obtain ⟨G3, Go, c187_5, e187, Cp, Cq, Cr, Cs, Ct, Cu, Cv, Cw, Cx, Cy, Cz, C0, Fy, Fz, F0, F1, F2, F3, F4, F5, F6, F7⟩ := at_T52w HR1.out Ab p187 q187 HB.out
   obtain rfl : Ac = G3 := (by injection e187)
   have C1 := Am C0
   have HC187_5 := Am Cz
   clear C0 Cz
   replace p187 := eq_true p187
   replace q187 := eq_true q187
   refine start_ (n := 10) (S := fun w' => cG w' Ad 0 (.int .i64 a0_0) ∧ cG w' Ad 1 (.int .i64 a0_1) ∧ cG w' Ad 2 (.slice Bm t183.length Bn) ∧ cG w' Ad 3 (.int .i64 a0_3) ∧ cG w' Ad 4 (.int .i64 a0_4) ∧ cG w' Ad 5 (.int .i64 a0_5) ∧ cG w' Ad 6 (.int .i64 a0_6) ∧ w'.cell? (Ac.add ((Ab).toNat * 10)) = some (.int .i64 ((rd_T52 l1 Ab).f0)) ∧ cA w' (Ac.add ((Ab).toNat * 10)) 1 (.int .i64 ((rd_T52 l1 Ab).f1)) ∧ cA w' (Ac.add ((Ab).toNat * 10)) 2 (.int .i64 ((rd_T52 l1 Ab).f2)) ∧ cA w' (Ac.add ((Ab).toNat * 10)) 3 (.string ((rd_T52 l1 Ab).f3)) ∧ cA w' (Ac.add ((Ab).toNat * 10)) 4 (.bool ((rd_T52 l1 Ab).f4.f0)) ∧ cA w' (Ac.add ((Ab).toNat * 10)) 5 (.slice Go ((rd_T52 l1 Ab).f4.f1).length c187_5) ∧ cA w' (Ac.add ((Ab).toNat * 10)) 6 (.int .i64 ((rd_T52 l1 Ab).f4.f2.f0)) ∧ cA w' (Ac.add ((Ab).toNat * 10)) 7 (.int .i64 ((rd_T52 l1 Ab).f4.f2.f1)) ∧ cA w' (Ac.add ((Ab).toNat * 10)) 8 (.int .i64 ((rd_T52 l1 Ab).f4.f2.f2)) ∧ cA w' (Ac.add ((Ab).toNat * 10)) 9 (.int .u32 ((rd_T52 l1 Ab).f4.f2.f3))) (ds := []) #[false, false, false, false, false, false, false, false, false, false] (by kernel_rfl) rfl rfl ⟨(blk_cell Aa.out 0).trans rfl, (blk_cell Aa.out 1).trans rfl, (blk_cell Aa.out 2).trans rfl, (blk_cell Aa.out 3).trans rfl, (blk_cell Aa.out 4).trans rfl, (blk_cell Aa.out 5).trans rfl, (blk_cell Aa.out 6).trans rfl, (cT HB.out Fy), (cT HB.out Fz), (cT HB.out F0), (cT HB.out F1), (cT HB.out F2), (cT HB.out F3), (cT HB.out F4), (cT HB.out F5), (cT HB.out F6), (cT HB.out F7)⟩ (fun hHeld => ?_); refine with_tabW raft_Put.tab17 raft_Put.bits17 (fun HT_ HW_ => ?_)
   (first | generalize w43.drew = w44 at Af Aa Ae HB C1 Cp Cq Cr Cs Ct Cu Cv Cw Cx Cy hHeld ⊢ | generalize w43.drew = w44 at Aa Ae HB C1 Cp Cq Cr Cs Ct Cu Cv Cw Cx Cy hHeld ⊢)
   refine pui 0 113 10 1 HT_ ?_
   refine pui 1 114 10 3 HT_ ?_
   refine pui 2 115 10 7 HT_ ?_
   refine pui 3 116 10 15 HT_ ?_
   refine pui 5 118 10 47 HT_ ?_
   refine tki 4 117 10 63 HT_ HW_ hHeld ?_
   refine tki 6 119 10 127 HT_ HW_ hHeld ?_
   refine pui 7 120 10 255 HT_ ?_
   refine pui 8 121 10 511 HT_ ?_
   refine pui 9 11 10 1023 HT_ ?_
   refine done_ (done_of HT_.out (by kernel_rfl)) ?_
   try go_wp2
   replace Af := dNa Af
   replace Aa := kDa Aa
   replace Ae := kDa Ae
   replace HB := bDa HB
   have p188 : 0 ≤ (Ab : Int) := of_decide_eq_true pS
   have q188 : Ab < (l1.length : Int) := of_decide_eq_true pS
   obtain ⟨G4, Gp, c188_5, e188, C2, C3, C4, C5, C6, C7, C8, C9, Da, Db, Dc, Dd, F8, F9, Ga, Gb, Gc, Gd, Ge, Gf, Gg, Gh⟩ := at_T52w HR1.out Ab p188 q188 HB.out
   obtain rfl : Ac = G4 := (by injection e188)
   have De := Am Dd
   have HC188_5 := Am Dc
   clear Dd Dc
   replace p188 := eq_true p188
   replace q188 := eq_true q188
   refine start_ (n := 10) (S := fun w' => cG w' Ad 0 (.int .i64 a0_0) ∧ cG w' Ad 1 (.int .i64 a0_1) ∧ cG w' Ad 2 (.slice Bm t183.length Bn) ∧ cG w' Ad 3 (.int .i64 a0_3) ∧ cG w' Ad 4 (.int .i64 a0_4) ∧ cG w' Ad 5 (.int .i64 a0_5) ∧ cG w' Ad 6 (.int .i64 a0_6) ∧ w'.cell? (Ac.add ((Ab).toNat * 10)) = some (.int .i64 ((rd_T52 l1 Ab).f0)) ∧ cA w' (Ac.add ((Ab).toNat * 10)) 1 (.int .i64 ((rd_T52 l1 Ab).f1)) ∧ cA w' (Ac.add ((Ab).toNat * 10)) 2 (.int .i64 ((rd_T52 l1 Ab).f2)) ∧ cA w' (Ac.add ((Ab).toNat * 10)) 3 (.string ((rd_T52 l1 Ab).f3)) ∧ cA w' (Ac.add ((Ab).toNat * 10)) 4 (.bool ((rd_T52 l1 Ab).f4.f0)) ∧ cA w' (Ac.add ((Ab).toNat * 10)) 5 (.slice Gp ((rd_T52 l1 Ab).f4.f1).length c188_5) ∧ cA w' (Ac.add ((Ab).toNat * 10)) 6 (.int .i64 ((rd_T52 l1 Ab).f4.f2.f0)) ∧ cA w' (Ac.add ((Ab).toNat * 10)) 7 (.int .i64 ((rd_T52 l1 Ab).f4.f2.f1)) ∧ cA w' (Ac.add ((Ab).toNat * 10)) 8 (.int .i64 ((rd_T52 l1 Ab).f4.f2.f2)) ∧ cA w' (Ac.add ((Ab).toNat * 10)) 9 (.int .u32 ((rd_T52 l1 Ab).f4.f2.f3))) (ds := []) #[false, false, false, false, false, false, false, false, false, false] (by kernel_rfl) rfl rfl ⟨(blk_cell Aa.out 0).trans rfl, (blk_cell Aa.out 1).trans rfl, (blk_cell Aa.out 2).trans rfl, (blk_cell Aa.out 3).trans rfl, (blk_cell Aa.out 4).trans rfl, (blk_cell Aa.out 5).trans rfl, (blk_cell Aa.out 6).trans rfl, (cT HB.out F8), (cT HB.out F9), (cT HB.out Ga), (cT HB.out Gb), (cT HB.out Gc), (cT HB.out Gd), (cT HB.out Ge), (cT HB.out Gf), (cT HB.out Gg), (cT HB.out Gh)⟩ (fun hHeld => ?_); refine with_tabW raft_Put.tab18 raft_Put.bits18 (fun HT_ HW_ => ?_)
   (first | generalize w44.drew = w45 at Af Aa Ae HB De C2 C3 C4 C5 C6 C7 C8 C9 Da Db hHeld ⊢ | generalize w44.drew = w45 at Aa Ae HB De C2 C3 C4 C5 C6 C7 C8 C9 Da Db hHeld ⊢)
   refine pui 0 123 10 1 HT_ ?_
   refine pui 1 124 10 3 HT_ ?_
   refine pui 2 125 10 7 HT_ ?_
   refine pui 3 126 10 15 HT_ ?_
   refine pui 5 128 10 47 HT_ ?_
   refine pui 6 129 10 111 HT_ ?_
   refine tki 4 127 10 127 HT_ HW_ hHeld ?_
   refine tki 7 130 10 255 HT_ HW_ hHeld ?_
   refine pui 8 131 10 511 HT_ ?_
   refine pui 9 122 10 1023 HT_ ?_
   refine done_ (done_of HT_.out (by kernel_rfl)) ?_
   try go_wp2
   replace Af := dNa Af
   replace Aa := kDa Aa
   replace Ae := kDa Ae
   replace HB := bDa HB
   have q47 : ((ji36) : Int) ≤ ((t183.length : Int) : Int) := of_decide_eq_true pS
   obtain ⟨i047, hi047, _, G5, _⟩ := info_parts info52
   have Gq := cut_to (P := Try.prog) 26 52 .i64 Try.underlying26 hi047 Bm t183.length Bn (ji36) (of_decide_eq_true pS) q47 (Kd.N_reads' Af.out).2.1
   have Dg := Kd.N_take (m := ((ji36) : Int).toNat) Af.out (by omega)
   have hy47 : y189.length = ((ji36) : Int).toNat := (by rw [Ny189.out, List.length_take]; omega)
   rw [← Ny189.out] at Dg
   rw [← hy47] at Dg Gq
   clear hy47 hi047 G5 Af
   have Bb := Am Dg
   clear Dg
   replace q47 := eq_true q47
   have q48 : (Ab : Int) ≤ ((l1.length : Int) : Int) := of_decide_eq_true pS
   obtain ⟨i048, hi048, _, Gj, _⟩ := info_parts info52
   have Bz : l1.length ≤ c1 := HC1.out
   have Gs : Kd.C k52 _ (some Ac) l1.length l1 := HR1.out
   have q048 : (0 : Int) ≤ (Ab : Int) := of_decide_eq_true pS
   have Gr := cut_from (P := Try.prog) 26 52 .i64 Try.underlying26 hi048 10 Gj (some Ac) l1.length c1 Ab q048 q48
   have Df := Kd.C_drop (m := (Ab : Int).toNat) (c := c1) Gs (by omega) Bz
   obtain ⟨A48, hA48⟩ : ∃ AX_, AX_ = (if c1 = (Ab : Int).toNat then (some Ac) else ((some Ac) : Option Addr).map (·.add ((Ab : Int).toNat * 10))) := ⟨_, rfl⟩
   obtain ⟨c48, hc48⟩ : ∃ cX_, cX_ = c1 - (Ab : Int).toNat := ⟨_, rfl⟩
   have hy48 : y192.length = l1.length - (Ab : Int).toNat := (by rw [Ny192.out, List.length_drop] <;> omega)
   rw [show (l1).drop (Ab : Int).toNat = y192 from Ny192.out.symm] at Df
   replace Df : Kd.C k52 _ A48 y192.length y192 := (by rw [hA48]; exact Df)
   rw [← hy48, ← hA48, ← hc48] at Gr
   have HR195 := Am Df
   have HC195 := Am (show y192.length ≤ c48 from by rw [hy48, hc48]; exact Nat.sub_le_sub_right Bz _)
   clear Df Gs Bz hi048 Gj hc48
   have KY48 := Am hy48
   have KA48 := Am hA48
   clear hy48 hA48
   replace q48 := eq_true q48
   refine start_ (n := 11) (S := fun w' => cG w' Ad 0 (.int .i64 a0_0) ∧ cG w' Ad 1 (.int .i64 a0_1) ∧ cG w' Ad 2 (.slice Bm t183.length Bn) ∧ cG w' Ad 3 (.int .i64 a0_3) ∧ cG w' Ad 4 (.int .i64 a0_4) ∧ cG w' Ad 5 (.int .i64 a0_5) ∧ cG w' Ad 6 (.int .i64 a0_6)) (ds := [10]) #[false, false, false, false, false, false, false, false, false, false, false] (by kernel_rfl) rfl rfl ⟨(blk_cell Aa.out 0).trans rfl, (blk_cell Aa.out 1).trans rfl, (blk_cell Aa.out 2).trans rfl, (blk_cell Aa.out 3).trans rfl, (blk_cell Aa.out 4).trans rfl, (blk_cell Aa.out 5).trans rfl, (blk_cell Aa.out 6).trans rfl⟩ (fun hHeld => ?_); refine with_tabW raft_Put.tab22 raft_Put.bits22 (fun HT_ HW_ => ?_)
   (first | generalize w45.drew = w46 at Af Aa Ae HB Bb HR195 hHeld ⊢ | generalize w45.drew = w46 at Aa Ae HB Bb HR195 hHeld ⊢)
   refine pui 0 142 11 1 HT_ ?_
   refine pui 2 144 11 5 HT_ ?_
   refine pui 4 146 11 21 HT_ ?_
   refine pui 5 147 11 53 HT_ ?_
   refine pui 6 148 11 117 HT_ ?_
   refine tki 1 143 11 119 HT_ HW_ hHeld ?_
   refine pui 3 145 11 127 HT_ ?_
   refine onei 7 149 11 255 HT_ (fun K hK => ?_)
   refine goes_ Try.func76 (by kernel_rfl) rfl #[.slice A48 y192.length c48] (by rfl) rfl rfl pL ?_
   with_reducible refine (raft_owns.calls k1 _ _ y192 t196 _ ?A9 ?Ba A41.out).mono ?_
   (case A9 => exact pC (Kd.C_below HR195.out HB.out))
   (case Ba => exact HC195.out)
   rintro e w49 ⟨v197, rfl, ho0, hb⟩
   refine ⟨_, rfl, ?_⟩
   have B2 := Am (Kd.N_lower (Kd.N_mono (ok' := fun k_ => (w.heap.size ≤ k_) ∧ some k_ ≠ (.slice Bm y189.length Bn : Value).ownBlock ∧ k_ ≠ Ad ∧ k_ ≠ Ai) (Kd.S_N (Kd.S_bound ho0)) (fun k_ hk_ => ⟨(Nat.le_trans (below_size (pE2 HB.out Ag.out Aj.out)) hk_.2.1), (Kd.fresh' (Kd.N_lt (pN Bb.out)) k_ hk_.2.1), (kF Aa.out k_ hk_.2.1), (kF Ae.out k_ hk_.2.1)⟩)) (below_size (pE2 HB.out Ag.out Aj.out)))
   replace Bb := Am (Kd.N_elder' (pN Bb.out) (Kd.N_base (Kd.S_N ho0)) hb)
   replace Aa := kBa Aa hb
   replace Ae := kBa Ae hb
   replace HB := Am (below_step (pE2 HB.out Ag.out Aj.out) hb)
   (try clear hb)
   (try clear hb2)
   (try clear hk)
   (try clear hi)
   (try clear ho0)
   obtain ⟨Ao51, co51, Gt⟩ := Kd.N_slice B2.out
   (first | subst Gt | (injection Gt with f1_ f2_ f3_; have f4_ := f1_.symm; have f5_ := f3_.symm; clear f1_ f2_ f3_; subst f4_; subst f5_))
   refine hK.out _ _ ⟨(blk_cell Aa.out 0).trans rfl, (blk_cell Aa.out 1).trans rfl, (blk_cell Aa.out 2).trans rfl, (blk_cell Aa.out 3).trans rfl, (blk_cell Aa.out 4).trans rfl, (blk_cell Aa.out 5).trans rfl, (blk_cell Aa.out 6).trans rfl⟩ (fun hHeld => ?_)
   clear hK K
   refine norm_ (a' := ?_) ?_ ?_
   rotate_left
   ·show Act.put _ (some 149) _ = _
    simp only [Act.put, List.setIfInBounds_toArray, List.set_cons_zero, List.set_cons_succ, i64_w, i32_w]
    rfl
   refine onei 8 150 11 511 HT_ (fun K hK => ?_)
   refine Kd.N_append_rows_step k52 (w0 := w) w.heap.size (by rfl) (.tmp 145) (.tmp 149) 26 52 (.agg #[(.int .i64 0), (.int .i64 0), (.int .i64 0), (.string ⟨#[]⟩), (.bool false), (.slice none 0 0), (.int .i64 0), (.int .i64 0), (.int .i64 0), (.int .u32 0)]) 104 rfl Try.underlying26 info52 rfl (by decide) (by omega) (.slice Bm y189.length Bn) y189 t196 _ _ _ (fun k_ => (w.heap.size ≤ k_) ∧ k_ ≠ Ad ∧ k_ ≠ Ai) (fun k_ => ((fun k_ => (w.heap.size ≤ k_) ∧ k_ ≠ Ad ∧ k_ ≠ Ai)) k_ ∧ some k_ ≠ (.slice Bm y189.length Bn : Value).ownBlock) rfl rfl ?aO ?aR (fun _ hk => hk) ?aF ?aB ?aS ?aL ?_
   (case aR => exact (by skip; exact Kd.N_F (Kd.N_mono (ok' := (fun k_ => ((fun k_ => (w.heap.size ≤ k_) ∧ k_ ≠ Ad ∧ k_ ≠ Ai)) k_ ∧ some k_ ≠ (.slice Bm y189.length Bn : Value).ownBlock)) (B2.out) (fun k_ hk => ⟨⟨hk.1, ⟨hk.2.2.1, hk.2.2.2⟩⟩, hk.2.1⟩))))
   (case aB => exact (pE2 HB.out Ag.out Aj.out))
   (case aF => exact (fun k_ hk => ⟨(Nat.le_trans (below_size (pE2 HB.out Ag.out Aj.out)) hk), kF Aa.out k_ hk, kF Ae.out k_ hk⟩))
   (case aO => exact (by (with_reducible repeat (first | apply Kd.N_alloc | apply Kd.N_drewN | apply Kd.N_drew)); exact Kd.N_mono Bb.out (fun _ hk => ⟨hk.1.1, ⟨hk.1.2.1, hk.1.2.2⟩⟩)))
   (case aS => exact (below_size (pE2 HB.out Ag.out Aj.out)))
   (case aL => have := LMc42.out; omega)
   intro v200 w50 ho hb hg hat
   rw [← Ny199.out] at ho
   replace Aa := Am (blk_grown (g := Ad) (o := .cells #[.int .i64 a0_0, .int .i64 a0_1, .slice Bm t183.length Bn, .int .i64 a0_3, .int .i64 a0_4, .int .i64 a0_5, .int .i64 a0_6] 54 (0, 0)) (pK Aa.out) hg (Kd.N_ne Bb.out Aa.out (by decide)))
   replace Ae := Am (blk_grown (g := Ai) (o := .cells #[.int .i64 0, .int .i64 0, .slice none 0 0, .int .i64 0, .int .i64 0, .int .i64 0, .int .i64 0] 54 (0, 0)) (pK Ae.out) hg (Kd.N_ne Bb.out Ae.out (by decide)))
   replace B2 := Am (Kd.N_afterv (ok := (fun k_ => (w.heap.size ≤ k_) ∧ k_ ≠ Ad ∧ k_ ≠ Ai)) (by (with_reducible repeat (first | apply Kd.N_alloc | apply Kd.N_drewN | apply Kd.N_drew)); exact Kd.N_mono B2.out (fun _ hk => ⟨⟨hk.1, ⟨hk.2.2.1, hk.2.2.2⟩⟩, hk.2.1⟩)) hg hat)
   replace HB := Am (hb)
   have Gk := Am (ho)
   clear Bb
   clear ho hb hg hat
   obtain ⟨Gu, Gv, Gw⟩ := Kd.N_slice Gk.out
   (first | subst Gw | (injection Gw with f1_ f2_ f3_; have f4_ := f1_.symm; have f5_ := f3_.symm; clear f1_ f2_ f3_; subst f4_; subst f5_))
   refine hK.out _ _ ⟨(blk_cell Aa.out 0).trans rfl, (blk_cell Aa.out 1).trans rfl, (blk_cell Aa.out 2).trans rfl, (blk_cell Aa.out 3).trans rfl, (blk_cell Aa.out 4).trans rfl, (blk_cell Aa.out 5).trans rfl, (blk_cell Aa.out 6).trans rfl⟩ (fun hHeld => ?_)
   clear hK K
   refine norm_ (a' := ?_) ?_ ?_
   rotate_left
   ·show Act.put _ (some 150) _ = _
    simp only [Act.put, List.setIfInBounds_toArray, List.set_cons_zero, List.set_cons_succ, i64_w, i32_w]
    rfl
   refine pui 9 151 11 1023 HT_ ?_
   refine last_ (i := 10) (N := none) (bw 11 2047) rfl rfl (one_of HT_.out (by kernel_rfl)) (by decide) (fun K hK => ?_)
   have hs53 : w50.cell? ⟨Ad, 2, none⟩ = some (.slice Bm t183.length Bn) := (blk_cell Aa.out 2).trans rfl
   have hfs53 := blk_frozen Aa.out 2
   have hns53_1 := A8.out
   have hms53_1 := Bo.out
   refine skip_ (w1 := ?_) (by rfl) rfl ?_ ?_
   rotate_left
   ·go_simp
    rfl
   refine hK.out _ _ ?_
   clear hK K
   refine done_ (done_of HT_.out (by kernel_rfl)) ?_
   have hnb54 := Bo.out
   have hnc54 := A8.out
   obtain ⟨_, _, _, _, _, _, _⟩ := bc7 Aa.out
   obtain ⟨_, _, _, _, _, _, _⟩ := bf7 Aa.out
   obtain ⟨_, _, _, _, _, _, _⟩ := bc7 Ae.out
   obtain ⟨_, _, _, _, _, _, _⟩ := bf7 Ae.out
   try go_wp2
   refine bodyPost_ret (results_ct rfl _ _ Ai 54 #[.int .i64 a0_0, .int .i64 a0_1, .slice Gu y199.length Gv, .int .i64 a0_3, .int .i64 a0_4, .int .i64 a0_5, .int .i64 a0_6] (0, 0) _ rfl (kX1 Ae.out A8.out) Try.underlying54 rfl (by kernel_rfl)) rfl ?_
   exact ⟨_, by first | rfl | (simp [errW_none, errW_some] <;> rfl) | (simp only [← hji36]; first | rfl | (simp [errW_none, errW_some] <;> rfl)) | (simp [*, errW_none, errW_some] <;> rfl), by (with_reducible repeat (first | apply Kd.N_alloc | apply Kd.N_drewN | apply Kd.N_drew)); exact Kd.N_mono (Nf7 (g := Ai) (Kd.N_far (p := ⟨Ad, 2, none⟩) (Kd.N_mono (Kd.N_mono Gk.out (fun k_ hk => (⟨hk, hk.2.1⟩ : _ ∧ k_ ≠ Ad))) (fun k_ hk => (⟨hk, hk.1.2.2⟩ : _ ∧ k_ ≠ Ai))) (fun _ hk => hk.1.2) (.slice Gu y199.length Gv)) (fun _ hk => hk.2)) (fun _ hk => hk.1.1.1), pE2 HB.out Ag.out Aj.out⟩
end Go.Proofs.Ytdanmjfkocjgjaa.PWalGets
