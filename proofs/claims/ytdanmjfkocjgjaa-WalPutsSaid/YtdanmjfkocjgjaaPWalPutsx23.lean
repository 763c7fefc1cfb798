/- What the law reaches, as plain Lean functions, and that the machine's calls answer just that. -/
import Derived.Test.YtdanmjfkocjgjaaPWalPutsx0
import Derived.Test.YtdanmjfkocjgjaaPWalPutsx5
import Derived.Test.YtdanmjfkocjgjaaPWalPutsx10
import Derived.Test.YtdanmjfkocjgjaaPWalPutsx15
import Derived.Test.YtdanmjfkocjgjaaPWalPutsx16
import Derived.Test.YtdanmjfkocjgjaaPWalPutsx18
import Derived.Test.YtdanmjfkocjgjaaPWalPutsx21
import Derived.Test.YtdanmjfkocjgjaaPWalPutsx22
namespace Go.Proofs.Ytdanmjfkocjgjaa.PWalPuts
open Go.RowKit Go.Proofs.YtdanmjfkocjgjaaW.PrintWords Go.Proofs.YtdanmjfkocjgjaaW.PrintLast Go.Proofs.YtdanmjfkocjgjaaW.PrintMore
attribute [local go_sem] max2_int min2_int max_two min_two max_three min_three max_four min_four
set_option linter.unusedVariables false
set_option linter.unusedSimpArgs false
attribute [local go_sem] wrap64_l1 wrap64_l2 wrap64_l3 wrap64_l4 wrap64_l5
def garnerlaw24_WalPuts.f (k : Nat) (a0_0 : Int) (l0_1 : List (S52)) (a0_2 : Int) (a0_3 : Int) (a0_4 : Int) (a0_5 : Int) (a1_0 : Int) (l1_1 : List (S52)) (a1_2 : Int) (a1_3 : Int) (a1_4 : Int) (a1_5 : Int) : Option (Bool) := (garnerlaw24_Light.f k (([(⟨a0_0, l0_1, (⟨a0_2, a0_3, a0_4⟩ : S28), a0_5⟩ : S30), (⟨a1_0, l1_1, (⟨a1_2, a1_3, a1_4⟩ : S28), a1_5⟩ : S30)] : List (S30)))).bind fun t674 => (if t674 = true then ((wal_Same.f k a0_0 l0_1 a0_2 a0_3 a0_4 a0_5 a1_0 l1_1 a1_2 a1_3 a1_4 a1_5).bind fun t676 => ((garnerref24_Same.f k a0_0 l0_1 a0_2 a0_3 a0_4 a0_5 a1_0 l1_1 a1_2 a1_3 a1_4 a1_5).bind fun t677 => (if (t676 != t677) = true then (none) else ((wal_Put.f k a0_0 l0_1 a0_2 a0_3 a0_4 a0_5).bind fun bt678 => ((garnerref24_May.f k a0_0 l0_1 a0_2 a0_3 a0_4 a0_5).bind fun t684 => (if t684 = true then ((wal_Get.f k bt678.1 bt678.2.1).bind fun bt694 => ((wal_Check.f k a0_0 l0_1 a0_2 a0_3 a0_4 a0_5).bind fun t704 => (if t704 = 0 then (if bt678.2.2 = 0 then ((garnerref24_Put.f k a0_0 l0_1 a0_2 a0_3 a0_4 a0_5).bind fun bt708 => ((garnerref03_Same.f k (([(⟨bt678.1, bt678.2.1⟩ : S24)] : List (S24))) (([(⟨bt708.1, bt708.2⟩ : S24)] : List (S24)))).bind fun t715 => (if t715 = true then (if bt694.2.2.2.2.2.2 = 0 then ((garnerref24_Same.f k bt694.1 bt694.2.1 bt694.2.2.1 bt694.2.2.2.1 bt694.2.2.2.2.1 bt694.2.2.2.2.2.1 a0_0 l0_1 a0_2 a0_3 a0_4 a0_5).bind fun t716 => (if t716 = true then ((garnerlaw24_awake.f k).bind fun t717 => (some t717)) else (none))) else (none)) else (none)))) else (none)) else (none)))) else ((wal_Check.f k a0_0 l0_1 a0_2 a0_3 a0_4 a0_5).bind fun t685 => (if t685 = 1 then (if bt678.2.2 = 1 then ((garnerref03_Same.f k (([(⟨bt678.1, bt678.2.1⟩ : S24)] : List (S24))) (([(⟨0, ([] : List Int)⟩ : S24)] : List (S24)))).bind fun t692 => (if t692 = true then ((garnerlaw24_awake.f k).bind fun t693 => (some t693)) else (none))) else (none)) else (none))))))))) else ((garnerlaw24_awake.f k).bind fun t675 => (some t675)))
theorem garnerlaw24_WalPuts.mono : ∀ a0 a1 a2 a3 a4 a5 a6 a7 a8 a9 a10 a11 k, LeO (garnerlaw24_WalPuts.f k a0 a1 a2 a3 a4 a5 a6 a7 a8 a9 a10 a11) (garnerlaw24_WalPuts.f (k + 1) a0 a1 a2 a3 a4 a5 a6 a7 a8 a9 a10 a11) := by
 intro a0 a1 a2 a3 a4 a5 a6 a7 a8 a9 a10 a11 k
 unfold garnerlaw24_WalPuts.f
 repeat' (with_reducible first | exact garnerlaw24_Light.mono .. | exact garnerlaw24_awake.mono .. | exact garnerref03_Same.mono .. | exact garnerref24_May.mono .. | exact garnerref24_Put.mono .. | exact garnerref24_Same.mono .. | exact wal_Check.mono .. | exact wal_Get.mono .. | exact wal_Put.mono .. | exact wal_Same.mono .. | exact LeO.refl .. | exact LeO.none .. | refine LeO.ite ?_ ?_ | refine LeO.bind ?_ (fun _ => ?_))
def garnerlaw24_WalPuts.T9 : Bool × List (List Nat × List Nat) := (true, [([], []), ([0], [0]), ([1], [1]), ([2, 1], [2]), ([3], [3]), ([4, 3], [3, 4]), ([3, 5], [3, 5]), ([6, 3], [6]), ([7], [7]), ([8, 7], [7, 8]), ([7], [7]), ([10, 7, 7], [7, 10]), ([11, 7], [7, 11]), ([9, 12, 11, 7], [7, 9, 12]), ([7, 13], [7, 13]), ([14, 13], [14]), ([15], [15]), ([16, 15], [15, 16]), ([15, 17], [15, 17]), ([18, 15], [18]), ([19], [19]), ([19], [19]), ([20, 21, 19, 19], [19, 20, 21]), ([19, 22], [19, 22]), ([23, 22], [23]), ([24, 24], [24]), ([24, 25], [24, 25]), ([26, 25, 0, 1, 2, 3, 4, 5, 6, 7, 8, 9, 10, 11, 12, 13, 14, 15, 16, 17, 18, 19, 20, 21, 22, 23, 24, 25, 26], [26])])
def garnerlaw24_WalPuts.B9 : List Nat := [0, 1, 3, 7, 15, 31, 63, 127, 255, 511, 255, 1279, 3327, 8191, 16383, 32767, 65535, 131071, 262143, 524287, 1048575, 1048575, 4194303, 8388607, 16777215, 33554431, 67108863, 134217727]
theorem garnerlaw24_WalPuts.tab9 : rtab .any (opsOf Try.f4 9) = garnerlaw24_WalPuts.T9 := by kernel_rfl
theorem garnerlaw24_WalPuts.bits9 : waitsOk garnerlaw24_WalPuts.T9.2 garnerlaw24_WalPuts.B9 = true := by kernel_rfl
set_option maxHeartbeats 8000000 in
set_option maxRecDepth 100000 in
theorem garnerlaw24_WalPuts.calls (k : Nat) (a0_0 : Int) (P0_1_ : Nat → Prop) (A0_1 : Option Addr) (c0_1 : Nat) (l0_1 : List (S52)) (a0_2 : Int) (a0_3 : Int) (a0_4 : Int) (a0_5 : Int) (a1_0 : Int) (P1_1_ : Nat → Prop) (A1_1 : Option Addr) (c1_1 : Nat) (l1_1 : List (S52)) (a1_2 : Int) (a1_3 : Int) (a1_4 : Int) (a1_5 : Int) (r : Bool) (w : World) (hs0_1 : Kd.V k52 52 w w.heap.size (fun k_ => P0_1_ k_) (.slice A0_1 l0_1.length c0_1) l0_1) (hs1_1 : Kd.V k52 52 w w.heap.size (fun k_ => P1_1_ k_) (.slice A1_1 l1_1.length c1_1) l1_1) (h : garnerlaw24_WalPuts.f k a0_0 l0_1 a0_2 a0_3 a0_4 a0_5 a1_0 l1_1 a1_2 a1_3 a1_4 a1_5 = some r) :
 Calls Try.prog 4 #[.agg #[.int .i64 a0_0, .slice A0_1 l0_1.length c0_1, .int .i64 a0_2, .int .i64 a0_3, .int .i64 a0_4, .int .i64 a0_5], .agg #[.int .i64 a1_0, .slice A1_1 l1_1.length c1_1, .int .i64 a1_2, .int .i64 a1_3, .int .i64 a1_4, .int .i64 a1_5]] w fun e w' => e = .returned (.bool r) ∧ Below w.heap.size w w' := by
 have hu30 := Try.underlying30
 have hu24 := Try.underlying24
 have HO0_1 := Am (show Kd.V k52 52 w w.heap.size (fun k_ => ((P0_1_ k_ ∨ P1_1_ k_) ∨ w.heap.size ≤ k_)) (.slice A0_1 l0_1.length c0_1) l0_1 from Kd.V_mono hs0_1 (fun k_ hk => .inl (.inl hk)))
 have HO1_1 := Am (show Kd.V k52 52 w w.heap.size (fun k_ => ((P0_1_ k_ ∨ P1_1_ k_) ∨ w.heap.size ≤ k_)) (.slice A1_1 l1_1.length c1_1) l1_1 from Kd.V_mono hs1_1 (fun k_ hk => .inl (.inr hk)))
 have HB := Am (Below.refl w.heap.size w)
 unfold garnerlaw24_WalPuts.f at h
 have H := h
 clear h
 obtain ⟨y671, hy671⟩ : ∃ y_ : List (S30), y_ = (([(⟨a0_0, l0_1, (⟨a0_2, a0_3, a0_4⟩ : S28), a0_5⟩ : S30), (⟨a1_0, l1_1, (⟨a1_2, a1_3, a1_4⟩ : S28), a1_5⟩ : S30)] : List (S30))) := ⟨_, rfl⟩
 replace H : ((garnerlaw24_Light.f k y671).bind fun t674 => (if t674 = true then ((wal_Same.f k a0_0 l0_1 a0_2 a0_3 a0_4 a0_5 a1_0 l1_1 a1_2 a1_3 a1_4 a1_5).bind fun t676 => ((garnerref24_Same.f k a0_0 l0_1 a0_2 a0_3 a0_4 a0_5 a1_0 l1_1 a1_2 a1_3 a1_4 a1_5).bind fun t677 => (if (t676 != t677) = true then (none) else ((wal_Put.f k a0_0 l0_1 a0_2 a0_3 a0_4 a0_5).bind fun bt678 => ((garnerref24_May.f k a0_0 l0_1 a0_2 a0_3 a0_4 a0_5).bind fun t684 => (if t684 = true then ((wal_Get.f k bt678.1 bt678.2.1).bind fun bt694 => ((wal_Check.f k a0_0 l0_1 a0_2 a0_3 a0_4 a0_5).bind fun t704 => (if t704 = 0 then (if bt678.2.2 = 0 then ((garnerref24_Put.f k a0_0 l0_1 a0_2 a0_3 a0_4 a0_5).bind fun bt708 => ((garnerref03_Same.f k (([(⟨bt678.1, bt678.2.1⟩ : S24)] : List (S24))) (([(⟨bt708.1, bt708.2⟩ : S24)] : List (S24)))).bind fun t715 => (if t715 = true then (if bt694.2.2.2.2.2.2 = 0 then ((garnerref24_Same.f k bt694.1 bt694.2.1 bt694.2.2.1 bt694.2.2.2.1 bt694.2.2.2.2.1 bt694.2.2.2.2.2.1 a0_0 l0_1 a0_2 a0_3 a0_4 a0_5).bind fun t716 => (if t716 = true then ((garnerlaw24_awake.f k).bind fun t717 => (some t717)) else (none))) else (none)) else (none)))) else (none)) else (none)))) else ((wal_Check.f k a0_0 l0_1 a0_2 a0_3 a0_4 a0_5).bind fun t685 => (if t685 = 1 then (if bt678.2.2 = 1 then ((garnerref03_Same.f k (([(⟨bt678.1, bt678.2.1⟩ : S24)] : List (S24))) (([(⟨0, ([] : List Int)⟩ : S24)] : List (S24)))).bind fun t692 => (if t692 = true then ((garnerlaw24_awake.f k).bind fun t693 => (some t693)) else (none))) else (none)) else (none))))))))) else ((garnerlaw24_awake.f k).bind fun t675 => (some t675)))) = some r := zy hy671 H
 have Ny671 := Am hy671
 clear hy671
 obtain ⟨t674, A3, H⟩ := zb H
 by_cases c4 : t674 = true
 rotate_left
 ·replace c4 := Bool.eq_false_iff.mpr c4
  subst c4
  rw [if_neg zF] at H
  obtain ⟨t675, A367, H⟩ := zb H
  obtain rfl := Option.some.inj H
  go_enter Try.func4, Try.ntmps4
  go_wp2_with (first | ((with_reducible refine zD 2 rfl ?_); (try (refine gate_guard (by rfl) ?_; dsimp only)); refine zE 2 #[.int .i64 a0_0, .slice A0_1 l0_1.length c0_1, .int .i64 a0_2, .int .i64 a0_3, .int .i64 a0_4, .int .i64 a0_5] 30 ?_; intro Ad hg w368 hbox hb; replace HO0_1 := Am (Kd.V_below (Kd.V_elderB (pV HO0_1.out) Ad (Nat.le_of_eq hg.symm)) hb); replace HO1_1 := Am (Kd.V_below (Kd.V_elderB (pV HO1_1.out) Ad (Nat.le_of_eq hg.symm)) hb); have Aa := Am (hbox); have Bw := zA hg HB; replace HB := zB HB hb; have Aj := Bw; clear hb hbox hg) | ((with_reducible refine zD 3 rfl ?_); (try (refine gate_guard (by rfl) ?_; dsimp only)); refine zE 3 #[.int .i64 a1_0, .slice A1_1 l1_1.length c1_1, .int .i64 a1_2, .int .i64 a1_3, .int .i64 a1_4, .int .i64 a1_5] 30 ?_; intro Ae hg w369 hbox hb; replace HO0_1 := Am (Kd.V_below (Kd.V_elderB (pV HO0_1.out) Ae (Nat.le_of_eq hg.symm)) hb); replace HO1_1 := Am (Kd.V_below (Kd.V_elderB (pV HO1_1.out) Ae (Nat.le_of_eq hg.symm)) hb); have Ac := Am (hbox); have Bx := zY1 hg HB Aj.out; replace HB := zX1 HB Aj.out hb; have Ak := Bx; have A8 := Am (zN hg (kL Aa.out)); have A9 := Am (zM hg (kL Aa.out)); replace Aa := kBa Aa hb; clear hb hbox hg; have hnb370 := A8.out; have hnc370 := A9.out; obtain ⟨_, _, _, _, _, _⟩ := bc6 Aa.out; obtain ⟨_, _, _, _, _, _⟩ := bf6 Aa.out; obtain ⟨_, _, _, _, _, _⟩ := bc6 Ac.out; obtain ⟨_, _, _, _, _, _⟩ := bf6 Ac.out) | ((with_reducible refine zD 11 rfl ?_); (try (refine gate_guard (by rfl) ?_; dsimp only)); refine Kd.N_lit k30 _ 30 ?hg (N' := 11) ?hd (xs := ([(⟨a0_0, l0_1, (⟨a0_2, a0_3, a0_4⟩ : S28), a0_5⟩ : S30), (⟨a1_0, l1_1, (⟨a1_2, a1_3, a1_4⟩ : S28), a1_5⟩ : S30)] : List (S30))) (inner := [.int .i64 a0_0, .slice A0_1 l0_1.length c0_1, .int .i64 a0_2, .int .i64 a0_3, .int .i64 a0_4, .int .i64 a0_5, .int .i64 a1_0, .slice A1_1 l1_1.length c1_1, .int .i64 a1_2, .int .i64 a1_3, .int .i64 a1_4, .int .i64 a1_5]) (ok := (fun k_ => ((P0_1_ k_ ∨ P1_1_ k_) ∨ w.heap.size ≤ k_) ∧ k_ ≠ Ad ∧ k_ ≠ Ae)) (okp := (fun k_ => ((P0_1_ k_ ∨ P1_1_ k_) ∨ w.heap.size ≤ k_) ∧ k_ ≠ Ad ∧ k_ ≠ Ae)) ?hr ?hp (fun _ hk => hk) ((show ∀ k_, w369.heap.size ≤ k_ → (fun k_ => ((P0_1_ k_ ∨ P1_1_ k_) ∨ w.heap.size ≤ k_) ∧ k_ ≠ Ad ∧ k_ ≠ Ae) k_ from fun k_ hk => ⟨(.inr (Nat.le_trans (below_size (pE2 HB.out Aj.out Ak.out)) hk)), kF Aa.out k_ hk, kF Ac.out k_ hk⟩) _ (Nat.le_refl _)) (Below.refl _ _) (Nat.le_refl _) (by simp) ?_; (case hd => rfl); (case hg => rfl); (case hr => first | (go_simp; done) | (go_simp; rfl)); (case hp => exact (Reps.c6 (show Kd.FK k30 _ _ (⟨a0_0, l0_1, (⟨a0_2, a0_3, a0_4⟩ : S28), a0_5⟩ : S30) [.int .i64 a0_0, .slice A0_1 l0_1.length c0_1, .int .i64 a0_2, .int .i64 a0_3, .int .i64 a0_4, .int .i64 a0_5] from (k30_mkF _ _ (⟨a0_0, l0_1, (⟨a0_2, a0_3, a0_4⟩ : S28), a0_5⟩ : S30) (Kd.V_reads' (Kd.V_mono (ok' := (fun k_ => ((P0_1_ k_ ∨ P1_1_ k_) ∨ w.heap.size ≤ k_) ∧ k_ ≠ Ad ∧ k_ ≠ Ae)) (HO0_1.out) (fun k_ hk => ⟨hk.1.1, ⟨hk.1.2, hk.2⟩⟩))).2.1 (Kd.V_F (Kd.V_mono (ok' := (fun k_ => ((P0_1_ k_ ∨ P1_1_ k_) ∨ w.heap.size ≤ k_) ∧ k_ ≠ Ad ∧ k_ ≠ Ae)) (HO0_1.out) (fun k_ hk => ⟨hk.1.1, ⟨hk.1.2, hk.2⟩⟩))))) (Reps.c6 (show Kd.FK k30 _ _ (⟨a1_0, l1_1, (⟨a1_2, a1_3, a1_4⟩ : S28), a1_5⟩ : S30) [.int .i64 a1_0, .slice A1_1 l1_1.length c1_1, .int .i64 a1_2, .int .i64 a1_3, .int .i64 a1_4, .int .i64 a1_5] from (k30_mkF _ _ (⟨a1_0, l1_1, (⟨a1_2, a1_3, a1_4⟩ : S28), a1_5⟩ : S30) (Kd.V_reads' (Kd.V_mono (ok' := (fun k_ => ((P0_1_ k_ ∨ P1_1_ k_) ∨ w.heap.size ≤ k_) ∧ k_ ≠ Ad ∧ k_ ≠ Ae)) (HO1_1.out) (fun k_ hk => ⟨hk.1.1, ⟨hk.1.2, hk.2⟩⟩))).2.1 (Kd.V_F (Kd.V_mono (ok' := (fun k_ => ((P0_1_ k_ ∨ P1_1_ k_) ∨ w.heap.size ≤ k_) ∧ k_ ≠ Ad ∧ k_ ≠ Ae)) (HO1_1.out) (fun k_ hk => ⟨hk.1.1, ⟨hk.1.2, hk.2⟩⟩))))) (Reps.none _ _)))); intro v672 w373 ho374 hb hg_ hnew_; clear hg_ hnew_; (first | rw [← Ny671.out] at ho374 | (simp only [Int.reduceToNat] at ho374; rw [← Ny671.out] at ho374)); replace HO0_1 := Am (Kd.V_elder' (pV HO0_1.out) (Kd.N_base ho374) hb); replace HO1_1 := Am (Kd.V_elder' (pV HO1_1.out) (Kd.N_base ho374) hb); have Af := Am (Kd.N_lower ho374 (below_size (pE2 HB.out Aj.out Ak.out))); replace Aa := kBa Aa hb; replace Ac := kBa Ac hb; replace HB := zX2 HB Aj.out Ak.out hb; clear hb ho374; obtain ⟨Eu, Ew, Ex⟩ := Kd.N_slice Af.out; subst Ex) | ((with_reducible refine zC 9 rfl ?_); refine zL (some 12) Try.func9 #[.slice Eu y671.length Ew] ?_; (with_reducible refine (garnerlaw24_Light.calls k _ _ y671 false _ ?Ap ?Aq A3.out).mono ?_); (case Ap => exact pC (Kd.N_reads' Af.out).2.2); (case Aq => exact (Kd.N_reads' Af.out).2.1); rintro e w' ⟨rfl, ⟨nd, rfl⟩⟩; refine ⟨_, rfl, ?_⟩) | ((with_reducible refine zC 5 rfl ?_); refine zL (some 14) Try.func5 #[] ?_; (with_reducible refine (garnerlaw24_awake.calls k  t675 _ A367.out).mono ?_); rintro e w376 ⟨rfl, hb⟩; refine ⟨_, rfl, ?_⟩; replace HO0_1 := bVa HO0_1 hb; replace HO1_1 := bVa HO1_1 hb; replace Af := bNa Af hb; replace Aa := kBa Aa hb; replace Ac := kBa Ac hb; replace HB := zX2 HB Aj.out Ak.out hb; (try clear hb)))
  go_ret
  exact ⟨pX, pE2 HB.out Aj.out Ak.out⟩
 subst c4
 rw [if_pos rfl] at H
 obtain ⟨t676, A5, H⟩ := zb H
 obtain ⟨t677, A6, H⟩ := zb H
 obtain ⟨c7, H⟩ := zJ H
 have c7b0 : (t676 != t677) = false := by simpa using c7
 (try (have c7b1 : decide (t676 = t677) = true := by simpa using c7))
 (try (have c7b2 : (t676 == t677) = true := by simpa using c7))
 clear c7
 obtain ⟨⟨t678, t679, t682⟩, A19, H⟩ := zb H
 dsimp only at H
 obtain ⟨t684, A20, H⟩ := zb H
 by_cases c21 : t684 = true
 rotate_left
 ·replace c21 := Bool.eq_false_iff.mpr c21
  subst c21
  rw [if_neg zF] at H
  obtain ⟨t685, A258, H⟩ := zb H
  obtain ⟨c259, H⟩ := zI H
  obtain ⟨c259b0, c259b1⟩ := zc c259
  clear c259
  obtain ⟨c260, H⟩ := zI H
  obtain ⟨c260b0, c260b1⟩ := zc c260
  clear c260
  obtain ⟨y686, hy686⟩ : ∃ y_ : List (S24), y_ = (([(⟨t678, t679⟩ : S24)] : List (S24))) := ⟨_, rfl⟩
  replace H : ((garnerref03_Same.f k y686 (([(⟨0, ([] : List Int)⟩ : S24)] : List (S24)))).bind fun t692 => (if t692 = true then ((garnerlaw24_awake.f k).bind fun t693 => (some t693)) else (none))) = some r := zy hy686 H
  have Ny686 := Am hy686
  clear hy686
  obtain ⟨y689, hy689⟩ : ∃ y_ : List (S24), y_ = (([(⟨0, ([] : List Int)⟩ : S24)] : List (S24))) := ⟨_, rfl⟩
  replace H : ((garnerref03_Same.f k y686 y689).bind fun t692 => (if t692 = true then ((garnerlaw24_awake.f k).bind fun t693 => (some t693)) else (none))) = some r := zy hy689 H
  have Ny689 := Am hy689
  clear hy689
  obtain ⟨t692, A261, H⟩ := zb H
  by_cases c262 : t692 = true
  rotate_left
  ·replace c262 := Bool.eq_false_iff.mpr c262
   subst c262
   have H1 : (none) = some r := by rw [if_neg (show ¬ (false = true) by decide)] at H; exact H
   exact absurd H1 (by simp)
  subst c262
  rw [if_pos rfl] at H
  obtain ⟨t693, A263, H⟩ := zb H
  obtain rfl := Option.some.inj H
  go_enter Try.func4, Try.ntmps4
  try go_wp2_with (first | ((with_reducible refine zD 2 rfl ?_); (try (refine gate_guard (by rfl) ?_; dsimp only)); refine zE 2 #[.int .i64 a0_0, .slice A0_1 l0_1.length c0_1, .int .i64 a0_2, .int .i64 a0_3, .int .i64 a0_4, .int .i64 a0_5] 30 ?_; intro Ad hg w264 hbox hb; replace HO0_1 := Am (Kd.V_below (Kd.V_elderB (pV HO0_1.out) Ad (Nat.le_of_eq hg.symm)) hb); replace HO1_1 := Am (Kd.V_below (Kd.V_elderB (pV HO1_1.out) Ad (Nat.le_of_eq hg.symm)) hb); have Aa := Am (hbox); have Bw := zA hg HB; replace HB := zB HB hb; have Aj := Bw; clear hb hbox hg) | ((with_reducible refine zD 3 rfl ?_); (try (refine gate_guard (by rfl) ?_; dsimp only)); refine zE 3 #[.int .i64 a1_0, .slice A1_1 l1_1.length c1_1, .int .i64 a1_2, .int .i64 a1_3, .int .i64 a1_4, .int .i64 a1_5] 30 ?_; intro Ae hg w265 hbox hb; replace HO0_1 := Am (Kd.V_below (Kd.V_elderB (pV HO0_1.out) Ae (Nat.le_of_eq hg.symm)) hb); replace HO1_1 := Am (Kd.V_below (Kd.V_elderB (pV HO1_1.out) Ae (Nat.le_of_eq hg.symm)) hb); have Ac := Am (hbox); have Bx := zY1 hg HB Aj.out; replace HB := zX1 HB Aj.out hb; have Ak := Bx; have A8 := Am (zN hg (kL Aa.out)); have A9 := Am (zM hg (kL Aa.out)); replace Aa := kBa Aa hb; clear hb hbox hg; have hnb266 := A8.out; have hnc266 := A9.out; obtain ⟨_, _, _, _, _, _⟩ := bc6 Aa.out; obtain ⟨_, _, _, _, _, _⟩ := bf6 Aa.out; obtain ⟨_, _, _, _, _, _⟩ := bc6 Ac.out; obtain ⟨_, _, _, _, _, _⟩ := bf6 Ac.out) | ((with_reducible refine zD 11 rfl ?_); (try (refine gate_guard (by rfl) ?_; dsimp only)); refine Kd.N_lit k30 _ 30 ?hg (N' := 11) ?hd (xs := ([(⟨a0_0, l0_1, (⟨a0_2, a0_3, a0_4⟩ : S28), a0_5⟩ : S30), (⟨a1_0, l1_1, (⟨a1_2, a1_3, a1_4⟩ : S28), a1_5⟩ : S30)] : List (S30))) (inner := [.int .i64 a0_0, .slice A0_1 l0_1.length c0_1, .int .i64 a0_2, .int .i64 a0_3, .int .i64 a0_4, .int .i64 a0_5, .int .i64 a1_0, .slice A1_1 l1_1.length c1_1, .int .i64 a1_2, .int .i64 a1_3, .int .i64 a1_4, .int .i64 a1_5]) (ok := (fun k_ => ((P0_1_ k_ ∨ P1_1_ k_) ∨ w.heap.size ≤ k_) ∧ k_ ≠ Ad ∧ k_ ≠ Ae)) (okp := (fun k_ => ((P0_1_ k_ ∨ P1_1_ k_) ∨ w.heap.size ≤ k_) ∧ k_ ≠ Ad ∧ k_ ≠ Ae)) ?hr ?hp (fun _ hk => hk) ((show ∀ k_, w265.heap.size ≤ k_ → (fun k_ => ((P0_1_ k_ ∨ P1_1_ k_) ∨ w.heap.size ≤ k_) ∧ k_ ≠ Ad ∧ k_ ≠ Ae) k_ from fun k_ hk => ⟨(.inr (Nat.le_trans (below_size (pE2 HB.out Aj.out Ak.out)) hk)), kF Aa.out k_ hk, kF Ac.out k_ hk⟩) _ (Nat.le_refl _)) (Below.refl _ _) (Nat.le_refl _) (by simp) ?_; (case hd => rfl); (case hg => rfl); (case hr => first | (go_simp; done) | (go_simp; rfl)); (case hp => exact (Reps.c6 (show Kd.FK k30 _ _ (⟨a0_0, l0_1, (⟨a0_2, a0_3, a0_4⟩ : S28), a0_5⟩ : S30) [.int .i64 a0_0, .slice A0_1 l0_1.length c0_1, .int .i64 a0_2, .int .i64 a0_3, .int .i64 a0_4, .int .i64 a0_5] from (k30_mkF _ _ (⟨a0_0, l0_1, (⟨a0_2, a0_3, a0_4⟩ : S28), a0_5⟩ : S30) (Kd.V_reads' (Kd.V_mono (ok' := (fun k_ => ((P0_1_ k_ ∨ P1_1_ k_) ∨ w.heap.size ≤ k_) ∧ k_ ≠ Ad ∧ k_ ≠ Ae)) (HO0_1.out) (fun k_ hk => ⟨hk.1.1, ⟨hk.1.2, hk.2⟩⟩))).2.1 (Kd.V_F (Kd.V_mono (ok' := (fun k_ => ((P0_1_ k_ ∨ P1_1_ k_) ∨ w.heap.size ≤ k_) ∧ k_ ≠ Ad ∧ k_ ≠ Ae)) (HO0_1.out) (fun k_ hk => ⟨hk.1.1, ⟨hk.1.2, hk.2⟩⟩))))) (Reps.c6 (show Kd.FK k30 _ _ (⟨a1_0, l1_1, (⟨a1_2, a1_3, a1_4⟩ : S28), a1_5⟩ : S30) [.int .i64 a1_0, .slice A1_1 l1_1.length c1_1, .int .i64 a1_2, .int .i64 a1_3, .int .i64 a1_4, .int .i64 a1_5] from (k30_mkF _ _ (⟨a1_0, l1_1, (⟨a1_2, a1_3, a1_4⟩ : S28), a1_5⟩ : S30) (Kd.V_reads' (Kd.V_mono (ok' := (fun k_ => ((P0_1_ k_ ∨ P1_1_ k_) ∨ w.heap.size ≤ k_) ∧ k_ ≠ Ad ∧ k_ ≠ Ae)) (HO1_1.out) (fun k_ hk => ⟨hk.1.1, ⟨hk.1.2, hk.2⟩⟩))).2.1 (Kd.V_F (Kd.V_mono (ok' := (fun k_ => ((P0_1_ k_ ∨ P1_1_ k_) ∨ w.heap.size ≤ k_) ∧ k_ ≠ Ad ∧ k_ ≠ Ae)) (HO1_1.out) (fun k_ hk => ⟨hk.1.1, ⟨hk.1.2, hk.2⟩⟩))))) (Reps.none _ _)))); intro v672 w269 ho270 hb hg_ hnew_; clear hg_ hnew_; (first | rw [← Ny671.out] at ho270 | (simp only [Int.reduceToNat] at ho270; rw [← Ny671.out] at ho270)); replace HO0_1 := Am (Kd.V_elder' (pV HO0_1.out) (Kd.N_base ho270) hb); replace HO1_1 := Am (Kd.V_elder' (pV HO1_1.out) (Kd.N_base ho270) hb); have Af := Am (Kd.N_lower ho270 (below_size (pE2 HB.out Aj.out Ak.out))); replace Aa := kBa Aa hb; replace Ac := kBa Ac hb; replace HB := zX2 HB Aj.out Ak.out hb; clear hb ho270; obtain ⟨B8, B9, Ed⟩ := Kd.N_slice Af.out; subst Ed) | ((with_reducible refine zC 9 rfl ?_); refine zL (some 12) Try.func9 #[.slice B8 y671.length B9] ?_; (with_reducible refine (garnerlaw24_Light.calls k _ _ y671 true _ ?Ap ?Aq A3.out).mono ?_); (case Ap => exact pC (Kd.N_reads' Af.out).2.2); (case Aq => exact (Kd.N_reads' Af.out).2.1); rintro e w' ⟨rfl, ⟨nd, rfl⟩⟩; refine ⟨_, rfl, ?_⟩; (try (rw [drewN_self w269]; generalize hq_ : World.drewN w269 _ = w269; replace HO0_1 : Aside0 (Kd.V k52 52 w269 w.heap.size (fun k_ => ((P0_1_ k_ ∨ P1_1_ k_) ∨ w.heap.size ≤ k_) ∧ some k_ ≠ (.slice B8 y671.length B9 : Value).ownBlock ∧ k_ ≠ Ad ∧ k_ ≠ Ae) (.slice A0_1 l0_1.length c0_1) l0_1) := ⟨by rw [← hq_]; exact (by (with_reducible repeat (first | apply Kd.V_alloc | apply Kd.V_drewN | apply Kd.V_drew)); exact Kd.V_mono HO0_1.out (fun _ hk => ⟨hk.1.1.1, ⟨hk.2, ⟨hk.1.1.2, hk.1.2⟩⟩⟩))⟩; replace HO1_1 : Aside0 (Kd.V k52 52 w269 w.heap.size (fun k_ => ((P0_1_ k_ ∨ P1_1_ k_) ∨ w.heap.size ≤ k_) ∧ some k_ ≠ (.slice B8 y671.length B9 : Value).ownBlock ∧ k_ ≠ Ad ∧ k_ ≠ Ae) (.slice A1_1 l1_1.length c1_1) l1_1) := ⟨by rw [← hq_]; exact (by (with_reducible repeat (first | apply Kd.V_alloc | apply Kd.V_drewN | apply Kd.V_drew)); exact Kd.V_mono HO1_1.out (fun _ hk => ⟨hk.1.1.1, ⟨hk.2, ⟨hk.1.1.2, hk.1.2⟩⟩⟩))⟩; replace Af : Aside0 (Kd.N k30 30 w269 w.heap.size (fun k_ => ((P0_1_ k_ ∨ P1_1_ k_) ∨ w.heap.size ≤ k_) ∧ k_ ≠ Ad ∧ k_ ≠ Ae) (.slice B8 y671.length B9) y671) := ⟨by rw [← hq_]; exact (pN Af.out)⟩; replace Aa : Aside0 (w269.heap[Ad]? = some (.cells #[.int .i64 a0_0, .slice A0_1 l0_1.length c0_1, .int .i64 a0_2, .int .i64 a0_3, .int .i64 a0_4, .int .i64 a0_5] 30 (0, 0))) := ⟨by rw [← hq_]; exact (pK Aa.out)⟩; replace Ac : Aside0 (w269.heap[Ae]? = some (.cells #[.int .i64 a1_0, .slice A1_1 l1_1.length c1_1, .int .i64 a1_2, .int .i64 a1_3, .int .i64 a1_4, .int .i64 a1_5] 30 (0, 0))) := ⟨by rw [← hq_]; exact (pK Ac.out)⟩; replace HB : Aside0 (Below w.heap.size w w269) := ⟨by rw [← hq_]; exact (pE2 HB.out Aj.out Ak.out)⟩; clear hq_))))
  replace HO0_1 := dVa HO0_1
  replace HO1_1 := dVa HO1_1
  replace Af := dNa Af
  replace Aa := kDa Aa
  replace Ac := kDa Ac
  replace HB := bDa HB
  refine start_ (n := 7) (S := fun w' => cG w' Ad 0 (.int .i64 a0_0) ∧ cG w' Ad 1 (.slice A0_1 l0_1.length c0_1) ∧ cG w' Ad 2 (.int .i64 a0_2) ∧ cG w' Ad 3 (.int .i64 a0_3) ∧ cG w' Ad 4 (.int .i64 a0_4) ∧ cG w' Ad 5 (.int .i64 a0_5) ∧ cG w' Ae 0 (.int .i64 a1_0) ∧ cG w' Ae 1 (.slice A1_1 l1_1.length c1_1) ∧ cG w' Ae 2 (.int .i64 a1_2) ∧ cG w' Ae 3 (.int .i64 a1_3) ∧ cG w' Ae 4 (.int .i64 a1_4) ∧ cG w' Ae 5 (.int .i64 a1_5)) (ds := []) #[false, false, false, false, false, false, false] (by kernel_rfl) rfl rfl ⟨(blk_cell Aa.out 0).trans rfl, (blk_cell Aa.out 1).trans rfl, (blk_cell Aa.out 2).trans rfl, (blk_cell Aa.out 3).trans rfl, (blk_cell Aa.out 4).trans rfl, (blk_cell Aa.out 5).trans rfl, (blk_cell Ac.out 0).trans rfl, (blk_cell Ac.out 1).trans rfl, (blk_cell Ac.out 2).trans rfl, (blk_cell Ac.out 3).trans rfl, (blk_cell Ac.out 4).trans rfl, (blk_cell Ac.out 5).trans rfl⟩ (fun hHeld => ?_)
  generalize w269.drew = w272 at HO0_1 HO1_1 Af Aa Ac HB hHeld ⊢
  refine zv 0 15 7 1 hHeld ?_
  refine zv 1 16 7 3 hHeld ?_
  refine zv 3 18 7 11 hHeld ?_
  refine zv 4 19 7 27 hHeld ?_
  refine one_ (i := 2) (N := some 17) (bw 7 31) rfl rfl (by kernel_rfl) (by decide) (fun K hK => ?_)
  refine goes_ Try.func10 (by kernel_rfl) rfl #[.agg #[.int .i64 a0_0, .slice A0_1 l0_1.length c0_1, .int .i64 a0_2, .int .i64 a0_3, .int .i64 a0_4, .int .i64 a0_5], .agg #[.int .i64 a1_0, .slice A1_1 l1_1.length c1_1, .int .i64 a1_2, .int .i64 a1_3, .int .i64 a1_4, .int .i64 a1_5]] (by rfl) rfl rfl pL ?_
  with_reducible refine (wal_Same.calls k a0_0 _ _ l0_1 a0_2 a0_3 a0_4 a0_5 a1_0 _ _ l1_1 a1_2 a1_3 a1_4 a1_5 t676 _ ?Ap ?Aq ?A4 ?A7 A5.out).mono ?_
  (case Ap => exact pC (Kd.V_reads' HO0_1.out).2.2)
  (case Aq => exact (Kd.V_reads' HO0_1.out).2.1)
  (case A4 => exact pC (Kd.V_reads' HO1_1.out).2.2)
  (case A7 => exact (Kd.V_reads' HO1_1.out).2.1)
  rintro e w273 ⟨rfl, hb⟩
  refine ⟨_, rfl, ?_⟩
  replace HO0_1 := bVa HO0_1 hb
  replace HO1_1 := bVa HO1_1 hb
  replace Af := bNa Af hb
  replace Aa := kBa Aa hb
  replace Ac := kBa Ac hb
  replace HB := zX2 HB Aj.out Ak.out hb
  (try clear hb)
  (try clear hb2)
  (try clear hk)
  (try clear hi)
  refine hK.out _ _ ⟨(blk_cell Aa.out 0).trans rfl, (blk_cell Aa.out 1).trans rfl, (blk_cell Aa.out 2).trans rfl, (blk_cell Aa.out 3).trans rfl, (blk_cell Aa.out 4).trans rfl, (blk_cell Aa.out 5).trans rfl, (blk_cell Ac.out 0).trans rfl, (blk_cell Ac.out 1).trans rfl, (blk_cell Ac.out 2).trans rfl, (blk_cell Ac.out 3).trans rfl, (blk_cell Ac.out 4).trans rfl, (blk_cell Ac.out 5).trans rfl⟩ (fun hHeld => ?_)
  clear hK K
  refine norm_ (a' := ?_) ?_ ?_
  rotate_left
  ·show Act.put _ (some 17) _ = _
   simp only [Act.put, List.setIfInBounds_toArray, List.set_cons_zero, List.set_cons_succ, i64_w, i32_w]
   rfl
  refine one_ (i := 5) (N := some 20) (bw 7 63) rfl rfl (by kernel_rfl) (by decide) (fun K hK => ?_)
  refine goes_ Try.func8 (by kernel_rfl) rfl #[.agg #[.int .i64 a0_0, .slice A0_1 l0_1.length c0_1, .int .i64 a0_2, .int .i64 a0_3, .int .i64 a0_4, .int .i64 a0_5], .agg #[.int .i64 a1_0, .slice A1_1 l1_1.length c1_1, .int .i64 a1_2, .int .i64 a1_3, .int .i64 a1_4, .int .i64 a1_5]] (by rfl) rfl rfl pL ?_
  with_reducible refine (garnerref24_Same.calls k a0_0 _ _ l0_1 a0_2 a0_3 a0_4 a0_5 a1_0 _ _ l1_1 a1_2 a1_3 a1_4 a1_5 t677 _ ?Ap ?Aq ?A4 ?A7 A6.out).mono ?_
  (case Ap => exact pC (Kd.V_reads' HO0_1.out).2.2)
  (case Aq => exact (Kd.V_reads' HO0_1.out).2.1)
  (case A4 => exact pC (Kd.V_reads' HO1_1.out).2.2)
  (case A7 => exact (Kd.V_reads' HO1_1.out).2.1)
  rintro e w274 ⟨rfl, hb⟩
  refine ⟨_, rfl, ?_⟩
  replace HO0_1 := bVa HO0_1 hb
  replace HO1_1 := bVa HO1_1 hb
  replace Af := bNa Af hb
  replace Aa := kBa Aa hb
  replace Ac := kBa Ac hb
  replace HB := zX2 HB Aj.out Ak.out hb
  (try clear hb)
  (try clear hb2)
  (try clear hk)
  (try clear hi)
  refine hK.out _ _ ⟨(blk_cell Aa.out 0).trans rfl, (blk_cell Aa.out 1).trans rfl, (blk_cell Aa.out 2).trans rfl, (blk_cell Aa.out 3).trans rfl, (blk_cell Aa.out 4).trans rfl, (blk_cell Aa.out 5).trans rfl, (blk_cell Ac.out 0).trans rfl, (blk_cell Ac.out 1).trans rfl, (blk_cell Ac.out 2).trans rfl, (blk_cell Ac.out 3).trans rfl, (blk_cell Ac.out 4).trans rfl, (blk_cell Ac.out 5).trans rfl⟩ (fun hHeld => ?_)
  clear hK K
  refine norm_ (a' := ?_) ?_ ?_
  rotate_left
  ·show Act.put _ (some 20) _ = _
   simp only [Act.put, List.setIfInBounds_toArray, List.set_cons_zero, List.set_cons_succ, i64_w, i32_w]
   rfl
  refine zu 6 21 7 127 ?_
  refine done_ (by kernel_rfl) ?_
  obtain ⟨_, _, _, _, _, _⟩ := bc6 Aa.out
  obtain ⟨_, _, _, _, _, _⟩ := bf6 Aa.out
  try go_wp2_with (first | ((with_reducible refine zC 11 rfl ?_); refine zL (some 24) Try.func11 #[.agg #[.int .i64 a0_0, .slice A0_1 l0_1.length c0_1, .int .i64 a0_2, .int .i64 a0_3, .int .i64 a0_4, .int .i64 a0_5]] ?_; (with_reducible refine (wal_Put.calls k a0_0 _ _ l0_1 a0_2 a0_3 a0_4 a0_5 t678 t679 t682 _ ?Ap ?Aq A19.out).mono ?_); (case Ap => exact pC (Kd.V_reads' HO0_1.out).2.2); (case Aq => exact (Kd.V_reads' HO0_1.out).2.1); rintro e w276 ⟨v680, rfl, ho0, hb⟩; refine ⟨_, rfl, ?_⟩; replace HO0_1 := Am (Kd.V_elder' (pV HO0_1.out) (Kd.R_base ho0) hb); replace HO1_1 := Am (Kd.V_elder' (pV HO1_1.out) (Kd.R_base ho0) hb); replace Af := Am (Kd.N_elder' (pN Af.out) (Kd.R_base ho0) hb); have An := Am (Kd.R_lower (Kd.R_newM (M := fun k_ => (w.heap.size ≤ k_)) ho0 (below_size (pE2 HB.out Aj.out Ak.out)) (fun k_ h_ => h_)) (below_size (pE2 HB.out Aj.out Ak.out))); replace Aa := kBa Aa hb; replace Ac := kBa Ac hb; replace HB := zX2 HB Aj.out Ak.out hb; (try clear hb); (try clear ho0)) | ((with_reducible refine zD 5 rfl ?_); (try (refine gate_guard (by rfl) ?_; dsimp only)); refine zE 5 #[.int .i64 0, .slice none 0 0] 24 ?_; intro Ag hg w277 hbox hb; replace HO0_1 := Am (Kd.V_below (Kd.V_elderB (pV HO0_1.out) Ag (Nat.le_of_eq hg.symm)) hb); replace HO1_1 := Am (Kd.V_below (Kd.V_elderB (pV HO1_1.out) Ag (Nat.le_of_eq hg.symm)) hb); replace Af := Am (Kd.N_below (Kd.N_elderB (pN Af.out) Ag (Nat.le_of_eq hg.symm)) hb); replace An := bRa An hb; have Ah := Am (hbox); have By := zY2 hg HB Aj.out Ak.out; replace HB := zX2 HB Aj.out Ak.out hb; have Ao := By; have At := Am (zN hg (kL Aa.out)); have Be := Am (zM hg (kL Aa.out)); replace Aa := kBa Aa hb; have Au := Am (zN hg (kL Ac.out)); have Bf := Am (zM hg (kL Ac.out)); replace Ac := kBa Ac hb; clear hb hbox hg; have hnb278 := Be.out; have hnc278 := At.out; have hnb279 := Bf.out; have hnc279 := Au.out; obtain ⟨_, _⟩ := bc2 Ah.out; obtain ⟨_, _⟩ := bf2 Ah.out; obtain ⟨C2, C3, Ee⟩ := Kd.R_slice An.out; subst Ee; obtain ⟨_, _, _, _, _, _⟩ := bc6 Aa.out; obtain ⟨_, _, _, _, _, _⟩ := bf6 Aa.out) | ((with_reducible refine zC 12 rfl ?_); refine zL (some 28) Try.func12 #[.agg #[.int .i64 a0_0, .slice A0_1 l0_1.length c0_1, .int .i64 a0_2, .int .i64 a0_3, .int .i64 a0_4, .int .i64 a0_5]] ?_; (with_reducible refine (garnerref24_May.calls k a0_0 _ _ l0_1 a0_2 a0_3 a0_4 a0_5 false _ ?Ap ?Aq A20.out).mono ?_); (case Ap => refine (Kd.V_reads' (e := 52) (base := w.heap.size) (ok := fun k_ => (((((P0_1_ k_ ∨ P1_1_ k_) ∨ w.heap.size ≤ k_) ∧ some k_ ≠ (.slice B8 y671.length B9 : Value).ownBlock ∧ k_ ≠ Ad ∧ k_ ≠ Ae) ∧ some k_ ≠ (.slice C2 t679.length C3 : Value).ownBlock) ∧ k_ ≠ Ag)) (n := l0_1.length) (c := c0_1) ?_).2.2; exact (by (with_reducible repeat (first | apply Kd.V_alloc | apply Kd.V_drewN | apply Kd.V_drew)); exact (Kd.V_mono (Vf2 (g := Ag) (Kd.V_mono HO0_1.out (fun k_ hk => (⟨hk, hk.2⟩ : _ ∧ k_ ≠ Ag))) (fun _ hk => hk.2)) (fun _ h_ => h_.1)))); (case Aq => exact (Kd.V_reads' HO0_1.out).2.1); rintro e w283 ⟨rfl, hb⟩; refine ⟨_, rfl, ?_⟩; replace HO0_1 := Am (Kd.V_below (by (with_reducible repeat (first | apply Kd.V_alloc | apply Kd.V_drewN | apply Kd.V_drew)); exact (Kd.V_mono (Vf2 (g := Ag) (Kd.V_mono HO0_1.out (fun k_ hk => (⟨hk, hk.2⟩ : _ ∧ k_ ≠ Ag))) (fun _ hk => hk.2)) (fun _ h_ => h_.1))) hb); replace HO1_1 := Am (Kd.V_below (by (with_reducible repeat (first | apply Kd.V_alloc | apply Kd.V_drewN | apply Kd.V_drew)); exact (Kd.V_mono (Vf2 (g := Ag) (Kd.V_mono HO1_1.out (fun k_ hk => (⟨hk, hk.2⟩ : _ ∧ k_ ≠ Ag))) (fun _ hk => hk.2)) (fun _ h_ => h_.1))) hb); replace Af := Am (Kd.N_below (by (with_reducible repeat (first | apply Kd.N_alloc | apply Kd.N_drewN | apply Kd.N_drew)); exact (Kd.N_mono (Nf2 (g := Ag) (Kd.N_mono Af.out (fun k_ hk => (⟨hk, hk.2⟩ : _ ∧ k_ ≠ Ag))) (fun _ hk => hk.2)) (fun _ h_ => h_.1))) hb); replace An := Am (Kd.R_below (by (with_reducible repeat (first | apply Kd.R_alloc | apply Kd.R_drewN | apply Kd.R_drew)); exact (Kd.R_mono (Rf2 (g := Ag) (Kd.R_types An.out Ah.out (by decide)) (fun _ hk => hk.2)) (fun _ h_ => h_.1))) hb); replace Aa := Am (blk_below (g := Ad) (kX1 Aa.out At.out) hb); replace Ac := Am (blk_below (g := Ae) (kX1 Ac.out Au.out) hb); replace Ah := Am (blk_below (g := Ag) (kX0 Ah.out) hb); replace HB := zX3 HB Aj.out Ak.out Ao.out hb; (try clear hb); (try clear hk); obtain ⟨_, _, _, _, _, _⟩ := bc6 Aa.out; obtain ⟨_, _, _, _, _, _⟩ := bf6 Aa.out) | ((with_reducible refine zC 13 rfl ?_); refine zL (some 31) Try.func13 #[.agg #[.int .i64 a0_0, .slice A0_1 l0_1.length c0_1, .int .i64 a0_2, .int .i64 a0_3, .int .i64 a0_4, .int .i64 a0_5]] ?_; (with_reducible refine (wal_Check.calls k a0_0 _ _ l0_1 a0_2 a0_3 a0_4 a0_5 t685 _ ?Ap ?Aq A258.out).mono ?_); (case Ap => exact pC (Kd.V_reads' HO0_1.out).2.2); (case Aq => exact (Kd.V_reads' HO0_1.out).2.1); rintro e w285 ⟨rfl, hb⟩; refine ⟨_, rfl, ?_⟩; replace HO0_1 := bVa HO0_1 hb; replace HO1_1 := bVa HO1_1 hb; replace Af := bNa Af hb; replace An := bRa An hb; replace Aa := kBa Aa hb; replace Ac := kBa Ac hb; replace Ah := kBa Ah hb; replace HB := zX3 HB Aj.out Ak.out Ao.out hb; (try clear hb); obtain ⟨_, _⟩ := bc2 Ah.out; obtain ⟨_, _⟩ := bf2 Ah.out) | ((with_reducible refine zD 39 rfl ?_); (try (refine gate_guard (by rfl) ?_; dsimp only)); refine Kd.N_lit k24 _ 24 ?hg (N' := 39) ?hd (xs := ([(⟨t678, t679⟩ : S24)] : List (S24))) (inner := [.int .i64 t678, .slice C2 t679.length C3]) (ok := (fun k_ => ((P0_1_ k_ ∨ P1_1_ k_) ∨ w.heap.size ≤ k_) ∧ some k_ ≠ (.slice B8 y671.length B9 : Value).ownBlock ∧ k_ ≠ Ad ∧ k_ ≠ Ae ∧ k_ ≠ Ag)) (okp := (fun k_ => ((P0_1_ k_ ∨ P1_1_ k_) ∨ w.heap.size ≤ k_) ∧ some k_ ≠ (.slice B8 y671.length B9 : Value).ownBlock ∧ k_ ≠ Ad ∧ k_ ≠ Ae ∧ k_ ≠ Ag)) ?hr ?hp (fun _ hk => hk) ((show ∀ k_, w285.heap.size ≤ k_ → (fun k_ => ((P0_1_ k_ ∨ P1_1_ k_) ∨ w.heap.size ≤ k_) ∧ some k_ ≠ (.slice B8 y671.length B9 : Value).ownBlock ∧ k_ ≠ Ad ∧ k_ ≠ Ae ∧ k_ ≠ Ag) k_ from fun k_ hk => ⟨(.inr (Nat.le_trans (below_size (pE3 HB.out Aj.out Ak.out Ao.out)) hk)), Kd.fresh' (Kd.N_lt (pN Af.out)) k_ hk, kF Aa.out k_ hk, kF Ac.out k_ hk, kF Ah.out k_ hk⟩) _ (Nat.le_refl _)) (Below.refl _ _) (Nat.le_refl _) (by simp) ?_; (case hd => rfl); (case hg => rfl); (case hr => first | (go_simp; done) | (go_simp; rfl)); (case hp => exact (Reps.c2 (show Kd.FK k24 _ _ (⟨t678, t679⟩ : S24) [.int .i64 t678, .slice C2 t679.length C3] from (k24_mkF _ _ (⟨t678, t679⟩ : S24) (Kd.R_reads' (Kd.R_mono (ok' := (fun k_ => ((P0_1_ k_ ∨ P1_1_ k_) ∨ w.heap.size ≤ k_) ∧ some k_ ≠ (.slice B8 y671.length B9 : Value).ownBlock ∧ k_ ≠ Ad ∧ k_ ≠ Ae ∧ k_ ≠ Ag)) (Kd.R_types (Kd.R_types (Kd.R_types (Kd.R_apart' (An.out) (Kd.N_typed Af.out) (by decide)) Aa.out (by decide)) Ac.out (by decide)) Ah.out (by decide)) (fun k_ hk => ⟨(.inr (hk.1.1.1.1.1)), ⟨hk.1.1.1.2, ⟨hk.1.1.2, ⟨hk.1.2, hk.2⟩⟩⟩⟩))).2.1 (Kd.R_F (Kd.R_mono (ok' := (fun k_ => ((P0_1_ k_ ∨ P1_1_ k_) ∨ w.heap.size ≤ k_) ∧ some k_ ≠ (.slice B8 y671.length B9 : Value).ownBlock ∧ k_ ≠ Ad ∧ k_ ≠ Ae ∧ k_ ≠ Ag)) (Kd.R_types (Kd.R_types (Kd.R_types (Kd.R_apart' (An.out) (Kd.N_typed Af.out) (by decide)) Aa.out (by decide)) Ac.out (by decide)) Ah.out (by decide)) (fun k_ hk => ⟨(.inr (hk.1.1.1.1.1)), ⟨hk.1.1.1.2, ⟨hk.1.1.2, ⟨hk.1.2, hk.2⟩⟩⟩⟩))))) (Reps.none _ _))); intro v687 w287 ho288 hb hg_ hnew_; clear hg_ hnew_; (first | rw [← Ny686.out] at ho288 | (simp only [Int.reduceToNat] at ho288; rw [← Ny686.out] at ho288)); replace HO0_1 := Am (Kd.V_elder' (pV HO0_1.out) (Kd.N_base ho288) hb); replace HO1_1 := Am (Kd.V_elder' (pV HO1_1.out) (Kd.N_base ho288) hb); replace Af := Am (Kd.N_elder' (pN Af.out) (Kd.N_base ho288) hb); have B7 := Am (Kd.N_lower ho288 (below_size (pE3 HB.out Aj.out Ak.out Ao.out))); replace Aa := kBa Aa hb; replace Ac := kBa Ac hb; replace Ah := kBa Ah hb; replace HB := zX3 HB Aj.out Ak.out Ao.out hb; clear An hb ho288) | ((with_reducible refine zD 41 rfl ?_); (try (refine gate_guard (by rfl) ?_; dsimp only)); refine Kd.N_lit k24 _ 24 ?hg (N' := 41) ?hd (xs := ([(⟨0, ([] : List Int)⟩ : S24)] : List (S24))) (inner := [.int .i64 0, .slice none 0 0]) (ok := (fun k_ => ((P0_1_ k_ ∨ P1_1_ k_) ∨ w.heap.size ≤ k_) ∧ some k_ ≠ (.slice B8 y671.length B9 : Value).ownBlock ∧ some k_ ≠ (v687 : Value).ownBlock ∧ k_ ≠ Ad ∧ k_ ≠ Ae ∧ k_ ≠ Ag)) (okp := (fun k_ => ((P0_1_ k_ ∨ P1_1_ k_) ∨ w.heap.size ≤ k_) ∧ some k_ ≠ (.slice B8 y671.length B9 : Value).ownBlock ∧ some k_ ≠ (v687 : Value).ownBlock ∧ k_ ≠ Ad ∧ k_ ≠ Ae ∧ k_ ≠ Ag)) ?hr ?hp (fun _ hk => hk) ((show ∀ k_, w287.heap.size ≤ k_ → (fun k_ => ((P0_1_ k_ ∨ P1_1_ k_) ∨ w.heap.size ≤ k_) ∧ some k_ ≠ (.slice B8 y671.length B9 : Value).ownBlock ∧ some k_ ≠ (v687 : Value).ownBlock ∧ k_ ≠ Ad ∧ k_ ≠ Ae ∧ k_ ≠ Ag) k_ from fun k_ hk => ⟨(.inr (Nat.le_trans (below_size (pE3 HB.out Aj.out Ak.out Ao.out)) hk)), Kd.fresh' (Kd.N_lt (pN Af.out)) k_ hk, Kd.fresh' (Kd.N_lt (pN B7.out)) k_ hk, kF Aa.out k_ hk, kF Ac.out k_ hk, kF Ah.out k_ hk⟩) _ (Nat.le_refl _)) (Below.refl _ _) (Nat.le_refl _) (by simp) ?_; (case hd => rfl); (case hg => rfl); (case hr => first | (go_simp; done) | (go_simp; rfl)); (case hp => exact (Reps.c2 (show Kd.FK k24 _ _ (⟨0, ([] : List Int)⟩ : S24) [.int .i64 0, .slice none 0 0] from (k24_mkF _ _ (⟨0, ([] : List Int)⟩ : S24) (Nat.le_refl _) (Kd.F_nil _ _ _))) (Reps.none _ _))); intro v690 w289 ho290 hb hg_ hnew_; clear hg_ hnew_; (first | rw [← Ny689.out] at ho290 | (simp only [Int.reduceToNat] at ho290; rw [← Ny689.out] at ho290)); replace HO0_1 := Am (Kd.V_elder' (pV HO0_1.out) (Kd.N_base ho290) hb); replace HO1_1 := Am (Kd.V_elder' (pV HO1_1.out) (Kd.N_base ho290) hb); replace Af := Am (Kd.N_elder' (pN Af.out) (Kd.N_base ho290) hb); replace B7 := Am (Kd.N_elder' (pN B7.out) (Kd.N_base ho290) hb); have Cl := Am (Kd.N_lower ho290 (below_size (pE3 HB.out Aj.out Ak.out Ao.out))); replace Aa := kBa Aa hb; replace Ac := kBa Ac hb; replace Ah := kBa Ah hb; replace HB := zX3 HB Aj.out Ak.out Ao.out hb; clear hb ho290; obtain ⟨Ao291, co291, Ef⟩ := Kd.N_slice B7.out; subst Ef; obtain ⟨Ao292, co292, Eg⟩ := Kd.N_slice Cl.out; subst Eg) | (go_at_call 14; (with_reducible refine (garnerref03_Same.calls k _ _ y686 _ _ y689 true _ ?Ap ?Aq ?A4 ?A7 A261.out).mono ?_); (case Ap => exact pC (Kd.N_reads' B7.out).2.2); (case Aq => exact (Kd.N_reads' B7.out).2.1); (case A4 => exact pC (Kd.N_reads' Cl.out).2.2); (case A7 => exact (Kd.N_reads' Cl.out).2.1); rintro e w' ⟨rfl, ⟨nd, rfl⟩⟩) | (go_at_call 5; (with_reducible refine (garnerlaw24_awake.calls k  t693 _ A263.out).mono ?_); rintro e w293 ⟨rfl, hb⟩; replace HO0_1 := bVa HO0_1 hb; replace HO1_1 := bVa HO1_1 hb; replace Af := bNa Af hb; replace B7 := bNa B7 hb; replace Cl := bNa Cl hb; replace Aa := kBa Aa hb; replace Ac := kBa Ac hb; replace Ah := kBa Ah hb; replace HB := zX3 HB Aj.out Ak.out Ao.out hb; (try clear hb)))
  go_ret
  exact ⟨pX, pE3 HB.out Aj.out Ak.out Ao.out⟩
 subst c21
 rw [if_pos rfl] at H
 obtain ⟨⟨t694, t695, t698, t699, t700, t701, t702⟩, A22, H⟩ := zb H
 dsimp only at H
 obtain ⟨t704, A23, H⟩ := zb H
 obtain ⟨c24, H⟩ := zI H
 obtain ⟨c24b0, c24b1⟩ := zc c24
 clear c24
 obtain ⟨c25, H⟩ := zI H
 obtain ⟨c25b0, c25b1⟩ := zc c25
 clear c25
 obtain ⟨y705, hy705⟩ : ∃ y_ : List (S24), y_ = (([(⟨t678, t679⟩ : S24)] : List (S24))) := ⟨_, rfl⟩
 replace H : ((garnerref24_Put.f k a0_0 l0_1 a0_2 a0_3 a0_4 a0_5).bind fun bt708 => ((garnerref03_Same.f k y705 (([(⟨bt708.1, bt708.2⟩ : S24)] : List (S24)))).bind fun t715 => (if t715 = true then (if t702 = 0 then ((garnerref24_Same.f k t694 t695 t698 t699 t700 t701 a0_0 l0_1 a0_2 a0_3 a0_4 a0_5).bind fun t716 => (if t716 = true then ((garnerlaw24_awake.f k).bind fun t717 => (some t717)) else (none))) else (none)) else (none)))) = some r := zy hy705 H
 have Ny705 := Am hy705
 clear hy705
 obtain ⟨⟨t708, t709⟩, A26, H⟩ := zb H
 dsimp only at H
 obtain ⟨y712, hy712⟩ : ∃ y_ : List (S24), y_ = (([(⟨t708, t709⟩ : S24)] : List (S24))) := ⟨_, rfl⟩
 replace H : ((garnerref03_Same.f k y705 y712).bind fun t715 => (if t715 = true then (if t702 = 0 then ((garnerref24_Same.f k t694 t695 t698 t699 t700 t701 a0_0 l0_1 a0_2 a0_3 a0_4 a0_5).bind fun t716 => (if t716 = true then ((garnerlaw24_awake.f k).bind fun t717 => (some t717)) else (none))) else (none)) else (none))) = some r := zy hy712 H
 have Ny712 := Am hy712
 clear hy712
 obtain ⟨t715, A27, H⟩ := zb H
 by_cases c28 : t715 = true
 rotate_left
 ·replace c28 := Bool.eq_false_iff.mpr c28
  subst c28
  have H1 : (none) = some r := by rw [if_neg (show ¬ (false = true) by decide)] at H; exact H
  exact absurd H1 (by simp)
 subst c28
 rw [if_pos rfl] at H
 obtain ⟨c29, H⟩ := zI H
 obtain ⟨c29b0, c29b1⟩ := zc c29
 clear c29
 obtain ⟨t716, A30, H⟩ := zb H
 by_cases c31 : t716 = true
 rotate_left
 ·replace c31 := Bool.eq_false_iff.mpr c31
  subst c31
  have H1 : (none) = some r := by rw [if_neg (show ¬ (false = true) by decide)] at H; exact H
  exact absurd H1 (by simp)
 subst c31
 rw [if_pos rfl] at H
 obtain ⟨t717, A32, H⟩ := zb H
 obtain rfl := Option.some.inj H
 go_enter Try.func4, Try.ntmps4
 try go_wp2_with (first | ((with_reducible refine zD 2 rfl ?_); (try (refine gate_guard (by rfl) ?_; dsimp only)); refine zE 2 #[.int .i64 a0_0, .slice A0_1 l0_1.length c0_1, .int .i64 a0_2, .int .i64 a0_3, .int .i64 a0_4, .int .i64 a0_5] 30 ?_; intro Ad hg w33 hbox hb; replace HO0_1 := Am (Kd.V_below (Kd.V_elderB (pV HO0_1.out) Ad (Nat.le_of_eq hg.symm)) hb); replace HO1_1 := Am (Kd.V_below (Kd.V_elderB (pV HO1_1.out) Ad (Nat.le_of_eq hg.symm)) hb); have Aa := Am (hbox); have Bw := zA hg HB; replace HB := zB HB hb; have Aj := Bw; clear hb hbox hg) | ((with_reducible refine zD 3 rfl ?_); (try (refine gate_guard (by rfl) ?_; dsimp only)); refine zE 3 #[.int .i64 a1_0, .slice A1_1 l1_1.length c1_1, .int .i64 a1_2, .int .i64 a1_3, .int .i64 a1_4, .int .i64 a1_5] 30 ?_; intro Ae hg w34 hbox hb; replace HO0_1 := Am (Kd.V_below (Kd.V_elderB (pV HO0_1.out) Ae (Nat.le_of_eq hg.symm)) hb); replace HO1_1 := Am (Kd.V_below (Kd.V_elderB (pV HO1_1.out) Ae (Nat.le_of_eq hg.symm)) hb); have Ac := Am (hbox); have Bx := zY1 hg HB Aj.out; replace HB := zX1 HB Aj.out hb; have Ak := Bx; have A8 := Am (zN hg (kL Aa.out)); have A9 := Am (zM hg (kL Aa.out)); replace Aa := kBa Aa hb; clear hb hbox hg; have hnb35 := A8.out; have hnc35 := A9.out; obtain ⟨_, _, _, _, _, _⟩ := bc6 Aa.out; obtain ⟨_, _, _, _, _, _⟩ := bf6 Aa.out; obtain ⟨_, _, _, _, _, _⟩ := bc6 Ac.out; obtain ⟨_, _, _, _, _, _⟩ := bf6 Ac.out) | ((with_reducible refine zD 11 rfl ?_); (try (refine gate_guard (by rfl) ?_; dsimp only)); refine Kd.N_lit k30 _ 30 ?hg (N' := 11) ?hd (xs := ([(⟨a0_0, l0_1, (⟨a0_2, a0_3, a0_4⟩ : S28), a0_5⟩ : S30), (⟨a1_0, l1_1, (⟨a1_2, a1_3, a1_4⟩ : S28), a1_5⟩ : S30)] : List (S30))) (inner := [.int .i64 a0_0, .slice A0_1 l0_1.length c0_1, .int .i64 a0_2, .int .i64 a0_3, .int .i64 a0_4, .int .i64 a0_5, .int .i64 a1_0, .slice A1_1 l1_1.length c1_1, .int .i64 a1_2, .int .i64 a1_3, .int .i64 a1_4, .int .i64 a1_5]) (ok := (fun k_ => ((P0_1_ k_ ∨ P1_1_ k_) ∨ w.heap.size ≤ k_) ∧ k_ ≠ Ad ∧ k_ ≠ Ae)) (okp := (fun k_ => ((P0_1_ k_ ∨ P1_1_ k_) ∨ w.heap.size ≤ k_) ∧ k_ ≠ Ad ∧ k_ ≠ Ae)) ?hr ?hp (fun _ hk => hk) ((show ∀ k_, w34.heap.size ≤ k_ → (fun k_ => ((P0_1_ k_ ∨ P1_1_ k_) ∨ w.heap.size ≤ k_) ∧ k_ ≠ Ad ∧ k_ ≠ Ae) k_ from fun k_ hk => ⟨(.inr (Nat.le_trans (below_size (pE2 HB.out Aj.out Ak.out)) hk)), kF Aa.out k_ hk, kF Ac.out k_ hk⟩) _ (Nat.le_refl _)) (Below.refl _ _) (Nat.le_refl _) (by simp) ?_; (case hd => rfl); (case hg => rfl); (case hr => first | (go_simp; done) | (go_simp; rfl)); (case hp => exact (Reps.c6 (show Kd.FK k30 _ _ (⟨a0_0, l0_1, (⟨a0_2, a0_3, a0_4⟩ : S28), a0_5⟩ : S30) [.int .i64 a0_0, .slice A0_1 l0_1.length c0_1, .int .i64 a0_2, .int .i64 a0_3, .int .i64 a0_4, .int .i64 a0_5] from (k30_mkF _ _ (⟨a0_0, l0_1, (⟨a0_2, a0_3, a0_4⟩ : S28), a0_5⟩ : S30) (Kd.V_reads' (Kd.V_mono (ok' := (fun k_ => ((P0_1_ k_ ∨ P1_1_ k_) ∨ w.heap.size ≤ k_) ∧ k_ ≠ Ad ∧ k_ ≠ Ae)) (HO0_1.out) (fun k_ hk => ⟨hk.1.1, ⟨hk.1.2, hk.2⟩⟩))).2.1 (Kd.V_F (Kd.V_mono (ok' := (fun k_ => ((P0_1_ k_ ∨ P1_1_ k_) ∨ w.heap.size ≤ k_) ∧ k_ ≠ Ad ∧ k_ ≠ Ae)) (HO0_1.out) (fun k_ hk => ⟨hk.1.1, ⟨hk.1.2, hk.2⟩⟩))))) (Reps.c6 (show Kd.FK k30 _ _ (⟨a1_0, l1_1, (⟨a1_2, a1_3, a1_4⟩ : S28), a1_5⟩ : S30) [.int .i64 a1_0, .slice A1_1 l1_1.length c1_1, .int .i64 a1_2, .int .i64 a1_3, .int .i64 a1_4, .int .i64 a1_5] from (k30_mkF _ _ (⟨a1_0, l1_1, (⟨a1_2, a1_3, a1_4⟩ : S28), a1_5⟩ : S30) (Kd.V_reads' (Kd.V_mono (ok' := (fun k_ => ((P0_1_ k_ ∨ P1_1_ k_) ∨ w.heap.size ≤ k_) ∧ k_ ≠ Ad ∧ k_ ≠ Ae)) (HO1_1.out) (fun k_ hk => ⟨hk.1.1, ⟨hk.1.2, hk.2⟩⟩))).2.1 (Kd.V_F (Kd.V_mono (ok' := (fun k_ => ((P0_1_ k_ ∨ P1_1_ k_) ∨ w.heap.size ≤ k_) ∧ k_ ≠ Ad ∧ k_ ≠ Ae)) (HO1_1.out) (fun k_ hk => ⟨hk.1.1, ⟨hk.1.2, hk.2⟩⟩))))) (Reps.none _ _)))); intro v672 w38 ho39 hb hg_ hnew_; clear hg_ hnew_; (first | rw [← Ny671.out] at ho39 | (simp only [Int.reduceToNat] at ho39; rw [← Ny671.out] at ho39)); replace HO0_1 := Am (Kd.V_elder' (pV HO0_1.out) (Kd.N_base ho39) hb); replace HO1_1 := Am (Kd.V_elder' (pV HO1_1.out) (Kd.N_base ho39) hb); have Af := Am (Kd.N_lower ho39 (below_size (pE2 HB.out Aj.out Ak.out))); replace Aa := kBa Aa hb; replace Ac := kBa Ac hb; replace HB := zX2 HB Aj.out Ak.out hb; clear hb ho39; obtain ⟨Bl, Bm, Ez⟩ := Kd.N_slice Af.out; subst Ez) | ((with_reducible refine zC 9 rfl ?_); refine zL (some 12) Try.func9 #[.slice Bl y671.length Bm] ?_; (with_reducible refine (garnerlaw24_Light.calls k _ _ y671 true _ ?Ap ?Aq A3.out).mono ?_); (case Ap => exact pC (Kd.N_reads' Af.out).2.2); (case Aq => exact (Kd.N_reads' Af.out).2.1); rintro e w' ⟨rfl, ⟨nd, rfl⟩⟩; refine ⟨_, rfl, ?_⟩; (try (rw [drewN_self w38]; generalize hq_ : World.drewN w38 _ = w38; replace HO0_1 : Aside0 (Kd.V k52 52 w38 w.heap.size (fun k_ => ((P0_1_ k_ ∨ P1_1_ k_) ∨ w.heap.size ≤ k_) ∧ some k_ ≠ (.slice Bl y671.length Bm : Value).ownBlock ∧ k_ ≠ Ad ∧ k_ ≠ Ae) (.slice A0_1 l0_1.length c0_1) l0_1) := ⟨by rw [← hq_]; exact (by (with_reducible repeat (first | apply Kd.V_alloc | apply Kd.V_drewN | apply Kd.V_drew)); exact Kd.V_mono HO0_1.out (fun _ hk => ⟨hk.1.1.1, ⟨hk.2, ⟨hk.1.1.2, hk.1.2⟩⟩⟩))⟩; replace HO1_1 : Aside0 (Kd.V k52 52 w38 w.heap.size (fun k_ => ((P0_1_ k_ ∨ P1_1_ k_) ∨ w.heap.size ≤ k_) ∧ some k_ ≠ (.slice Bl y671.length Bm : Value).ownBlock ∧ k_ ≠ Ad ∧ k_ ≠ Ae) (.slice A1_1 l1_1.length c1_1) l1_1) := ⟨by rw [← hq_]; exact (by (with_reducible repeat (first | apply Kd.V_alloc | apply Kd.V_drewN | apply Kd.V_drew)); exact Kd.V_mono HO1_1.out (fun _ hk => ⟨hk.1.1.1, ⟨hk.2, ⟨hk.1.1.2, hk.1.2⟩⟩⟩))⟩; replace Af : Aside0 (Kd.N k30 30 w38 w.heap.size (fun k_ => ((P0_1_ k_ ∨ P1_1_ k_) ∨ w.heap.size ≤ k_) ∧ k_ ≠ Ad ∧ k_ ≠ Ae) (.slice Bl y671.length Bm) y671) := ⟨by rw [← hq_]; exact (pN Af.out)⟩; replace Aa : Aside0 (w38.heap[Ad]? = some (.cells #[.int .i64 a0_0, .slice A0_1 l0_1.length c0_1, .int .i64 a0_2, .int .i64 a0_3, .int .i64 a0_4, .int .i64 a0_5] 30 (0, 0))) := ⟨by rw [← hq_]; exact (pK Aa.out)⟩; replace Ac : Aside0 (w38.heap[Ae]? = some (.cells #[.int .i64 a1_0, .slice A1_1 l1_1.length c1_1, .int .i64 a1_2, .int .i64 a1_3, .int .i64 a1_4, .int .i64 a1_5] 30 (0, 0))) := ⟨by rw [← hq_]; exact (pK Ac.out)⟩; replace HB : Aside0 (Below w.heap.size w w38) := ⟨by rw [← hq_]; exact (pE2 HB.out Aj.out Ak.out)⟩; clear hq_))))
 replace HO0_1 := dVa HO0_1
 replace HO1_1 := dVa HO1_1
 replace Af := dNa Af
 replace Aa := kDa Aa
 replace Ac := kDa Ac
 replace HB := bDa HB
 refine start_ (n := 7) (S := fun w' => cG w' Ad 0 (.int .i64 a0_0) ∧ cG w' Ad 1 (.slice A0_1 l0_1.length c0_1) ∧ cG w' Ad 2 (.int .i64 a0_2) ∧ cG w' Ad 3 (.int .i64 a0_3) ∧ cG w' Ad 4 (.int .i64 a0_4) ∧ cG w' Ad 5 (.int .i64 a0_5) ∧ cG w' Ae 0 (.int .i64 a1_0) ∧ cG w' Ae 1 (.slice A1_1 l1_1.length c1_1) ∧ cG w' Ae 2 (.int .i64 a1_2) ∧ cG w' Ae 3 (.int .i64 a1_3) ∧ cG w' Ae 4 (.int .i64 a1_4) ∧ cG w' Ae 5 (.int .i64 a1_5)) (ds := []) #[false, false, false, false, false, false, false] (by kernel_rfl) rfl rfl ⟨(blk_cell Aa.out 0).trans rfl, (blk_cell Aa.out 1).trans rfl, (blk_cell Aa.out 2).trans rfl, (blk_cell Aa.out 3).trans rfl, (blk_cell Aa.out 4).trans rfl, (blk_cell Aa.out 5).trans rfl, (blk_cell Ac.out 0).trans rfl, (blk_cell Ac.out 1).trans rfl, (blk_cell Ac.out 2).trans rfl, (blk_cell Ac.out 3).trans rfl, (blk_cell Ac.out 4).trans rfl, (blk_cell Ac.out 5).trans rfl⟩ (fun hHeld => ?_)
 generalize w38.drew = w41 at HO0_1 HO1_1 Af Aa Ac HB hHeld ⊢
 refine zv 0 15 7 1 hHeld ?_
 refine zv 1 16 7 3 hHeld ?_
 refine zv 3 18 7 11 hHeld ?_
 refine zv 4 19 7 27 hHeld ?_
 refine one_ (i := 2) (N := some 17) (bw 7 31) rfl rfl (by kernel_rfl) (by decide) (fun K hK => ?_)
 refine goes_ Try.func10 (by kernel_rfl) rfl #[.agg #[.int .i64 a0_0, .slice A0_1 l0_1.length c0_1, .int .i64 a0_2, .int .i64 a0_3, .int .i64 a0_4, .int .i64 a0_5], .agg #[.int .i64 a1_0, .slice A1_1 l1_1.length c1_1, .int .i64 a1_2, .int .i64 a1_3, .int .i64 a1_4, .int .i64 a1_5]] (by rfl) rfl rfl pL ?_
 with_reducible refine (wal_Same.calls k a0_0 _ _ l0_1 a0_2 a0_3 a0_4 a0_5 a1_0 _ _ l1_1 a1_2 a1_3 a1_4 a1_5 t676 _ ?Ap ?Aq ?A4 ?A7 A5.out).mono ?_
 (case Ap => exact pC (Kd.V_reads' HO0_1.out).2.2)
 (case Aq => exact (Kd.V_reads' HO0_1.out).2.1)
 (case A4 => exact pC (Kd.V_reads' HO1_1.out).2.2)
 (case A7 => exact (Kd.V_reads' HO1_1.out).2.1)
 rintro e w42 ⟨rfl, hb⟩
 refine ⟨_, rfl, ?_⟩
 replace HO0_1 := bVa HO0_1 hb
 replace HO1_1 := bVa HO1_1 hb
 replace Af := bNa Af hb
 replace Aa := kBa Aa hb
 replace Ac := kBa Ac hb
 replace HB := zX2 HB Aj.out Ak.out hb
 (try clear hb)
 (try clear hb2)
 (try clear hk)
 (try clear hi)
 refine hK.out _ _ ⟨(blk_cell Aa.out 0).trans rfl, (blk_cell Aa.out 1).trans rfl, (blk_cell Aa.out 2).trans rfl, (blk_cell Aa.out 3).trans rfl, (blk_cell Aa.out 4).trans rfl, (blk_cell Aa.out 5).trans rfl, (blk_cell Ac.out 0).trans rfl, (blk_cell Ac.out 1).trans rfl, (blk_cell Ac.out 2).trans rfl, (blk_cell Ac.out 3).trans rfl, (blk_cell Ac.out 4).trans rfl, (blk_cell Ac.out 5).trans rfl⟩ (fun hHeld => ?_)
 clear hK K
 refine norm_ (a' := ?_) ?_ ?_
 rotate_left
 ·show Act.put _ (some 17) _ = _
  simp only [Act.put, List.setIfInBounds_toArray, List.set_cons_zero, List.set_cons_succ, i64_w, i32_w]
  rfl
 refine one_ (i := 5) (N := some 20) (bw 7 63) rfl rfl (by kernel_rfl) (by decide) (fun K hK => ?_)
 refine goes_ Try.func8 (by kernel_rfl) rfl #[.agg #[.int .i64 a0_0, .slice A0_1 l0_1.length c0_1, .int .i64 a0_2, .int .i64 a0_3, .int .i64 a0_4, .int .i64 a0_5], .agg #[.int .i64 a1_0, .slice A1_1 l1_1.length c1_1, .int .i64 a1_2, .int .i64 a1_3, .int .i64 a1_4, .int .i64 a1_5]] (by rfl) rfl rfl pL ?_
 with_reducible refine (garnerref24_Same.calls k a0_0 _ _ l0_1 a0_2 a0_3 a0_4 a0_5 a1_0 _ _ l1_1 a1_2 a1_3 a1_4 a1_5 t677 _ ?Ap ?Aq ?A4 ?A7 A6.out).mono ?_
 (case Ap => exact pC (Kd.V_reads' HO0_1.out).2.2)
 (case Aq => exact (Kd.V_reads' HO0_1.out).2.1)
 (case A4 => exact pC (Kd.V_reads' HO1_1.out).2.2)
 (case A7 => exact (Kd.V_reads' HO1_1.out).2.1)
 rintro e w43 ⟨rfl, hb⟩
 refine ⟨_, rfl, ?_⟩
 replace HO0_1 := bVa HO0_1 hb
 replace HO1_1 := bVa HO1_1 hb
 replace Af := bNa Af hb
 replace Aa := kBa Aa hb
 replace Ac := kBa Ac hb
 replace HB := zX2 HB Aj.out Ak.out hb
 (try clear hb)
 (try clear hb2)
 (try clear hk)
 (try clear hi)
 refine hK.out _ _ ⟨(blk_cell Aa.out 0).trans rfl, (blk_cell Aa.out 1).trans rfl, (blk_cell Aa.out 2).trans rfl, (blk_cell Aa.out 3).trans rfl, (blk_cell Aa.out 4).trans rfl, (blk_cell Aa.out 5).trans rfl, (blk_cell Ac.out 0).trans rfl, (blk_cell Ac.out 1).trans rfl, (blk_cell Ac.out 2).trans rfl, (blk_cell Ac.out 3).trans rfl, (blk_cell Ac.out 4).trans rfl, (blk_cell Ac.out 5).trans rfl⟩ (fun hHeld => ?_)
 clear hK K
 refine norm_ (a' := ?_) ?_ ?_
 rotate_left
 ·show Act.put _ (some 20) _ = _
  simp only [Act.put, List.setIfInBounds_toArray, List.set_cons_zero, List.set_cons_succ, i64_w, i32_w]
  rfl
 refine zu 6 21 7 127 ?_
 refine done_ (by kernel_rfl) ?_
 obtain ⟨_, _, _, _, _, _⟩ := bc6 Aa.out
 obtain ⟨_, _, _, _, _, _⟩ := bf6 Aa.out
 try go_wp2_with (first | ((with_reducible refine zC 11 rfl ?_); refine zL (some 24) Try.func11 #[.agg #[.int .i64 a0_0, .slice A0_1 l0_1.length c0_1, .int .i64 a0_2, .int .i64 a0_3, .int .i64 a0_4, .int .i64 a0_5]] ?_; (with_reducible refine (wal_Put.calls k a0_0 _ _ l0_1 a0_2 a0_3 a0_4 a0_5 t678 t679 t682 _ ?Ap ?Aq A19.out).mono ?_); (case Ap => exact pC (Kd.V_reads' HO0_1.out).2.2); (case Aq => exact (Kd.V_reads' HO0_1.out).2.1); rintro e w45 ⟨v680, rfl, ho0, hb⟩; refine ⟨_, rfl, ?_⟩; replace HO0_1 := Am (Kd.V_elder' (pV HO0_1.out) (Kd.R_base ho0) hb); replace HO1_1 := Am (Kd.V_elder' (pV HO1_1.out) (Kd.R_base ho0) hb); replace Af := Am (Kd.N_elder' (pN Af.out) (Kd.R_base ho0) hb); have An := Am (Kd.R_lower (Kd.R_newM (M := fun k_ => (w.heap.size ≤ k_)) ho0 (below_size (pE2 HB.out Aj.out Ak.out)) (fun k_ h_ => h_)) (below_size (pE2 HB.out Aj.out Ak.out))); replace Aa := kBa Aa hb; replace Ac := kBa Ac hb; replace HB := zX2 HB Aj.out Ak.out hb; (try clear hb); (try clear ho0)) | ((with_reducible refine zD 5 rfl ?_); (try (refine gate_guard (by rfl) ?_; dsimp only)); refine zE 5 #[.int .i64 0, .slice none 0 0] 24 ?_; intro Ag hg w46 hbox hb; replace HO0_1 := Am (Kd.V_below (Kd.V_elderB (pV HO0_1.out) Ag (Nat.le_of_eq hg.symm)) hb); replace HO1_1 := Am (Kd.V_below (Kd.V_elderB (pV HO1_1.out) Ag (Nat.le_of_eq hg.symm)) hb); replace Af := Am (Kd.N_below (Kd.N_elderB (pN Af.out) Ag (Nat.le_of_eq hg.symm)) hb); replace An := bRa An hb; have Ah := Am (hbox); have By := zY2 hg HB Aj.out Ak.out; replace HB := zX2 HB Aj.out Ak.out hb; have Ao := By; have At := Am (zN hg (kL Aa.out)); have Be := Am (zM hg (kL Aa.out)); replace Aa := kBa Aa hb; have Au := Am (zN hg (kL Ac.out)); have Bf := Am (zM hg (kL Ac.out)); replace Ac := kBa Ac hb; clear hb hbox hg; have hnb47 := Be.out; have hnc47 := At.out; have hnb48 := Bf.out; have hnc48 := Au.out; obtain ⟨_, _⟩ := bc2 Ah.out; obtain ⟨_, _⟩ := bf2 Ah.out; obtain ⟨Bz, B0, E0⟩ := Kd.R_slice An.out; subst E0; obtain ⟨_, _, _, _, _, _⟩ := bc6 Aa.out; obtain ⟨_, _, _, _, _, _⟩ := bf6 Aa.out) | ((with_reducible refine zC 12 rfl ?_); refine zL (some 28) Try.func12 #[.agg #[.int .i64 a0_0, .slice A0_1 l0_1.length c0_1, .int .i64 a0_2, .int .i64 a0_3, .int .i64 a0_4, .int .i64 a0_5]] ?_; (with_reducible refine (garnerref24_May.calls k a0_0 _ _ l0_1 a0_2 a0_3 a0_4 a0_5 true _ ?Ap ?Aq A20.out).mono ?_); (case Ap => refine (Kd.V_reads' (e := 52) (base := w.heap.size) (ok := fun k_ => (((((P0_1_ k_ ∨ P1_1_ k_) ∨ w.heap.size ≤ k_) ∧ some k_ ≠ (.slice Bl y671.length Bm : Value).ownBlock ∧ k_ ≠ Ad ∧ k_ ≠ Ae) ∧ some k_ ≠ (.slice Bz t679.length B0 : Value).ownBlock) ∧ k_ ≠ Ag)) (n := l0_1.length) (c := c0_1) ?_).2.2; exact (by (with_reducible repeat (first | apply Kd.V_alloc | apply Kd.V_drewN | apply Kd.V_drew)); exact (Kd.V_mono (Vf2 (g := Ag) (Kd.V_mono HO0_1.out (fun k_ hk => (⟨hk, hk.2⟩ : _ ∧ k_ ≠ Ag))) (fun _ hk => hk.2)) (fun _ h_ => h_.1)))); (case Aq => exact (Kd.V_reads' HO0_1.out).2.1); rintro e w52 ⟨rfl, hb⟩; refine ⟨_, rfl, ?_⟩; replace HO0_1 := Am (Kd.V_below (by (with_reducible repeat (first | apply Kd.V_alloc | apply Kd.V_drewN | apply Kd.V_drew)); exact (Kd.V_mono (Vf2 (g := Ag) (Kd.V_mono HO0_1.out (fun k_ hk => (⟨hk, hk.2⟩ : _ ∧ k_ ≠ Ag))) (fun _ hk => hk.2)) (fun _ h_ => h_.1))) hb); replace HO1_1 := Am (Kd.V_below (by (with_reducible repeat (first | apply Kd.V_alloc | apply Kd.V_drewN | apply Kd.V_drew)); exact (Kd.V_mono (Vf2 (g := Ag) (Kd.V_mono HO1_1.out (fun k_ hk => (⟨hk, hk.2⟩ : _ ∧ k_ ≠ Ag))) (fun _ hk => hk.2)) (fun _ h_ => h_.1))) hb); replace Af := Am (Kd.N_below (by (with_reducible repeat (first | apply Kd.N_alloc | apply Kd.N_drewN | apply Kd.N_drew)); exact (Kd.N_mono (Nf2 (g := Ag) (Kd.N_mono Af.out (fun k_ hk => (⟨hk, hk.2⟩ : _ ∧ k_ ≠ Ag))) (fun _ hk => hk.2)) (fun _ h_ => h_.1))) hb); replace An := Am (Kd.R_below (by (with_reducible repeat (first | apply Kd.R_alloc | apply Kd.R_drewN | apply Kd.R_drew)); exact (Kd.R_mono (Rf2 (g := Ag) (Kd.R_types An.out Ah.out (by decide)) (fun _ hk => hk.2)) (fun _ h_ => h_.1))) hb); replace Aa := Am (blk_below (g := Ad) (kX1 Aa.out At.out) hb); replace Ac := Am (blk_below (g := Ae) (kX1 Ac.out Au.out) hb); replace Ah := Am (blk_below (g := Ag) (kX0 Ah.out) hb); replace HB := zX3 HB Aj.out Ak.out Ao.out hb; (try clear hb); (try clear hk); obtain ⟨_, _⟩ := bc2 Ah.out; obtain ⟨_, _⟩ := bf2 Ah.out) | ((with_reducible refine zC 6 rfl ?_); refine zL (some 49) Try.func6 #[.agg #[.int .i64 t678, .slice Bz t679.length B0]] ?_; (with_reducible refine (wal_Get.calls k t678 _ _ t679 t694 t695 t698 t699 t700 t701 t702 _ ?Ap ?Aq A22.out).mono ?_); (case Ap => exact pC (Kd.R_reads' An.out).2.2); (case Aq => exact (Kd.R_reads' An.out).2.1); rintro e w54 ⟨v696, rfl, ho0, hb⟩; refine ⟨_, rfl, ?_⟩; replace HO0_1 := Am (Kd.V_elder' (pV HO0_1.out) (Kd.N_base (Kd.S_N ho0)) hb); replace HO1_1 := Am (Kd.V_elder' (pV HO1_1.out) (Kd.N_base (Kd.S_N ho0)) hb); have Al := Am (Kd.N_lower (Kd.N_mono (ok' := fun k_ => ((P0_1_ k_ ∨ P1_1_ k_) ∨ w.heap.size ≤ k_) ∧ some k_ ≠ (.slice Bl y671.length Bm : Value).ownBlock ∧ some k_ ≠ (.slice Bz t679.length B0 : Value).ownBlock ∧ k_ ≠ Ad ∧ k_ ≠ Ae ∧ k_ ≠ Ag) (Kd.S_N (Kd.S_bound ho0)) (fun k_ hk_ => ⟨(.inr (Nat.le_trans (below_size (pE3 HB.out Aj.out Ak.out Ao.out)) hk_.2.1)), (Kd.fresh' (Kd.N_lt (pN Af.out)) k_ hk_.2.1), (Kd.fresh' (Kd.R_lt (pR An.out)) k_ hk_.2.1), (kF Aa.out k_ hk_.2.1), (kF Ac.out k_ hk_.2.1), (kF Ah.out k_ hk_.2.1)⟩)) (below_size (pE3 HB.out Aj.out Ak.out Ao.out))); replace Af := Am (Kd.N_elder' (pN Af.out) (Kd.N_base (Kd.S_N ho0)) hb); replace An := bRa An hb; replace Aa := kBa Aa hb; replace Ac := kBa Ac hb; replace Ah := kBa Ah hb; replace HB := zX3 HB Aj.out Ak.out Ao.out hb; (try clear hb); (try clear ho0)) | ((with_reducible refine zD 7 rfl ?_); (try (refine gate_guard (by rfl) ?_; dsimp only)); refine zE 7 #[.int .i64 0, .slice none 0 0, .int .i64 0, .int .i64 0, .int .i64 0, .int .i64 0] 30 ?_; intro Ab hg w55 hbox hb; replace HO0_1 := Am (Kd.V_below (Kd.V_elderB (pV HO0_1.out) Ab (Nat.le_of_eq hg.symm)) hb); replace HO1_1 := Am (Kd.V_below (Kd.V_elderB (pV HO1_1.out) Ab (Nat.le_of_eq hg.symm)) hb); replace Af := Am (Kd.N_below (Kd.N_elderB (pN Af.out) Ab (Nat.le_of_eq hg.symm)) hb); replace An := bRa An hb; replace Al := Am (Kd.N_below (Kd.N_elderB (pN Al.out) Ab (Nat.le_of_eq hg.symm)) hb); have Ai := Am (hbox); have Cc := zY3 hg HB Aj.out Ak.out Ao.out; replace HB := zX3 HB Aj.out Ak.out Ao.out hb; have Ar := Cc; have Bi := Am (zN hg (kL Aa.out)); have Bp := Am (zM hg (kL Aa.out)); replace Aa := kBa Aa hb; have Bj := Am (zN hg (kL Ac.out)); have Bq := Am (zM hg (kL Ac.out)); replace Ac := kBa Ac hb; have Bk := Am (zN hg (kL Ah.out)); have Br := Am (zM hg (kL Ah.out)); replace Ah := kBa Ah hb; clear hb hbox hg; have hnb56 := Bp.out; have hnc56 := Bi.out; have hnb57 := Bq.out; have hnc57 := Bj.out; have hnb58 := Br.out; have hnc58 := Bk.out; obtain ⟨_, _, _, _, _, _⟩ := bc6 Ai.out; obtain ⟨_, _, _, _, _, _⟩ := bf6 Ai.out; obtain ⟨Bg, Bh, E1⟩ := Kd.N_slice Al.out; subst E1))
 have n0_ : Aside0 (Kd.V k52 52 ((((((w55.setCell ⟨Ab, 0, none⟩ (.int .i64 t694)).setCell ⟨Ab, 1, none⟩ (.slice Bg t695.length Bh)).setCell ⟨Ab, 2, none⟩ (.int .i64 t698)).setCell ⟨Ab, 3, none⟩ (.int .i64 t699)).setCell ⟨Ab, 4, none⟩ (.int .i64 t700)).setCell ⟨Ab, 5, none⟩ (.int .i64 t701)) w.heap.size (fun k_ => ((P0_1_ k_ ∨ P1_1_ k_) ∨ w.heap.size ≤ k_) ∧ some k_ ≠ (.slice Bl y671.length Bm : Value).ownBlock ∧ some k_ ≠ (.slice Bz t679.length B0 : Value).ownBlock ∧ some k_ ≠ (.slice Bg t695.length Bh : Value).ownBlock ∧ k_ ≠ Ad ∧ k_ ≠ Ae ∧ k_ ≠ Ag ∧ k_ ≠ Ab) (.slice A0_1 l0_1.length c0_1) l0_1) := ⟨by (with_reducible repeat (first | apply Kd.V_alloc | apply Kd.V_drewN | apply Kd.V_drew)); exact Kd.V_mono (Vf6 (g := Ab) (Kd.V_mono HO0_1.out (fun k_ hk => (⟨hk, hk.2⟩ : _ ∧ k_ ≠ Ab))) (fun _ hk => hk.2)) (fun _ hk => ⟨hk.1.1.1.1.1.1, ⟨hk.1.1.1.1.1.2.1, ⟨hk.1.1.1.1.2, ⟨hk.1.1.2, ⟨hk.1.1.1.1.1.2.2.1, ⟨hk.1.1.1.1.1.2.2.2, ⟨hk.1.1.1.2, hk.1.2⟩⟩⟩⟩⟩⟩⟩)⟩
 have n1_ : Aside0 (Kd.V k52 52 ((((((w55.setCell ⟨Ab, 0, none⟩ (.int .i64 t694)).setCell ⟨Ab, 1, none⟩ (.slice Bg t695.length Bh)).setCell ⟨Ab, 2, none⟩ (.int .i64 t698)).setCell ⟨Ab, 3, none⟩ (.int .i64 t699)).setCell ⟨Ab, 4, none⟩ (.int .i64 t700)).setCell ⟨Ab, 5, none⟩ (.int .i64 t701)) w.heap.size (fun k_ => ((P0_1_ k_ ∨ P1_1_ k_) ∨ w.heap.size ≤ k_) ∧ some k_ ≠ (.slice Bl y671.length Bm : Value).ownBlock ∧ some k_ ≠ (.slice Bz t679.length B0 : Value).ownBlock ∧ some k_ ≠ (.slice Bg t695.length Bh : Value).ownBlock ∧ k_ ≠ Ad ∧ k_ ≠ Ae ∧ k_ ≠ Ag ∧ k_ ≠ Ab) (.slice A1_1 l1_1.length c1_1) l1_1) := ⟨by (with_reducible repeat (first | apply Kd.V_alloc | apply Kd.V_drewN | apply Kd.V_drew)); exact Kd.V_mono (Vf6 (g := Ab) (Kd.V_mono HO1_1.out (fun k_ hk => (⟨hk, hk.2⟩ : _ ∧ k_ ≠ Ab))) (fun _ hk => hk.2)) (fun _ hk => ⟨hk.1.1.1.1.1.1, ⟨hk.1.1.1.1.1.2.1, ⟨hk.1.1.1.1.2, ⟨hk.1.1.2, ⟨hk.1.1.1.1.1.2.2.1, ⟨hk.1.1.1.1.1.2.2.2, ⟨hk.1.1.1.2, hk.1.2⟩⟩⟩⟩⟩⟩⟩)⟩
 have n2_ : Aside0 (Kd.N k30 30 ((((((w55.setCell ⟨Ab, 0, none⟩ (.int .i64 t694)).setCell ⟨Ab, 1, none⟩ (.slice Bg t695.length Bh)).setCell ⟨Ab, 2, none⟩ (.int .i64 t698)).setCell ⟨Ab, 3, none⟩ (.int .i64 t699)).setCell ⟨Ab, 4, none⟩ (.int .i64 t700)).setCell ⟨Ab, 5, none⟩ (.int .i64 t701)) w.heap.size (fun k_ => ((P0_1_ k_ ∨ P1_1_ k_) ∨ w.heap.size ≤ k_) ∧ some k_ ≠ (.slice Bz t679.length B0 : Value).ownBlock ∧ some k_ ≠ (.slice Bg t695.length Bh : Value).ownBlock ∧ k_ ≠ Ad ∧ k_ ≠ Ae ∧ k_ ≠ Ag ∧ k_ ≠ Ab) (.slice Bl y671.length Bm) y671) := ⟨by (with_reducible repeat (first | apply Kd.N_alloc | apply Kd.N_drewN | apply Kd.N_drew)); exact Kd.N_mono (Nf6 (g := Ab) (Kd.N_mono Af.out (fun k_ hk => (⟨hk, hk.2⟩ : _ ∧ k_ ≠ Ab))) (fun _ hk => hk.2)) (fun _ hk => ⟨hk.1.1.1.1.1.1, ⟨hk.1.1.1.1.2, ⟨hk.1.1.2, ⟨hk.1.1.1.1.1.2.1, ⟨hk.1.1.1.1.1.2.2, ⟨hk.1.1.1.2, hk.1.2⟩⟩⟩⟩⟩⟩)⟩
 have n3_ : Aside0 (Kd.R (Kd.int .u8) 5 ((((((w55.setCell ⟨Ab, 0, none⟩ (.int .i64 t694)).setCell ⟨Ab, 1, none⟩ (.slice Bg t695.length Bh)).setCell ⟨Ab, 2, none⟩ (.int .i64 t698)).setCell ⟨Ab, 3, none⟩ (.int .i64 t699)).setCell ⟨Ab, 4, none⟩ (.int .i64 t700)).setCell ⟨Ab, 5, none⟩ (.int .i64 t701)) w.heap.size (fun k_ => (w.heap.size ≤ k_)) (.slice Bz t679.length B0) t679) := ⟨by (with_reducible repeat (first | apply Kd.R_alloc | apply Kd.R_drewN | apply Kd.R_drew)); exact Kd.R_mono (Rf6 (g := Ab) (Kd.R_types An.out Ai.out (by decide)) (fun _ hk => hk.2)) (fun _ hk => hk.1.1)⟩
 have n4_ : Aside0 (Kd.N k52 52 ((((((w55.setCell ⟨Ab, 0, none⟩ (.int .i64 t694)).setCell ⟨Ab, 1, none⟩ (.slice Bg t695.length Bh)).setCell ⟨Ab, 2, none⟩ (.int .i64 t698)).setCell ⟨Ab, 3, none⟩ (.int .i64 t699)).setCell ⟨Ab, 4, none⟩ (.int .i64 t700)).setCell ⟨Ab, 5, none⟩ (.int .i64 t701)) w.heap.size (fun k_ => ((P0_1_ k_ ∨ P1_1_ k_) ∨ w.heap.size ≤ k_) ∧ some k_ ≠ (.slice Bl y671.length Bm : Value).ownBlock ∧ some k_ ≠ (.slice Bz t679.length B0 : Value).ownBlock ∧ k_ ≠ Ad ∧ k_ ≠ Ae ∧ k_ ≠ Ag ∧ k_ ≠ Ab) (.slice Bg t695.length Bh) t695) := ⟨by (with_reducible repeat (first | apply Kd.N_alloc | apply Kd.N_drewN | apply Kd.N_drew)); exact Kd.N_mono (Nf6 (g := Ab) (Kd.N_mono Al.out (fun k_ hk => (⟨hk, hk.2⟩ : _ ∧ k_ ≠ Ab))) (fun _ hk => hk.2)) (fun _ hk => ⟨hk.1.1.1, ⟨hk.1.1.2.1, ⟨hk.1.1.2.2.1, ⟨hk.1.1.2.2.2.1, ⟨hk.1.1.2.2.2.2.1, ⟨hk.1.1.2.2.2.2.2, hk.1.2⟩⟩⟩⟩⟩⟩)⟩
 have n5_ : Aside0 (((((((w55.setCell ⟨Ab, 0, none⟩ (.int .i64 t694)).setCell ⟨Ab, 1, none⟩ (.slice Bg t695.length Bh)).setCell ⟨Ab, 2, none⟩ (.int .i64 t698)).setCell ⟨Ab, 3, none⟩ (.int .i64 t699)).setCell ⟨Ab, 4, none⟩ (.int .i64 t700)).setCell ⟨Ab, 5, none⟩ (.int .i64 t701)).heap[Ad]? = some (.cells #[.int .i64 a0_0, .slice A0_1 l0_1.length c0_1, .int .i64 a0_2, .int .i64 a0_3, .int .i64 a0_4, .int .i64 a0_5] 30 (0, 0))) := ⟨kX1 Aa.out Bi.out⟩
 have n6_ : Aside0 (((((((w55.setCell ⟨Ab, 0, none⟩ (.int .i64 t694)).setCell ⟨Ab, 1, none⟩ (.slice Bg t695.length Bh)).setCell ⟨Ab, 2, none⟩ (.int .i64 t698)).setCell ⟨Ab, 3, none⟩ (.int .i64 t699)).setCell ⟨Ab, 4, none⟩ (.int .i64 t700)).setCell ⟨Ab, 5, none⟩ (.int .i64 t701)).heap[Ae]? = some (.cells #[.int .i64 a1_0, .slice A1_1 l1_1.length c1_1, .int .i64 a1_2, .int .i64 a1_3, .int .i64 a1_4, .int .i64 a1_5] 30 (0, 0))) := ⟨kX1 Ac.out Bj.out⟩
 have n7_ : Aside0 (((((((w55.setCell ⟨Ab, 0, none⟩ (.int .i64 t694)).setCell ⟨Ab, 1, none⟩ (.slice Bg t695.length Bh)).setCell ⟨Ab, 2, none⟩ (.int .i64 t698)).setCell ⟨Ab, 3, none⟩ (.int .i64 t699)).setCell ⟨Ab, 4, none⟩ (.int .i64 t700)).setCell ⟨Ab, 5, none⟩ (.int .i64 t701)).heap[Ag]? = some (.cells #[.int .i64 t678, .slice Bz t679.length B0] 24 (0, 0))) := ⟨kX1 Ah.out Bk.out⟩
 have n8_ : Aside0 (((((((w55.setCell ⟨Ab, 0, none⟩ (.int .i64 t694)).setCell ⟨Ab, 1, none⟩ (.slice Bg t695.length Bh)).setCell ⟨Ab, 2, none⟩ (.int .i64 t698)).setCell ⟨Ab, 3, none⟩ (.int .i64 t699)).setCell ⟨Ab, 4, none⟩ (.int .i64 t700)).setCell ⟨Ab, 5, none⟩ (.int .i64 t701)).heap[Ab]? = some (.cells #[.int .i64 t694, .slice Bg t695.length Bh, .int .i64 t698, .int .i64 t699, .int .i64 t700, .int .i64 t701] 30 (0, 0))) := ⟨kX0 Ai.out⟩
 have n9_ : Aside0 (Below w.heap.size w ((((((w55.setCell ⟨Ab, 0, none⟩ (.int .i64 t694)).setCell ⟨Ab, 1, none⟩ (.slice Bg t695.length Bh)).setCell ⟨Ab, 2, none⟩ (.int .i64 t698)).setCell ⟨Ab, 3, none⟩ (.int .i64 t699)).setCell ⟨Ab, 4, none⟩ (.int .i64 t700)).setCell ⟨Ab, 5, none⟩ (.int .i64 t701))) := ⟨pE4 HB.out Aj.out Ak.out Ao.out Ar.out⟩
 (try clear HO0_1)
 (try clear HO1_1)
 (try clear Af)
 (try clear An)
 (try clear Al)
 (try clear Aa)
 (try clear Ac)
 (try clear Ah)
 (try clear Ai)
 (try clear HB)
 generalize ((((((w55.setCell ⟨Ab, 0, none⟩ (.int .i64 t694)).setCell ⟨Ab, 1, none⟩ (.slice Bg t695.length Bh)).setCell ⟨Ab, 2, none⟩ (.int .i64 t698)).setCell ⟨Ab, 3, none⟩ (.int .i64 t699)).setCell ⟨Ab, 4, none⟩ (.int .i64 t700)).setCell ⟨Ab, 5, none⟩ (.int .i64 t701)) = w61 at n0_ n1_ n2_ n3_ n4_ n5_ n6_ n7_ n8_ n9_ ⊢
 have HO0_1 := n0_
 have HO1_1 := n1_
 have Af := n2_
 have An := n3_
 have Al := n4_
 have Aa := n5_
 have Ac := n6_
 have Ah := n7_
 have Ai := n8_
 have HB := n9_
 clear n0_ n1_ n2_ n3_ n4_ n5_ n6_ n7_ n8_ n9_
 replace HO0_1 := dVa HO0_1
 replace HO1_1 := dVa HO1_1
 replace Af := dNa Af
 replace An := dRa An
 replace Al := dNa Al
 replace Aa := kDa Aa
 replace Ac := kDa Ac
 replace Ah := kDa Ah
 replace Ai := kDa Ai
 replace HB := bDa HB
 refine start_ (n := 28) (S := fun w' => cG w' Ad 0 (.int .i64 a0_0) ∧ cG w' Ad 1 (.slice A0_1 l0_1.length c0_1) ∧ cG w' Ad 2 (.int .i64 a0_2) ∧ cG w' Ad 3 (.int .i64 a0_3) ∧ cG w' Ad 4 (.int .i64 a0_4) ∧ cG w' Ad 5 (.int .i64 a0_5) ∧ cG w' Ag 0 (.int .i64 t678) ∧ cG w' Ag 1 (.slice Bz t679.length B0) ∧ cG w' Ab 0 (.int .i64 t694) ∧ cG w' Ab 1 (.slice Bg t695.length Bh) ∧ cG w' Ab 2 (.int .i64 t698) ∧ cG w' Ab 3 (.int .i64 t699) ∧ cG w' Ab 4 (.int .i64 t700) ∧ cG w' Ab 5 (.int .i64 t701)) (ds := []) #[false, false, false, false, false, false, false, false, false, false, false, false, false, false, false, false, false, false, false, false, false, false, false, false, false, false, false, false] (by kernel_rfl) rfl rfl ⟨(blk_cell Aa.out 0).trans rfl, (blk_cell Aa.out 1).trans rfl, (blk_cell Aa.out 2).trans rfl, (blk_cell Aa.out 3).trans rfl, (blk_cell Aa.out 4).trans rfl, (blk_cell Aa.out 5).trans rfl, (blk_cell Ah.out 0).trans rfl, (blk_cell Ah.out 1).trans rfl, (blk_cell Ai.out 0).trans rfl, (blk_cell Ai.out 1).trans rfl, (blk_cell Ai.out 2).trans rfl, (blk_cell Ai.out 3).trans rfl, (blk_cell Ai.out 4).trans rfl, (blk_cell Ai.out 5).trans rfl⟩ (fun hHeld => ?_); refine with_tabW garnerlaw24_WalPuts.tab9 garnerlaw24_WalPuts.bits9 (fun HT_ HW_ => ?_)
 generalize w61.drew = w62 at HO0_1 HO1_1 Af An Al Aa Ac Ah Ai HB hHeld ⊢
 refine tki 0 52 28 1 HT_ HW_ hHeld ?_
 refine onei 1 53 28 3 HT_ (fun K hK => ?_)
 refine goes_ Try.func13 (by kernel_rfl) rfl #[.agg #[.int .i64 a0_0, .slice A0_1 l0_1.length c0_1, .int .i64 a0_2, .int .i64 a0_3, .int .i64 a0_4, .int .i64 a0_5]] (by rfl) rfl rfl pL ?_
 with_reducible refine (wal_Check.calls k a0_0 _ _ l0_1 a0_2 a0_3 a0_4 a0_5 t704 _ ?Ap ?Aq A23.out).mono ?_
 (case Ap => exact pC (Kd.V_reads' HO0_1.out).2.2)
 (case Aq => exact (Kd.V_reads' HO0_1.out).2.1)
 rintro e w63 ⟨rfl, hb⟩
 refine ⟨_, rfl, ?_⟩
 replace HO0_1 := bVa HO0_1 hb
 replace HO1_1 := bVa HO1_1 hb
 replace Af := bNa Af hb
 replace An := bRa An hb
 replace Al := bNa Al hb
 replace Aa := kBa Aa hb
 replace Ac := kBa Ac hb
 replace Ah := kBa Ah hb
 replace Ai := kBa Ai hb
 replace HB := Am (below_step (pE4 HB.out Aj.out Ak.out Ao.out Ar.out) hb)
 (try clear hb)
 (try clear hb2)
 (try clear hk)
 (try clear hi)
 refine hK.out _ _ ⟨(blk_cell Aa.out 0).trans rfl, (blk_cell Aa.out 1).trans rfl, (blk_cell Aa.out 2).trans rfl, (blk_cell Aa.out 3).trans rfl, (blk_cell Aa.out 4).trans rfl, (blk_cell Aa.out 5).trans rfl, (blk_cell Ah.out 0).trans rfl, (blk_cell Ah.out 1).trans rfl, (blk_cell Ai.out 0).trans rfl, (blk_cell Ai.out 1).trans rfl, (blk_cell Ai.out 2).trans rfl, (blk_cell Ai.out 3).trans rfl, (blk_cell Ai.out 4).trans rfl, (blk_cell Ai.out 5).trans rfl⟩ (fun hHeld => ?_)
 clear hK K
 refine norm_ (a' := ?_) ?_ ?_
 rotate_left
 ·show Act.put _ (some 53) _ = _
  simp only [Act.put, List.setIfInBounds_toArray, List.set_cons_zero, List.set_cons_succ, i64_w, i32_w]
  rfl
 refine pui 2 54 28 7 HT_ ?_
 refine zp 3 (h := zp 4 (h := zp 5 (h := zp 6 (h := zp 7 (h := zw 8 (h := zw 10 (h := ?_)))))))
 refine join_ (σ := Value × Value × Value) 15 #[true, true, true, true, true, true, true, true, true, true, true, true, true, false, false, false, false, false, false, false, false, false, false, false, false, false, false, false] (fun s_ => [(61, s_.1), (63, .agg #[.int .i64 t708, s_.2.1]), (64, s_.2.2)]) (fun s_ w' => (cG w' Ad 0 (.int .i64 a0_0) ∧ cG w' Ad 1 (.slice A0_1 l0_1.length c0_1) ∧ cG w' Ad 2 (.int .i64 a0_2) ∧ cG w' Ad 3 (.int .i64 a0_3) ∧ cG w' Ad 4 (.int .i64 a0_4) ∧ cG w' Ad 5 (.int .i64 a0_5) ∧ cG w' Ag 0 (.int .i64 t678) ∧ cG w' Ag 1 (.slice Bz t679.length B0) ∧ cG w' Ab 0 (.int .i64 t694) ∧ cG w' Ab 1 (.slice Bg t695.length Bh) ∧ cG w' Ab 2 (.int .i64 t698) ∧ cG w' Ab 3 (.int .i64 t699) ∧ cG w' Ab 4 (.int .i64 t700) ∧ cG w' Ab 5 (.int .i64 t701)) ∧ (Kd.V k52 52 w' w.heap.size (fun k_ => ((P0_1_ k_ ∨ P1_1_ k_) ∨ w.heap.size ≤ k_) ∧ some k_ ≠ (.slice Bl y671.length Bm : Value).ownBlock ∧ some k_ ≠ (.slice Bg t695.length Bh : Value).ownBlock ∧ some k_ ≠ (s_.1 : Value).ownBlock ∧ some k_ ≠ (s_.2.2 : Value).ownBlock ∧ k_ ≠ Ad ∧ k_ ≠ Ae ∧ k_ ≠ Ag ∧ k_ ≠ Ab) (.slice A0_1 l0_1.length c0_1) l0_1) ∧ (Kd.V k52 52 w' w.heap.size (fun k_ => ((P0_1_ k_ ∨ P1_1_ k_) ∨ w.heap.size ≤ k_) ∧ some k_ ≠ (.slice Bl y671.length Bm : Value).ownBlock ∧ some k_ ≠ (.slice Bg t695.length Bh : Value).ownBlock ∧ some k_ ≠ (s_.1 : Value).ownBlock ∧ some k_ ≠ (s_.2.2 : Value).ownBlock ∧ k_ ≠ Ad ∧ k_ ≠ Ae ∧ k_ ≠ Ag ∧ k_ ≠ Ab) (.slice A1_1 l1_1.length c1_1) l1_1) ∧ (Kd.N k30 30 w' w.heap.size (fun k_ => ((P0_1_ k_ ∨ P1_1_ k_) ∨ w.heap.size ≤ k_) ∧ some k_ ≠ (.slice Bg t695.length Bh : Value).ownBlock ∧ some k_ ≠ (s_.1 : Value).ownBlock ∧ some k_ ≠ (s_.2.2 : Value).ownBlock ∧ k_ ≠ Ad ∧ k_ ≠ Ae ∧ k_ ≠ Ag ∧ k_ ≠ Ab) (.slice Bl y671.length Bm) y671) ∧ (Kd.N k52 52 w' w.heap.size (fun k_ => ((P0_1_ k_ ∨ P1_1_ k_) ∨ w.heap.size ≤ k_) ∧ some k_ ≠ (.slice Bl y671.length Bm : Value).ownBlock ∧ some k_ ≠ (s_.1 : Value).ownBlock ∧ some k_ ≠ (s_.2.2 : Value).ownBlock ∧ k_ ≠ Ad ∧ k_ ≠ Ae ∧ k_ ≠ Ag ∧ k_ ≠ Ab) (.slice Bg t695.length Bh) t695) ∧ (Kd.N k24 24 w' w.heap.size (fun k_ => ((P0_1_ k_ ∨ P1_1_ k_) ∨ w.heap.size ≤ k_) ∧ some k_ ≠ (.slice Bl y671.length Bm : Value).ownBlock ∧ some k_ ≠ (.slice Bg t695.length Bh : Value).ownBlock ∧ some k_ ≠ (s_.2.2 : Value).ownBlock ∧ k_ ≠ Ad ∧ k_ ≠ Ae ∧ k_ ≠ Ag ∧ k_ ≠ Ab) s_.1 y705) ∧ (Kd.N k24 24 w' w.heap.size (fun k_ => ((P0_1_ k_ ∨ P1_1_ k_) ∨ w.heap.size ≤ k_) ∧ some k_ ≠ (.slice Bl y671.length Bm : Value).ownBlock ∧ some k_ ≠ (.slice Bg t695.length Bh : Value).ownBlock ∧ some k_ ≠ (s_.1 : Value).ownBlock ∧ k_ ≠ Ad ∧ k_ ≠ Ae ∧ k_ ≠ Ag ∧ k_ ≠ Ab) s_.2.2 y712) ∧ (w'.heap[Ad]? = some (.cells #[.int .i64 a0_0, .slice A0_1 l0_1.length c0_1, .int .i64 a0_2, .int .i64 a0_3, .int .i64 a0_4, .int .i64 a0_5] 30 (0, 0))) ∧ (w'.heap[Ae]? = some (.cells #[.int .i64 a1_0, .slice A1_1 l1_1.length c1_1, .int .i64 a1_2, .int .i64 a1_3, .int .i64 a1_4, .int .i64 a1_5] 30 (0, 0))) ∧ (w'.heap[Ag]? = some (.cells #[.int .i64 t678, .slice Bz t679.length B0] 24 (0, 0))) ∧ (w'.heap[Ab]? = some (.cells #[.int .i64 t694, .slice Bg t695.length Bh, .int .i64 t698, .int .i64 t699, .int .i64 t700, .int .i64 t701] 30 (0, 0))) ∧ (Below w.heap.size w w')) ?_ ?_
 rotate_left
 ·intro hCont
  refine two_ (i := 9) (j := 11) (Ni := some 61) (Nj := some 63) (bw 28 2047) #[true, true, true, true, true, true, true, true, true, false, true, true, false, false, false, false, false, false, false, false, false, false, false, false, false, false, false, false] rfl rfl rfl rfl (two_of HT_.out (by kernel_rfl)) (by decide) (by decide) (fun K hK => ?_) (fun K hK => ?_)
  ·skip
   refine Kd.N_lit_step k24 _ 24 ?hg (N' := 61) ?hd (xs := ([(⟨t678, t679⟩ : S24)] : List (S24))) (inner := [.int .i64 t678, .slice Bz t679.length B0]) (ok := (fun k_ => ((P0_1_ k_ ∨ P1_1_ k_) ∨ w.heap.size ≤ k_) ∧ some k_ ≠ (.slice Bl y671.length Bm : Value).ownBlock ∧ some k_ ≠ (.slice Bg t695.length Bh : Value).ownBlock ∧ k_ ≠ Ad ∧ k_ ≠ Ae ∧ k_ ≠ Ag ∧ k_ ≠ Ab)) (okp := (fun k_ => ((P0_1_ k_ ∨ P1_1_ k_) ∨ w.heap.size ≤ k_) ∧ some k_ ≠ (.slice Bl y671.length Bm : Value).ownBlock ∧ some k_ ≠ (.slice Bg t695.length Bh : Value).ownBlock ∧ k_ ≠ Ad ∧ k_ ≠ Ae ∧ k_ ≠ Ag ∧ k_ ≠ Ab)) ?hr ?hp (fun _ hk => hk) ((show ∀ k_, w63.heap.size ≤ k_ → (fun k_ => ((P0_1_ k_ ∨ P1_1_ k_) ∨ w.heap.size ≤ k_) ∧ some k_ ≠ (.slice Bl y671.length Bm : Value).ownBlock ∧ some k_ ≠ (.slice Bg t695.length Bh : Value).ownBlock ∧ k_ ≠ Ad ∧ k_ ≠ Ae ∧ k_ ≠ Ag ∧ k_ ≠ Ab) k_ from fun k_ hk => ⟨(.inr (Nat.le_trans (below_size (pE4 HB.out Aj.out Ak.out Ao.out Ar.out)) hk)), Kd.fresh' (Kd.N_lt (pN Af.out)) k_ hk, Kd.fresh' (Kd.N_lt (pN Al.out)) k_ hk, kF Aa.out k_ hk, kF Ac.out k_ hk, kF Ah.out k_ hk, kF Ai.out k_ hk⟩) _ (Nat.le_refl _)) (Below.refl _ _) (Nat.le_refl _) (by simp) ?_; (case hd => rfl); (case hg => rfl); (case hr => first | (go_simp; done) | (go_simp; rfl)); (case hp => exact (Reps.c2 (show Kd.FK k24 _ _ (⟨t678, t679⟩ : S24) [.int .i64 t678, .slice Bz t679.length B0] from (k24_mkF _ _ (⟨t678, t679⟩ : S24) (Kd.R_reads' (Kd.R_mono (ok' := (fun k_ => ((P0_1_ k_ ∨ P1_1_ k_) ∨ w.heap.size ≤ k_) ∧ some k_ ≠ (.slice Bl y671.length Bm : Value).ownBlock ∧ some k_ ≠ (.slice Bg t695.length Bh : Value).ownBlock ∧ k_ ≠ Ad ∧ k_ ≠ Ae ∧ k_ ≠ Ag ∧ k_ ≠ Ab)) (Kd.R_types (Kd.R_types (Kd.R_types (Kd.R_types (Kd.R_apart' (Kd.R_apart' (An.out) (Kd.N_typed Af.out) (by decide)) (Kd.N_typed Al.out) (by decide)) Aa.out (by decide)) Ac.out (by decide)) Ah.out (by decide)) Ai.out (by decide)) (fun k_ hk => ⟨(.inr (hk.1.1.1.1.1.1)), ⟨hk.1.1.1.1.1.2, ⟨hk.1.1.1.1.2, ⟨hk.1.1.1.2, ⟨hk.1.1.2, ⟨hk.1.2, hk.2⟩⟩⟩⟩⟩⟩))).2.1 (Kd.R_F (Kd.R_mono (ok' := (fun k_ => ((P0_1_ k_ ∨ P1_1_ k_) ∨ w.heap.size ≤ k_) ∧ some k_ ≠ (.slice Bl y671.length Bm : Value).ownBlock ∧ some k_ ≠ (.slice Bg t695.length Bh : Value).ownBlock ∧ k_ ≠ Ad ∧ k_ ≠ Ae ∧ k_ ≠ Ag ∧ k_ ≠ Ab)) (Kd.R_types (Kd.R_types (Kd.R_types (Kd.R_types (Kd.R_apart' (Kd.R_apart' (An.out) (Kd.N_typed Af.out) (by decide)) (Kd.N_typed Al.out) (by decide)) Aa.out (by decide)) Ac.out (by decide)) Ah.out (by decide)) Ai.out (by decide)) (fun k_ hk => ⟨(.inr (hk.1.1.1.1.1.1)), ⟨hk.1.1.1.1.1.2, ⟨hk.1.1.1.1.2, ⟨hk.1.1.1.2, ⟨hk.1.1.2, ⟨hk.1.2, hk.2⟩⟩⟩⟩⟩⟩))))) (Reps.none _ _)))
   intro v706 w64 ho65 hb hg_ hnew_
   clear hg_ hnew_
   (first | rw [← Ny705.out] at ho65 | (simp only [Int.reduceToNat] at ho65; rw [← Ny705.out] at ho65))
   replace HO0_1 := Am (Kd.V_elder' (pV HO0_1.out) (Kd.N_base ho65) hb)
   replace HO1_1 := Am (Kd.V_elder' (pV HO1_1.out) (Kd.N_base ho65) hb)
   replace Af := Am (Kd.N_elder' (pN Af.out) (Kd.N_base ho65) hb)
   replace Al := Am (Kd.N_elder' (pN Al.out) (Kd.N_base ho65) hb)
   have As := Am (Kd.N_lower ho65 (below_size (pE4 HB.out Aj.out Ak.out Ao.out Ar.out)))
   replace Aa := kBa Aa hb
   replace Ac := kBa Ac hb
   replace Ah := kBa Ah hb
   replace Ai := kBa Ai hb
   replace HB := Am (below_step (pE4 HB.out Aj.out Ak.out Ao.out Ar.out) hb)
   clear An
   clear hb ho65
   refine hK.out _ _ ⟨(blk_cell Aa.out 0).trans rfl, (blk_cell Aa.out 1).trans rfl, (blk_cell Aa.out 2).trans rfl, (blk_cell Aa.out 3).trans rfl, (blk_cell Aa.out 4).trans rfl, (blk_cell Aa.out 5).trans rfl, (blk_cell Ah.out 0).trans rfl, (blk_cell Ah.out 1).trans rfl, (blk_cell Ai.out 0).trans rfl, (blk_cell Ai.out 1).trans rfl, (blk_cell Ai.out 2).trans rfl, (blk_cell Ai.out 3).trans rfl, (blk_cell Ai.out 4).trans rfl, (blk_cell Ai.out 5).trans rfl⟩ (fun hHeld => ?_)
   clear hK K
   refine norm_ (a' := ?_) ?_ ?_
   rotate_left
   ·show Act.put _ (some 61) _ = _
    simp only [Act.put, List.setIfInBounds_toArray, List.set_cons_zero, List.set_cons_succ, i64_w, i32_w]
    rfl
   refine onei 11 63 28 4095 HT_ (fun K hK => ?_)
   refine goes_ Try.func15 (by kernel_rfl) rfl #[.agg #[.int .i64 a0_0, .slice A0_1 l0_1.length c0_1, .int .i64 a0_2, .int .i64 a0_3, .int .i64 a0_4, .int .i64 a0_5]] (by rfl) rfl rfl pL ?_
   with_reducible refine (garnerref24_Put.calls k a0_0 _ _ l0_1 a0_2 a0_3 a0_4 a0_5 t708 t709 _ ?Ap ?Aq A26.out).mono ?_
   (case Ap => exact pC (Kd.V_reads' HO0_1.out).2.2)
   (case Aq => exact (Kd.V_reads' HO0_1.out).2.1)
   rintro e w66 ⟨v710, rfl, ho0, hb⟩
   refine ⟨_, rfl, ?_⟩
   replace HO0_1 := Am (Kd.V_elder' (pV HO0_1.out) (Kd.R_base ho0) hb)
   replace HO1_1 := Am (Kd.V_elder' (pV HO1_1.out) (Kd.R_base ho0) hb)
   replace Af := Am (Kd.N_elder' (pN Af.out) (Kd.R_base ho0) hb)
   replace Al := Am (Kd.N_elder' (pN Al.out) (Kd.R_base ho0) hb)
   replace As := Am (Kd.N_elder' (pN As.out) (Kd.R_base ho0) hb)
   have Ay := Am (Kd.R_lower (Kd.R_newM (M := fun k_ => (w.heap.size ≤ k_)) ho0 (below_size (pE4 HB.out Aj.out Ak.out Ao.out Ar.out)) (fun k_ h_ => h_)) (below_size (pE4 HB.out Aj.out Ak.out Ao.out Ar.out)))
   replace Aa := kBa Aa hb
   replace Ac := kBa Ac hb
   replace Ah := kBa Ah hb
   replace Ai := kBa Ai hb
   replace HB := Am (below_step (pE4 HB.out Aj.out Ak.out Ao.out Ar.out) hb)
   (try clear hb)
   (try clear hb2)
   (try clear hk)
   (try clear hi)
   (try clear ho0)
   obtain ⟨Cz, C0, C1⟩ := Kd.R_slice Ay.out
   (first | subst C1 | (injection C1 with f1_ f2_ f3_; have f4_ := f1_.symm; have f5_ := f3_.symm; clear f1_ f2_ f3_; subst f4_; subst f5_))
   refine hK.out _ _ ⟨(blk_cell Aa.out 0).trans rfl, (blk_cell Aa.out 1).trans rfl, (blk_cell Aa.out 2).trans rfl, (blk_cell Aa.out 3).trans rfl, (blk_cell Aa.out 4).trans rfl, (blk_cell Aa.out 5).trans rfl, (blk_cell Ah.out 0).trans rfl, (blk_cell Ah.out 1).trans rfl, (blk_cell Ai.out 0).trans rfl, (blk_cell Ai.out 1).trans rfl, (blk_cell Ai.out 2).trans rfl, (blk_cell Ai.out 3).trans rfl, (blk_cell Ai.out 4).trans rfl, (blk_cell Ai.out 5).trans rfl⟩ (fun hHeld => ?_)
   clear hK K
   refine norm_ (a' := ?_) ?_ ?_
   rotate_left
   ·show Act.put _ (some 63) _ = _
    simp only [Act.put, List.setIfInBounds_toArray, List.set_cons_zero, List.set_cons_succ, i64_w, i32_w]
    rfl
   refine onei 12 64 28 8191 HT_ (fun K hK => ?_)
   refine Kd.N_lit_step k24 _ 24 ?hg (N' := 64) ?hd (xs := ([(⟨t708, t709⟩ : S24)] : List (S24))) (inner := [.int .i64 t708, .slice Cz t709.length C0]) (ok := (fun k_ => ((P0_1_ k_ ∨ P1_1_ k_) ∨ w.heap.size ≤ k_) ∧ some k_ ≠ (.slice Bl y671.length Bm : Value).ownBlock ∧ some k_ ≠ (.slice Bg t695.length Bh : Value).ownBlock ∧ some k_ ≠ (v706 : Value).ownBlock ∧ k_ ≠ Ad ∧ k_ ≠ Ae ∧ k_ ≠ Ag ∧ k_ ≠ Ab)) (okp := (fun k_ => ((P0_1_ k_ ∨ P1_1_ k_) ∨ w.heap.size ≤ k_) ∧ some k_ ≠ (.slice Bl y671.length Bm : Value).ownBlock ∧ some k_ ≠ (.slice Bg t695.length Bh : Value).ownBlock ∧ some k_ ≠ (v706 : Value).ownBlock ∧ k_ ≠ Ad ∧ k_ ≠ Ae ∧ k_ ≠ Ag ∧ k_ ≠ Ab)) ?hr ?hp (fun _ hk => hk) ((show ∀ k_, w66.heap.size ≤ k_ → (fun k_ => ((P0_1_ k_ ∨ P1_1_ k_) ∨ w.heap.size ≤ k_) ∧ some k_ ≠ (.slice Bl y671.length Bm : Value).ownBlock ∧ some k_ ≠ (.slice Bg t695.length Bh : Value).ownBlock ∧ some k_ ≠ (v706 : Value).ownBlock ∧ k_ ≠ Ad ∧ k_ ≠ Ae ∧ k_ ≠ Ag ∧ k_ ≠ Ab) k_ from fun k_ hk => ⟨(.inr (Nat.le_trans (below_size (pE4 HB.out Aj.out Ak.out Ao.out Ar.out)) hk)), Kd.fresh' (Kd.N_lt (pN Af.out)) k_ hk, Kd.fresh' (Kd.N_lt (pN Al.out)) k_ hk, Kd.fresh' (Kd.N_lt (pN As.out)) k_ hk, kF Aa.out k_ hk, kF Ac.out k_ hk, kF Ah.out k_ hk, kF Ai.out k_ hk⟩) _ (Nat.le_refl _)) (Below.refl _ _) (Nat.le_refl _) (by simp) ?_; (case hd => rfl); (case hg => rfl); (case hr => first | (go_simp; done) | (go_simp; rfl)); (case hp => exact (Reps.c2 (show Kd.FK k24 _ _ (⟨t708, t709⟩ : S24) [.int .i64 t708, .slice Cz t709.length C0] from (k24_mkF _ _ (⟨t708, t709⟩ : S24) (Kd.R_reads' (Kd.R_mono (ok' := (fun k_ => ((P0_1_ k_ ∨ P1_1_ k_) ∨ w.heap.size ≤ k_) ∧ some k_ ≠ (.slice Bl y671.length Bm : Value).ownBlock ∧ some k_ ≠ (.slice Bg t695.length Bh : Value).ownBlock ∧ some k_ ≠ (v706 : Value).ownBlock ∧ k_ ≠ Ad ∧ k_ ≠ Ae ∧ k_ ≠ Ag ∧ k_ ≠ Ab)) (Kd.R_types (Kd.R_types (Kd.R_types (Kd.R_types (Kd.R_apart' (Kd.R_apart' (Kd.R_apart' (Ay.out) (Kd.N_typed Af.out) (by decide)) (Kd.N_typed Al.out) (by decide)) (Kd.N_typed As.out) (by decide)) Aa.out (by decide)) Ac.out (by decide)) Ah.out (by decide)) Ai.out (by decide)) (fun k_ hk => ⟨(.inr (hk.1.1.1.1.1.1.1.1)), ⟨hk.1.1.1.1.1.1.2, ⟨hk.1.1.1.1.1.2, ⟨hk.1.1.1.1.2, ⟨hk.1.1.1.2, ⟨hk.1.1.2, ⟨hk.1.2, hk.2⟩⟩⟩⟩⟩⟩⟩))).2.1 (Kd.R_F (Kd.R_mono (ok' := (fun k_ => ((P0_1_ k_ ∨ P1_1_ k_) ∨ w.heap.size ≤ k_) ∧ some k_ ≠ (.slice Bl y671.length Bm : Value).ownBlock ∧ some k_ ≠ (.slice Bg t695.length Bh : Value).ownBlock ∧ some k_ ≠ (v706 : Value).ownBlock ∧ k_ ≠ Ad ∧ k_ ≠ Ae ∧ k_ ≠ Ag ∧ k_ ≠ Ab)) (Kd.R_types (Kd.R_types (Kd.R_types (Kd.R_types (Kd.R_apart' (Kd.R_apart' (Kd.R_apart' (Ay.out) (Kd.N_typed Af.out) (by decide)) (Kd.N_typed Al.out) (by decide)) (Kd.N_typed As.out) (by decide)) Aa.out (by decide)) Ac.out (by decide)) Ah.out (by decide)) Ai.out (by decide)) (fun k_ hk => ⟨(.inr (hk.1.1.1.1.1.1.1.1)), ⟨hk.1.1.1.1.1.1.2, ⟨hk.1.1.1.1.1.2, ⟨hk.1.1.1.1.2, ⟨hk.1.1.1.2, ⟨hk.1.1.2, ⟨hk.1.2, hk.2⟩⟩⟩⟩⟩⟩⟩))))) (Reps.none _ _)))
   intro v713 w68 ho69 hb hg_ hnew_
   clear hg_ hnew_
   (first | rw [← Ny712.out] at ho69 | (simp only [Int.reduceToNat] at ho69; rw [← Ny712.out] at ho69))
   replace HO0_1 := Am (Kd.V_elder' (pV HO0_1.out) (Kd.N_base ho69) hb)
   replace HO1_1 := Am (Kd.V_elder' (pV HO1_1.out) (Kd.N_base ho69) hb)
   replace Af := Am (Kd.N_elder' (pN Af.out) (Kd.N_base ho69) hb)
   replace Al := Am (Kd.N_elder' (pN Al.out) (Kd.N_base ho69) hb)
   replace As := Am (Kd.N_elder' (pN As.out) (Kd.N_base ho69) hb)
   have Av := Am (Kd.N_lower ho69 (below_size (pE4 HB.out Aj.out Ak.out Ao.out Ar.out)))
   replace Aa := kBa Aa hb
   replace Ac := kBa Ac hb
   replace Ah := kBa Ah hb
   replace Ai := kBa Ai hb
   replace HB := Am (below_step (pE4 HB.out Aj.out Ak.out Ao.out Ar.out) hb)
   clear Ay
   clear hb ho69
   refine hK.out _ _ ⟨(blk_cell Aa.out 0).trans rfl, (blk_cell Aa.out 1).trans rfl, (blk_cell Aa.out 2).trans rfl, (blk_cell Aa.out 3).trans rfl, (blk_cell Aa.out 4).trans rfl, (blk_cell Aa.out 5).trans rfl, (blk_cell Ah.out 0).trans rfl, (blk_cell Ah.out 1).trans rfl, (blk_cell Ai.out 0).trans rfl, (blk_cell Ai.out 1).trans rfl, (blk_cell Ai.out 2).trans rfl, (blk_cell Ai.out 3).trans rfl, (blk_cell Ai.out 4).trans rfl, (blk_cell Ai.out 5).trans rfl⟩ (fun hHeld => ?_)
   clear hK K
   refine norm_ (a' := ?_) ?_ ?_
   rotate_left
   ·show Act.put _ (some 64) _ = _
    simp only [Act.put, List.setIfInBounds_toArray, List.set_cons_zero, List.set_cons_succ, i64_w, i32_w]
    rfl
   exact norm_ (by simp only [putAll, Act.put, List.setIfInBounds_toArray, List.set_cons_zero, List.set_cons_succ]) (hCont (v706, .slice Cz t709.length C0, v713) _ ⟨hHeld, (by (with_reducible repeat (first | apply Kd.V_alloc | apply Kd.V_drewN | apply Kd.V_drew)); exact Kd.V_mono HO0_1.out (fun _ hk => ⟨hk.1.1.1.1, ⟨hk.1.1.1.2.1, ⟨hk.1.1.1.2.2.2.1, ⟨hk.1.1.2, ⟨hk.2, ⟨hk.1.1.1.2.2.2.2.1, ⟨hk.1.1.1.2.2.2.2.2.1, ⟨hk.1.1.1.2.2.2.2.2.2.1, hk.1.1.1.2.2.2.2.2.2.2⟩⟩⟩⟩⟩⟩⟩⟩)), (by (with_reducible repeat (first | apply Kd.V_alloc | apply Kd.V_drewN | apply Kd.V_drew)); exact Kd.V_mono HO1_1.out (fun _ hk => ⟨hk.1.1.1.1, ⟨hk.1.1.1.2.1, ⟨hk.1.1.1.2.2.2.1, ⟨hk.1.1.2, ⟨hk.2, ⟨hk.1.1.1.2.2.2.2.1, ⟨hk.1.1.1.2.2.2.2.2.1, ⟨hk.1.1.1.2.2.2.2.2.2.1, hk.1.1.1.2.2.2.2.2.2.2⟩⟩⟩⟩⟩⟩⟩⟩)), (by (with_reducible repeat (first | apply Kd.N_alloc | apply Kd.N_drewN | apply Kd.N_drew)); exact Kd.N_mono Af.out (fun _ hk => ⟨hk.1.1.1.1, ⟨hk.1.1.1.2.2.1, ⟨hk.1.1.2, ⟨hk.2, ⟨hk.1.1.1.2.2.2.1, ⟨hk.1.1.1.2.2.2.2.1, ⟨hk.1.1.1.2.2.2.2.2.1, hk.1.1.1.2.2.2.2.2.2⟩⟩⟩⟩⟩⟩⟩)), (by (with_reducible repeat (first | apply Kd.N_alloc | apply Kd.N_drewN | apply Kd.N_drew)); exact Kd.N_mono Al.out (fun _ hk => ⟨hk.1.1.1.1, ⟨hk.1.1.1.2.1, ⟨hk.1.1.2, ⟨hk.2, ⟨hk.1.1.1.2.2.2.1, ⟨hk.1.1.1.2.2.2.2.1, ⟨hk.1.1.1.2.2.2.2.2.1, hk.1.1.1.2.2.2.2.2.2⟩⟩⟩⟩⟩⟩⟩)), (by (with_reducible repeat (first | apply Kd.N_alloc | apply Kd.N_drewN | apply Kd.N_drew)); exact Kd.N_mono As.out (fun _ hk => ⟨hk.1.1.1, ⟨hk.1.1.2.1, ⟨hk.1.1.2.2.1, ⟨hk.2, ⟨hk.1.1.2.2.2.1, ⟨hk.1.1.2.2.2.2.1, ⟨hk.1.1.2.2.2.2.2.1, hk.1.1.2.2.2.2.2.2⟩⟩⟩⟩⟩⟩⟩)), (pN Av.out), (pK Aa.out), (pK Ac.out), (pK Ah.out), (pK Ai.out), (pE4 HB.out Aj.out Ak.out Ao.out Ar.out)⟩)
  skip
  refine goes_ Try.func15 (by kernel_rfl) rfl #[.agg #[.int .i64 a0_0, .slice A0_1 l0_1.length c0_1, .int .i64 a0_2, .int .i64 a0_3, .int .i64 a0_4, .int .i64 a0_5]] (by rfl) rfl rfl pL ?_
  with_reducible refine (garnerref24_Put.calls k a0_0 _ _ l0_1 a0_2 a0_3 a0_4 a0_5 t708 t709 _ ?Ap ?Aq A26.out).mono ?_
  (case Ap => exact pC (Kd.V_reads' HO0_1.out).2.2)
  (case Aq => exact (Kd.V_reads' HO0_1.out).2.1)
  rintro e w64 ⟨v710, rfl, ho0, hb⟩
  refine ⟨_, rfl, ?_⟩
  replace HO0_1 := Am (Kd.V_elder' (pV HO0_1.out) (Kd.R_base ho0) hb)
  replace HO1_1 := Am (Kd.V_elder' (pV HO1_1.out) (Kd.R_base ho0) hb)
  replace Af := Am (Kd.N_elder' (pN Af.out) (Kd.R_base ho0) hb)
  replace Al := Am (Kd.N_elder' (pN Al.out) (Kd.R_base ho0) hb)
  have Ay := Am (Kd.R_lower (Kd.R_new' (Kd.R_newM (M := fun k_ => (w.heap.size ≤ k_)) ho0 (below_size (pE4 HB.out Aj.out Ak.out Ao.out Ar.out)) (fun k_ h_ => h_)) (Kd.R_lt (pR An.out))) (below_size (pE4 HB.out Aj.out Ak.out Ao.out Ar.out)))
  replace An := Am (Kd.R_elder' (pR An.out) (Kd.R_base ho0) hb)
  replace Aa := kBa Aa hb
  replace Ac := kBa Ac hb
  replace Ah := kBa Ah hb
  replace Ai := kBa Ai hb
  replace HB := Am (below_step (pE4 HB.out Aj.out Ak.out Ao.out Ar.out) hb)
  (try clear hb)
  (try clear hb2)
  (try clear hk)
  (try clear hi)
  (try clear ho0)
  refine hK.out _ _ ⟨(blk_cell Aa.out 0).trans rfl, (blk_cell Aa.out 1).trans rfl, (blk_cell Aa.out 2).trans rfl, (blk_cell Aa.out 3).trans rfl, (blk_cell Aa.out 4).trans rfl, (blk_cell Aa.out 5).trans rfl, (blk_cell Ah.out 0).trans rfl, (blk_cell Ah.out 1).trans rfl, (blk_cell Ai.out 0).trans rfl, (blk_cell Ai.out 1).trans rfl, (blk_cell Ai.out 2).trans rfl, (blk_cell Ai.out 3).trans rfl, (blk_cell Ai.out 4).trans rfl, (blk_cell Ai.out 5).trans rfl⟩ (fun hHeld => ?_)
  clear hK K
  refine norm_ (a' := ?_) ?_ ?_
  rotate_left
  ·show Act.put _ (some 63) _ = _
   simp only [Act.put, List.setIfInBounds_toArray, List.set_cons_zero, List.set_cons_succ, i64_w, i32_w]
   rfl
  refine two_ (i := 9) (j := 12) (Ni := some 61) (Nj := some 64) (bw 28 4095) #[true, true, true, true, true, true, true, true, true, false, true, true, true, false, false, false, false, false, false, false, false, false, false, false, false, false, false, false] rfl rfl rfl rfl (two_of HT_.out (by kernel_rfl)) (by decide) (by decide) (fun K hK => ?_) (fun K hK => ?_)
  ·skip
   refine Kd.N_lit_step k24 _ 24 ?hg (N' := 61) ?hd (xs := ([(⟨t678, t679⟩ : S24)] : List (S24))) (inner := [.int .i64 t678, .slice Bz t679.length B0]) (ok := (fun k_ => ((P0_1_ k_ ∨ P1_1_ k_) ∨ w.heap.size ≤ k_) ∧ some k_ ≠ (.slice Bl y671.length Bm : Value).ownBlock ∧ some k_ ≠ (.slice Bg t695.length Bh : Value).ownBlock ∧ some k_ ≠ (v710 : Value).ownBlock ∧ k_ ≠ Ad ∧ k_ ≠ Ae ∧ k_ ≠ Ag ∧ k_ ≠ Ab)) (okp := (fun k_ => ((P0_1_ k_ ∨ P1_1_ k_) ∨ w.heap.size ≤ k_) ∧ some k_ ≠ (.slice Bl y671.length Bm : Value).ownBlock ∧ some k_ ≠ (.slice Bg t695.length Bh : Value).ownBlock ∧ some k_ ≠ (v710 : Value).ownBlock ∧ k_ ≠ Ad ∧ k_ ≠ Ae ∧ k_ ≠ Ag ∧ k_ ≠ Ab)) ?hr ?hp (fun _ hk => hk) ((show ∀ k_, w64.heap.size ≤ k_ → (fun k_ => ((P0_1_ k_ ∨ P1_1_ k_) ∨ w.heap.size ≤ k_) ∧ some k_ ≠ (.slice Bl y671.length Bm : Value).ownBlock ∧ some k_ ≠ (.slice Bg t695.length Bh : Value).ownBlock ∧ some k_ ≠ (v710 : Value).ownBlock ∧ k_ ≠ Ad ∧ k_ ≠ Ae ∧ k_ ≠ Ag ∧ k_ ≠ Ab) k_ from fun k_ hk => ⟨(.inr (Nat.le_trans (below_size (pE4 HB.out Aj.out Ak.out Ao.out Ar.out)) hk)), Kd.fresh' (Kd.N_lt (pN Af.out)) k_ hk, Kd.fresh' (Kd.N_lt (pN Al.out)) k_ hk, Kd.fresh' (Kd.R_lt (pR Ay.out)) k_ hk, kF Aa.out k_ hk, kF Ac.out k_ hk, kF Ah.out k_ hk, kF Ai.out k_ hk⟩) _ (Nat.le_refl _)) (Below.refl _ _) (Nat.le_refl _) (by simp) ?_; (case hd => rfl); (case hg => rfl); (case hr => first | (go_simp; done) | (go_simp; rfl)); (case hp => exact (Reps.c2 (show Kd.FK k24 _ _ (⟨t678, t679⟩ : S24) [.int .i64 t678, .slice Bz t679.length B0] from (k24_mkF _ _ (⟨t678, t679⟩ : S24) (Kd.R_reads' (Kd.R_mono (ok' := (fun k_ => ((P0_1_ k_ ∨ P1_1_ k_) ∨ w.heap.size ≤ k_) ∧ some k_ ≠ (.slice Bl y671.length Bm : Value).ownBlock ∧ some k_ ≠ (.slice Bg t695.length Bh : Value).ownBlock ∧ some k_ ≠ (v710 : Value).ownBlock ∧ k_ ≠ Ad ∧ k_ ≠ Ae ∧ k_ ≠ Ag ∧ k_ ≠ Ab)) (Kd.R_types (Kd.R_types (Kd.R_types (Kd.R_types (Kd.R_apart' (Kd.R_apart' (An.out) (Kd.N_typed Af.out) (by decide)) (Kd.N_typed Al.out) (by decide)) Aa.out (by decide)) Ac.out (by decide)) Ah.out (by decide)) Ai.out (by decide)) (fun k_ hk => ⟨(.inr (hk.1.1.1.1.1.1.1)), ⟨hk.1.1.1.1.1.2, ⟨hk.1.1.1.1.2, ⟨hk.1.1.1.1.1.1.2, ⟨hk.1.1.1.2, ⟨hk.1.1.2, ⟨hk.1.2, hk.2⟩⟩⟩⟩⟩⟩⟩))).2.1 (Kd.R_F (Kd.R_mono (ok' := (fun k_ => ((P0_1_ k_ ∨ P1_1_ k_) ∨ w.heap.size ≤ k_) ∧ some k_ ≠ (.slice Bl y671.length Bm : Value).ownBlock ∧ some k_ ≠ (.slice Bg t695.length Bh : Value).ownBlock ∧ some k_ ≠ (v710 : Value).ownBlock ∧ k_ ≠ Ad ∧ k_ ≠ Ae ∧ k_ ≠ Ag ∧ k_ ≠ Ab)) (Kd.R_types (Kd.R_types (Kd.R_types (Kd.R_types (Kd.R_apart' (Kd.R_apart' (An.out) (Kd.N_typed Af.out) (by decide)) (Kd.N_typed Al.out) (by decide)) Aa.out (by decide)) Ac.out (by decide)) Ah.out (by decide)) Ai.out (by decide)) (fun k_ hk => ⟨(.inr (hk.1.1.1.1.1.1.1)), ⟨hk.1.1.1.1.1.2, ⟨hk.1.1.1.1.2, ⟨hk.1.1.1.1.1.1.2, ⟨hk.1.1.1.2, ⟨hk.1.1.2, ⟨hk.1.2, hk.2⟩⟩⟩⟩⟩⟩⟩))))) (Reps.none _ _)))
   intro v706 w65 ho66 hb hg_ hnew_
   clear hg_ hnew_
   (first | rw [← Ny705.out] at ho66 | (simp only [Int.reduceToNat] at ho66; rw [← Ny705.out] at ho66))
   replace HO0_1 := Am (Kd.V_elder' (pV HO0_1.out) (Kd.N_base ho66) hb)
   replace HO1_1 := Am (Kd.V_elder' (pV HO1_1.out) (Kd.N_base ho66) hb)
   replace Af := Am (Kd.N_elder' (pN Af.out) (Kd.N_base ho66) hb)
   replace Al := Am (Kd.N_elder' (pN Al.out) (Kd.N_base ho66) hb)
   replace Ay := bRa Ay hb
   have As := Am (Kd.N_lower ho66 (below_size (pE4 HB.out Aj.out Ak.out Ao.out Ar.out)))
   replace Aa := kBa Aa hb
   replace Ac := kBa Ac hb
   replace Ah := kBa Ah hb
   replace Ai := kBa Ai hb
   replace HB := Am (below_step (pE4 HB.out Aj.out Ak.out Ao.out Ar.out) hb)
   clear An
   clear hb ho66
   obtain ⟨Cz, C0, C1⟩ := Kd.R_slice Ay.out
   (first | subst C1 | (injection C1 with f1_ f2_ f3_; have f4_ := f1_.symm; have f5_ := f3_.symm; clear f1_ f2_ f3_; subst f4_; subst f5_))
   refine hK.out _ _ ⟨(blk_cell Aa.out 0).trans rfl, (blk_cell Aa.out 1).trans rfl, (blk_cell Aa.out 2).trans rfl, (blk_cell Aa.out 3).trans rfl, (blk_cell Aa.out 4).trans rfl, (blk_cell Aa.out 5).trans rfl, (blk_cell Ah.out 0).trans rfl, (blk_cell Ah.out 1).trans rfl, (blk_cell Ai.out 0).trans rfl, (blk_cell Ai.out 1).trans rfl, (blk_cell Ai.out 2).trans rfl, (blk_cell Ai.out 3).trans rfl, (blk_cell Ai.out 4).trans rfl, (blk_cell Ai.out 5).trans rfl⟩ (fun hHeld => ?_)
   clear hK K
   refine norm_ (a' := ?_) ?_ ?_
   rotate_left
   ·show Act.put _ (some 61) _ = _
    simp only [Act.put, List.setIfInBounds_toArray, List.set_cons_zero, List.set_cons_succ, i64_w, i32_w]
    rfl
   refine onei 12 64 28 8191 HT_ (fun K hK => ?_)
   refine Kd.N_lit_step k24 _ 24 ?hg (N' := 64) ?hd (xs := ([(⟨t708, t709⟩ : S24)] : List (S24))) (inner := [.int .i64 t708, .slice Cz t709.length C0]) (ok := (fun k_ => ((P0_1_ k_ ∨ P1_1_ k_) ∨ w.heap.size ≤ k_) ∧ some k_ ≠ (.slice Bl y671.length Bm : Value).ownBlock ∧ some k_ ≠ (.slice Bg t695.length Bh : Value).ownBlock ∧ some k_ ≠ (v706 : Value).ownBlock ∧ k_ ≠ Ad ∧ k_ ≠ Ae ∧ k_ ≠ Ag ∧ k_ ≠ Ab)) (okp := (fun k_ => ((P0_1_ k_ ∨ P1_1_ k_) ∨ w.heap.size ≤ k_) ∧ some k_ ≠ (.slice Bl y671.length Bm : Value).ownBlock ∧ some k_ ≠ (.slice Bg t695.length Bh : Value).ownBlock ∧ some k_ ≠ (v706 : Value).ownBlock ∧ k_ ≠ Ad ∧ k_ ≠ Ae ∧ k_ ≠ Ag ∧ k_ ≠ Ab)) ?hr ?hp (fun _ hk => hk) ((show ∀ k_, w65.heap.size ≤ k_ → (fun k_ => ((P0_1_ k_ ∨ P1_1_ k_) ∨ w.heap.size ≤ k_) ∧ some k_ ≠ (.slice Bl y671.length Bm : Value).ownBlock ∧ some k_ ≠ (.slice Bg t695.length Bh : Value).ownBlock ∧ some k_ ≠ (v706 : Value).ownBlock ∧ k_ ≠ Ad ∧ k_ ≠ Ae ∧ k_ ≠ Ag ∧ k_ ≠ Ab) k_ from fun k_ hk => ⟨(.inr (Nat.le_trans (below_size (pE4 HB.out Aj.out Ak.out Ao.out Ar.out)) hk)), Kd.fresh' (Kd.N_lt (pN Af.out)) k_ hk, Kd.fresh' (Kd.N_lt (pN Al.out)) k_ hk, Kd.fresh' (Kd.N_lt (pN As.out)) k_ hk, kF Aa.out k_ hk, kF Ac.out k_ hk, kF Ah.out k_ hk, kF Ai.out k_ hk⟩) _ (Nat.le_refl _)) (Below.refl _ _) (Nat.le_refl _) (by simp) ?_; (case hd => rfl); (case hg => rfl); (case hr => first | (go_simp; done) | (go_simp; rfl)); (case hp => exact (Reps.c2 (show Kd.FK k24 _ _ (⟨t708, t709⟩ : S24) [.int .i64 t708, .slice Cz t709.length C0] from (k24_mkF _ _ (⟨t708, t709⟩ : S24) (Kd.R_reads' (Kd.R_mono (ok' := (fun k_ => ((P0_1_ k_ ∨ P1_1_ k_) ∨ w.heap.size ≤ k_) ∧ some k_ ≠ (.slice Bl y671.length Bm : Value).ownBlock ∧ some k_ ≠ (.slice Bg t695.length Bh : Value).ownBlock ∧ some k_ ≠ (v706 : Value).ownBlock ∧ k_ ≠ Ad ∧ k_ ≠ Ae ∧ k_ ≠ Ag ∧ k_ ≠ Ab)) (Kd.R_types (Kd.R_types (Kd.R_types (Kd.R_types (Kd.R_apart' (Kd.R_apart' (Kd.R_apart' (Ay.out) (Kd.N_typed Af.out) (by decide)) (Kd.N_typed Al.out) (by decide)) (Kd.N_typed As.out) (by decide)) Aa.out (by decide)) Ac.out (by decide)) Ah.out (by decide)) Ai.out (by decide)) (fun k_ hk => ⟨(.inr (hk.1.1.1.1.1.1.1.1.1)), ⟨hk.1.1.1.1.1.1.2, ⟨hk.1.1.1.1.1.2, ⟨hk.1.1.1.1.2, ⟨hk.1.1.1.2, ⟨hk.1.1.2, ⟨hk.1.2, hk.2⟩⟩⟩⟩⟩⟩⟩))).2.1 (Kd.R_F (Kd.R_mono (ok' := (fun k_ => ((P0_1_ k_ ∨ P1_1_ k_) ∨ w.heap.size ≤ k_) ∧ some k_ ≠ (.slice Bl y671.length Bm : Value).ownBlock ∧ some k_ ≠ (.slice Bg t695.length Bh : Value).ownBlock ∧ some k_ ≠ (v706 : Value).ownBlock ∧ k_ ≠ Ad ∧ k_ ≠ Ae ∧ k_ ≠ Ag ∧ k_ ≠ Ab)) (Kd.R_types (Kd.R_types (Kd.R_types (Kd.R_types (Kd.R_apart' (Kd.R_apart' (Kd.R_apart' (Ay.out) (Kd.N_typed Af.out) (by decide)) (Kd.N_typed Al.out) (by decide)) (Kd.N_typed As.out) (by decide)) Aa.out (by decide)) Ac.out (by decide)) Ah.out (by decide)) Ai.out (by decide)) (fun k_ hk => ⟨(.inr (hk.1.1.1.1.1.1.1.1.1)), ⟨hk.1.1.1.1.1.1.2, ⟨hk.1.1.1.1.1.2, ⟨hk.1.1.1.1.2, ⟨hk.1.1.1.2, ⟨hk.1.1.2, ⟨hk.1.2, hk.2⟩⟩⟩⟩⟩⟩⟩))))) (Reps.none _ _)))
   intro v713 w68 ho69 hb hg_ hnew_
   clear hg_ hnew_
   (first | rw [← Ny712.out] at ho69 | (simp only [Int.reduceToNat] at ho69; rw [← Ny712.out] at ho69))
   replace HO0_1 := Am (Kd.V_elder' (pV HO0_1.out) (Kd.N_base ho69) hb)
   replace HO1_1 := Am (Kd.V_elder' (pV HO1_1.out) (Kd.N_base ho69) hb)
   replace Af := Am (Kd.N_elder' (pN Af.out) (Kd.N_base ho69) hb)
   replace Al := Am (Kd.N_elder' (pN Al.out) (Kd.N_base ho69) hb)
   replace As := Am (Kd.N_elder' (pN As.out) (Kd.N_base ho69) hb)
   have Av := Am (Kd.N_lower ho69 (below_size (pE4 HB.out Aj.out Ak.out Ao.out Ar.out)))
   replace Aa := kBa Aa hb
   replace Ac := kBa Ac hb
   replace Ah := kBa Ah hb
   replace Ai := kBa Ai hb
   replace HB := Am (below_step (pE4 HB.out Aj.out Ak.out Ao.out Ar.out) hb)
   clear Ay
   clear hb ho69
   refine hK.out _ _ ⟨(blk_cell Aa.out 0).trans rfl, (blk_cell Aa.out 1).trans rfl, (blk_cell Aa.out 2).trans rfl, (blk_cell Aa.out 3).trans rfl, (blk_cell Aa.out 4).trans rfl, (blk_cell Aa.out 5).trans rfl, (blk_cell Ah.out 0).trans rfl, (blk_cell Ah.out 1).trans rfl, (blk_cell Ai.out 0).trans rfl, (blk_cell Ai.out 1).trans rfl, (blk_cell Ai.out 2).trans rfl, (blk_cell Ai.out 3).trans rfl, (blk_cell Ai.out 4).trans rfl, (blk_cell Ai.out 5).trans rfl⟩ (fun hHeld => ?_)
   clear hK K
   refine norm_ (a' := ?_) ?_ ?_
   rotate_left
   ·show Act.put _ (some 64) _ = _
    simp only [Act.put, List.setIfInBounds_toArray, List.set_cons_zero, List.set_cons_succ, i64_w, i32_w]
    rfl
   exact norm_ (by simp only [putAll, Act.put, List.setIfInBounds_toArray, List.set_cons_zero, List.set_cons_succ]) (hCont (v706, .slice Cz t709.length C0, v713) _ ⟨hHeld, (by (with_reducible repeat (first | apply Kd.V_alloc | apply Kd.V_drewN | apply Kd.V_drew)); exact Kd.V_mono HO0_1.out (fun _ hk => ⟨hk.1.1.1.1, ⟨hk.1.1.1.2.1, ⟨hk.1.1.1.2.2.2.1, ⟨hk.1.2, ⟨hk.2, ⟨hk.1.1.1.2.2.2.2.1, ⟨hk.1.1.1.2.2.2.2.2.1, ⟨hk.1.1.1.2.2.2.2.2.2.1, hk.1.1.1.2.2.2.2.2.2.2⟩⟩⟩⟩⟩⟩⟩⟩)), (by (with_reducible repeat (first | apply Kd.V_alloc | apply Kd.V_drewN | apply Kd.V_drew)); exact Kd.V_mono HO1_1.out (fun _ hk => ⟨hk.1.1.1.1, ⟨hk.1.1.1.2.1, ⟨hk.1.1.1.2.2.2.1, ⟨hk.1.2, ⟨hk.2, ⟨hk.1.1.1.2.2.2.2.1, ⟨hk.1.1.1.2.2.2.2.2.1, ⟨hk.1.1.1.2.2.2.2.2.2.1, hk.1.1.1.2.2.2.2.2.2.2⟩⟩⟩⟩⟩⟩⟩⟩)), (by (with_reducible repeat (first | apply Kd.N_alloc | apply Kd.N_drewN | apply Kd.N_drew)); exact Kd.N_mono Af.out (fun _ hk => ⟨hk.1.1.1.1, ⟨hk.1.1.1.2.2.1, ⟨hk.1.2, ⟨hk.2, ⟨hk.1.1.1.2.2.2.1, ⟨hk.1.1.1.2.2.2.2.1, ⟨hk.1.1.1.2.2.2.2.2.1, hk.1.1.1.2.2.2.2.2.2⟩⟩⟩⟩⟩⟩⟩)), (by (with_reducible repeat (first | apply Kd.N_alloc | apply Kd.N_drewN | apply Kd.N_drew)); exact Kd.N_mono Al.out (fun _ hk => ⟨hk.1.1.1.1, ⟨hk.1.1.1.2.1, ⟨hk.1.2, ⟨hk.2, ⟨hk.1.1.1.2.2.2.1, ⟨hk.1.1.1.2.2.2.2.1, ⟨hk.1.1.1.2.2.2.2.2.1, hk.1.1.1.2.2.2.2.2.2⟩⟩⟩⟩⟩⟩⟩)), (by (with_reducible repeat (first | apply Kd.N_alloc | apply Kd.N_drewN | apply Kd.N_drew)); exact Kd.N_mono As.out (fun _ hk => ⟨hk.1.1, ⟨hk.1.2.1, ⟨hk.1.2.2.1, ⟨hk.2, ⟨hk.1.2.2.2.2.1, ⟨hk.1.2.2.2.2.2.1, ⟨hk.1.2.2.2.2.2.2.1, hk.1.2.2.2.2.2.2.2⟩⟩⟩⟩⟩⟩⟩)), (pN Av.out), (pK Aa.out), (pK Ac.out), (pK Ah.out), (pK Ai.out), (pE4 HB.out Aj.out Ak.out Ao.out Ar.out)⟩)
  skip
  obtain ⟨Dk, Dl, C1⟩ := Kd.R_slice Ay.out
  (first | subst C1 | (injection C1 with f1_ f2_ f3_; have f4_ := f1_.symm; have f5_ := f3_.symm; clear f1_ f2_ f3_; subst f4_; subst f5_))
  refine Kd.N_lit_step k24 _ 24 ?hg (N' := 64) ?hd (xs := ([(⟨t708, t709⟩ : S24)] : List (S24))) (inner := [.int .i64 t708, .slice Dk t709.length Dl]) (ok := (fun k_ => ((P0_1_ k_ ∨ P1_1_ k_) ∨ w.heap.size ≤ k_) ∧ some k_ ≠ (.slice Bl y671.length Bm : Value).ownBlock ∧ some k_ ≠ (.slice Bz t679.length B0 : Value).ownBlock ∧ some k_ ≠ (.slice Bg t695.length Bh : Value).ownBlock ∧ k_ ≠ Ad ∧ k_ ≠ Ae ∧ k_ ≠ Ag ∧ k_ ≠ Ab)) (okp := (fun k_ => ((P0_1_ k_ ∨ P1_1_ k_) ∨ w.heap.size ≤ k_) ∧ some k_ ≠ (.slice Bl y671.length Bm : Value).ownBlock ∧ some k_ ≠ (.slice Bz t679.length B0 : Value).ownBlock ∧ some k_ ≠ (.slice Bg t695.length Bh : Value).ownBlock ∧ k_ ≠ Ad ∧ k_ ≠ Ae ∧ k_ ≠ Ag ∧ k_ ≠ Ab)) ?hr ?hp (fun _ hk => hk) ((show ∀ k_, w64.heap.size ≤ k_ → (fun k_ => ((P0_1_ k_ ∨ P1_1_ k_) ∨ w.heap.size ≤ k_) ∧ some k_ ≠ (.slice Bl y671.length Bm : Value).ownBlock ∧ some k_ ≠ (.slice Bz t679.length B0 : Value).ownBlock ∧ some k_ ≠ (.slice Bg t695.length Bh : Value).ownBlock ∧ k_ ≠ Ad ∧ k_ ≠ Ae ∧ k_ ≠ Ag ∧ k_ ≠ Ab) k_ from fun k_ hk => ⟨(.inr (Nat.le_trans (below_size (pE4 HB.out Aj.out Ak.out Ao.out Ar.out)) hk)), Kd.fresh' (Kd.N_lt (pN Af.out)) k_ hk, Kd.fresh' (Kd.R_lt (pR An.out)) k_ hk, Kd.fresh' (Kd.N_lt (pN Al.out)) k_ hk, kF Aa.out k_ hk, kF Ac.out k_ hk, kF Ah.out k_ hk, kF Ai.out k_ hk⟩) _ (Nat.le_refl _)) (Below.refl _ _) (Nat.le_refl _) (by simp) ?_; (case hd => rfl); (case hg => rfl); (case hr => first | (go_simp; done) | (go_simp; rfl)); (case hp => exact (Reps.c2 (show Kd.FK k24 _ _ (⟨t708, t709⟩ : S24) [.int .i64 t708, .slice Dk t709.length Dl] from (k24_mkF _ _ (⟨t708, t709⟩ : S24) (Kd.R_reads' (Kd.R_mono (ok' := (fun k_ => ((P0_1_ k_ ∨ P1_1_ k_) ∨ w.heap.size ≤ k_) ∧ some k_ ≠ (.slice Bl y671.length Bm : Value).ownBlock ∧ some k_ ≠ (.slice Bz t679.length B0 : Value).ownBlock ∧ some k_ ≠ (.slice Bg t695.length Bh : Value).ownBlock ∧ k_ ≠ Ad ∧ k_ ≠ Ae ∧ k_ ≠ Ag ∧ k_ ≠ Ab)) (Kd.R_types (Kd.R_types (Kd.R_types (Kd.R_types (Kd.R_apart' (Kd.R_apart' (Ay.out) (Kd.N_typed Af.out) (by decide)) (Kd.N_typed Al.out) (by decide)) Aa.out (by decide)) Ac.out (by decide)) Ah.out (by decide)) Ai.out (by decide)) (fun k_ hk => ⟨(.inr (hk.1.1.1.1.1.1.1.1)), ⟨hk.1.1.1.1.1.2, ⟨hk.1.1.1.1.1.1.2, ⟨hk.1.1.1.1.2, ⟨hk.1.1.1.2, ⟨hk.1.1.2, ⟨hk.1.2, hk.2⟩⟩⟩⟩⟩⟩⟩))).2.1 (Kd.R_F (Kd.R_mono (ok' := (fun k_ => ((P0_1_ k_ ∨ P1_1_ k_) ∨ w.heap.size ≤ k_) ∧ some k_ ≠ (.slice Bl y671.length Bm : Value).ownBlock ∧ some k_ ≠ (.slice Bz t679.length B0 : Value).ownBlock ∧ some k_ ≠ (.slice Bg t695.length Bh : Value).ownBlock ∧ k_ ≠ Ad ∧ k_ ≠ Ae ∧ k_ ≠ Ag ∧ k_ ≠ Ab)) (Kd.R_types (Kd.R_types (Kd.R_types (Kd.R_types (Kd.R_apart' (Kd.R_apart' (Ay.out) (Kd.N_typed Af.out) (by decide)) (Kd.N_typed Al.out) (by decide)) Aa.out (by decide)) Ac.out (by decide)) Ah.out (by decide)) Ai.out (by decide)) (fun k_ hk => ⟨(.inr (hk.1.1.1.1.1.1.1.1)), ⟨hk.1.1.1.1.1.2, ⟨hk.1.1.1.1.1.1.2, ⟨hk.1.1.1.1.2, ⟨hk.1.1.1.2, ⟨hk.1.1.2, ⟨hk.1.2, hk.2⟩⟩⟩⟩⟩⟩⟩))))) (Reps.none _ _)))
  intro v713 w66 ho67 hb hg_ hnew_
  clear hg_ hnew_
  (first | rw [← Ny712.out] at ho67 | (simp only [Int.reduceToNat] at ho67; rw [← Ny712.out] at ho67))
  replace HO0_1 := Am (Kd.V_elder' (pV HO0_1.out) (Kd.N_base ho67) hb)
  replace HO1_1 := Am (Kd.V_elder' (pV HO1_1.out) (Kd.N_base ho67) hb)
  replace Af := Am (Kd.N_elder' (pN Af.out) (Kd.N_base ho67) hb)
  replace An := bRa An hb
  replace Al := Am (Kd.N_elder' (pN Al.out) (Kd.N_base ho67) hb)
  have Av := Am (Kd.N_lower ho67 (below_size (pE4 HB.out Aj.out Ak.out Ao.out Ar.out)))
  replace Aa := kBa Aa hb
  replace Ac := kBa Ac hb
  replace Ah := kBa Ah hb
  replace Ai := kBa Ai hb
  replace HB := Am (below_step (pE4 HB.out Aj.out Ak.out Ao.out Ar.out) hb)
  clear Ay
  clear hb ho67
  refine hK.out _ _ ⟨(blk_cell Aa.out 0).trans rfl, (blk_cell Aa.out 1).trans rfl, (blk_cell Aa.out 2).trans rfl, (blk_cell Aa.out 3).trans rfl, (blk_cell Aa.out 4).trans rfl, (blk_cell Aa.out 5).trans rfl, (blk_cell Ah.out 0).trans rfl, (blk_cell Ah.out 1).trans rfl, (blk_cell Ai.out 0).trans rfl, (blk_cell Ai.out 1).trans rfl, (blk_cell Ai.out 2).trans rfl, (blk_cell Ai.out 3).trans rfl, (blk_cell Ai.out 4).trans rfl, (blk_cell Ai.out 5).trans rfl⟩ (fun hHeld => ?_)
  clear hK K
  refine norm_ (a' := ?_) ?_ ?_
  rotate_left
  ·show Act.put _ (some 64) _ = _
   simp only [Act.put, List.setIfInBounds_toArray, List.set_cons_zero, List.set_cons_succ, i64_w, i32_w]
   rfl
  refine onei 9 61 28 8191 HT_ (fun K hK => ?_)
  refine Kd.N_lit_step k24 _ 24 ?hg (N' := 61) ?hd (xs := ([(⟨t678, t679⟩ : S24)] : List (S24))) (inner := [.int .i64 t678, .slice Bz t679.length B0]) (ok := (fun k_ => ((P0_1_ k_ ∨ P1_1_ k_) ∨ w.heap.size ≤ k_) ∧ some k_ ≠ (.slice Bl y671.length Bm : Value).ownBlock ∧ some k_ ≠ (.slice Bg t695.length Bh : Value).ownBlock ∧ some k_ ≠ (v713 : Value).ownBlock ∧ k_ ≠ Ad ∧ k_ ≠ Ae ∧ k_ ≠ Ag ∧ k_ ≠ Ab)) (okp := (fun k_ => ((P0_1_ k_ ∨ P1_1_ k_) ∨ w.heap.size ≤ k_) ∧ some k_ ≠ (.slice Bl y671.length Bm : Value).ownBlock ∧ some k_ ≠ (.slice Bg t695.length Bh : Value).ownBlock ∧ some k_ ≠ (v713 : Value).ownBlock ∧ k_ ≠ Ad ∧ k_ ≠ Ae ∧ k_ ≠ Ag ∧ k_ ≠ Ab)) ?hr ?hp (fun _ hk => hk) ((show ∀ k_, w66.heap.size ≤ k_ → (fun k_ => ((P0_1_ k_ ∨ P1_1_ k_) ∨ w.heap.size ≤ k_) ∧ some k_ ≠ (.slice Bl y671.length Bm : Value).ownBlock ∧ some k_ ≠ (.slice Bg t695.length Bh : Value).ownBlock ∧ some k_ ≠ (v713 : Value).ownBlock ∧ k_ ≠ Ad ∧ k_ ≠ Ae ∧ k_ ≠ Ag ∧ k_ ≠ Ab) k_ from fun k_ hk => ⟨(.inr (Nat.le_trans (below_size (pE4 HB.out Aj.out Ak.out Ao.out Ar.out)) hk)), Kd.fresh' (Kd.N_lt (pN Af.out)) k_ hk, Kd.fresh' (Kd.N_lt (pN Al.out)) k_ hk, Kd.fresh' (Kd.N_lt (pN Av.out)) k_ hk, kF Aa.out k_ hk, kF Ac.out k_ hk, kF Ah.out k_ hk, kF Ai.out k_ hk⟩) _ (Nat.le_refl _)) (Below.refl _ _) (Nat.le_refl _) (by simp) ?_; (case hd => rfl); (case hg => rfl); (case hr => first | (go_simp; done) | (go_simp; rfl)); (case hp => exact (Reps.c2 (show Kd.FK k24 _ _ (⟨t678, t679⟩ : S24) [.int .i64 t678, .slice Bz t679.length B0] from (k24_mkF _ _ (⟨t678, t679⟩ : S24) (Kd.R_reads' (Kd.R_mono (ok' := (fun k_ => ((P0_1_ k_ ∨ P1_1_ k_) ∨ w.heap.size ≤ k_) ∧ some k_ ≠ (.slice Bl y671.length Bm : Value).ownBlock ∧ some k_ ≠ (.slice Bg t695.length Bh : Value).ownBlock ∧ some k_ ≠ (v713 : Value).ownBlock ∧ k_ ≠ Ad ∧ k_ ≠ Ae ∧ k_ ≠ Ag ∧ k_ ≠ Ab)) (Kd.R_types (Kd.R_types (Kd.R_types (Kd.R_types (Kd.R_apart' (Kd.R_apart' (Kd.R_apart' (An.out) (Kd.N_typed Af.out) (by decide)) (Kd.N_typed Al.out) (by decide)) (Kd.N_typed Av.out) (by decide)) Aa.out (by decide)) Ac.out (by decide)) Ah.out (by decide)) Ai.out (by decide)) (fun k_ hk => ⟨(.inr (hk.1.1.1.1.1.1.1.1)), ⟨hk.1.1.1.1.1.1.2, ⟨hk.1.1.1.1.1.2, ⟨hk.1.1.1.1.2, ⟨hk.1.1.1.2, ⟨hk.1.1.2, ⟨hk.1.2, hk.2⟩⟩⟩⟩⟩⟩⟩))).2.1 (Kd.R_F (Kd.R_mono (ok' := (fun k_ => ((P0_1_ k_ ∨ P1_1_ k_) ∨ w.heap.size ≤ k_) ∧ some k_ ≠ (.slice Bl y671.length Bm : Value).ownBlock ∧ some k_ ≠ (.slice Bg t695.length Bh : Value).ownBlock ∧ some k_ ≠ (v713 : Value).ownBlock ∧ k_ ≠ Ad ∧ k_ ≠ Ae ∧ k_ ≠ Ag ∧ k_ ≠ Ab)) (Kd.R_types (Kd.R_types (Kd.R_types (Kd.R_types (Kd.R_apart' (Kd.R_apart' (Kd.R_apart' (An.out) (Kd.N_typed Af.out) (by decide)) (Kd.N_typed Al.out) (by decide)) (Kd.N_typed Av.out) (by decide)) Aa.out (by decide)) Ac.out (by decide)) Ah.out (by decide)) Ai.out (by decide)) (fun k_ hk => ⟨(.inr (hk.1.1.1.1.1.1.1.1)), ⟨hk.1.1.1.1.1.1.2, ⟨hk.1.1.1.1.1.2, ⟨hk.1.1.1.1.2, ⟨hk.1.1.1.2, ⟨hk.1.1.2, ⟨hk.1.2, hk.2⟩⟩⟩⟩⟩⟩⟩))))) (Reps.none _ _)))
  intro v706 w68 ho69 hb hg_ hnew_
  clear hg_ hnew_
  (first | rw [← Ny705.out] at ho69 | (simp only [Int.reduceToNat] at ho69; rw [← Ny705.out] at ho69))
  replace HO0_1 := Am (Kd.V_elder' (pV HO0_1.out) (Kd.N_base ho69) hb)
  replace HO1_1 := Am (Kd.V_elder' (pV HO1_1.out) (Kd.N_base ho69) hb)
  replace Af := Am (Kd.N_elder' (pN Af.out) (Kd.N_base ho69) hb)
  replace Al := Am (Kd.N_elder' (pN Al.out) (Kd.N_base ho69) hb)
  replace Av := Am (Kd.N_elder' (pN Av.out) (Kd.N_base ho69) hb)
  have As := Am (Kd.N_lower ho69 (below_size (pE4 HB.out Aj.out Ak.out Ao.out Ar.out)))
  replace Aa := kBa Aa hb
  replace Ac := kBa Ac hb
  replace Ah := kBa Ah hb
  replace Ai := kBa Ai hb
  replace HB := Am (below_step (pE4 HB.out Aj.out Ak.out Ao.out Ar.out) hb)
  clear An
  clear hb ho69
  refine hK.out _ _ ⟨(blk_cell Aa.out 0).trans rfl, (blk_cell Aa.out 1).trans rfl, (blk_cell Aa.out 2).trans rfl, (blk_cell Aa.out 3).trans rfl, (blk_cell Aa.out 4).trans rfl, (blk_cell Aa.out 5).trans rfl, (blk_cell Ah.out 0).trans rfl, (blk_cell Ah.out 1).trans rfl, (blk_cell Ai.out 0).trans rfl, (blk_cell Ai.out 1).trans rfl, (blk_cell Ai.out 2).trans rfl, (blk_cell Ai.out 3).trans rfl, (blk_cell Ai.out 4).trans rfl, (blk_cell Ai.out 5).trans rfl⟩ (fun hHeld => ?_)
  clear hK K
  refine norm_ (a' := ?_) ?_ ?_
  rotate_left
  ·show Act.put _ (some 61) _ = _
   simp only [Act.put, List.setIfInBounds_toArray, List.set_cons_zero, List.set_cons_succ, i64_w, i32_w]
   rfl
  exact norm_ (by simp only [putAll, Act.put, List.setIfInBounds_toArray, List.set_cons_zero, List.set_cons_succ]) (hCont (v706, .slice Dk t709.length Dl, v713) _ ⟨hHeld, (by (with_reducible repeat (first | apply Kd.V_alloc | apply Kd.V_drewN | apply Kd.V_drew)); exact Kd.V_mono HO0_1.out (fun _ hk => ⟨hk.1.1.1.1, ⟨hk.1.1.1.2.1, ⟨hk.1.1.1.2.2.2.1, ⟨hk.2, ⟨hk.1.2, ⟨hk.1.1.1.2.2.2.2.1, ⟨hk.1.1.1.2.2.2.2.2.1, ⟨hk.1.1.1.2.2.2.2.2.2.1, hk.1.1.1.2.2.2.2.2.2.2⟩⟩⟩⟩⟩⟩⟩⟩)), (by (with_reducible repeat (first | apply Kd.V_alloc | apply Kd.V_drewN | apply Kd.V_drew)); exact Kd.V_mono HO1_1.out (fun _ hk => ⟨hk.1.1.1.1, ⟨hk.1.1.1.2.1, ⟨hk.1.1.1.2.2.2.1, ⟨hk.2, ⟨hk.1.2, ⟨hk.1.1.1.2.2.2.2.1, ⟨hk.1.1.1.2.2.2.2.2.1, ⟨hk.1.1.1.2.2.2.2.2.2.1, hk.1.1.1.2.2.2.2.2.2.2⟩⟩⟩⟩⟩⟩⟩⟩)), (by (with_reducible repeat (first | apply Kd.N_alloc | apply Kd.N_drewN | apply Kd.N_drew)); exact Kd.N_mono Af.out (fun _ hk => ⟨hk.1.1.1.1, ⟨hk.1.1.1.2.2.1, ⟨hk.2, ⟨hk.1.2, ⟨hk.1.1.1.2.2.2.1, ⟨hk.1.1.1.2.2.2.2.1, ⟨hk.1.1.1.2.2.2.2.2.1, hk.1.1.1.2.2.2.2.2.2⟩⟩⟩⟩⟩⟩⟩)), (by (with_reducible repeat (first | apply Kd.N_alloc | apply Kd.N_drewN | apply Kd.N_drew)); exact Kd.N_mono Al.out (fun _ hk => ⟨hk.1.1.1.1, ⟨hk.1.1.1.2.1, ⟨hk.2, ⟨hk.1.2, ⟨hk.1.1.1.2.2.2.1, ⟨hk.1.1.1.2.2.2.2.1, ⟨hk.1.1.1.2.2.2.2.2.1, hk.1.1.1.2.2.2.2.2.2⟩⟩⟩⟩⟩⟩⟩)), (pN As.out), (by (with_reducible repeat (first | apply Kd.N_alloc | apply Kd.N_drewN | apply Kd.N_drew)); exact Kd.N_mono Av.out (fun _ hk => ⟨hk.1.1, ⟨hk.1.2.1, ⟨hk.1.2.2.2.1, ⟨hk.2, ⟨hk.1.2.2.2.2.1, ⟨hk.1.2.2.2.2.2.1, ⟨hk.1.2.2.2.2.2.2.1, hk.1.2.2.2.2.2.2.2⟩⟩⟩⟩⟩⟩⟩)), (pK Aa.out), (pK Ac.out), (pK Ah.out), (pK Ai.out), (pE4 HB.out Aj.out Ak.out Ao.out Ar.out)⟩)
 rintro ⟨v706, v710, v713⟩ w70 ⟨hS_, h0_, h1_, h2_, h3_, h4_, h5_, h6_, h7_, h8_, h9_, h10_⟩
 replace HO0_1 : Aside0 (Kd.V k52 52 w70 w.heap.size (fun k_ => ((P0_1_ k_ ∨ P1_1_ k_) ∨ w.heap.size ≤ k_) ∧ some k_ ≠ (.slice Bl y671.length Bm : Value).ownBlock ∧ some k_ ≠ (.slice Bg t695.length Bh : Value).ownBlock ∧ some k_ ≠ (v706 : Value).ownBlock ∧ some k_ ≠ (v713 : Value).ownBlock ∧ k_ ≠ Ad ∧ k_ ≠ Ae ∧ k_ ≠ Ag ∧ k_ ≠ Ab) (.slice A0_1 l0_1.length c0_1) l0_1) := ⟨h0_⟩
 replace HO1_1 : Aside0 (Kd.V k52 52 w70 w.heap.size (fun k_ => ((P0_1_ k_ ∨ P1_1_ k_) ∨ w.heap.size ≤ k_) ∧ some k_ ≠ (.slice Bl y671.length Bm : Value).ownBlock ∧ some k_ ≠ (.slice Bg t695.length Bh : Value).ownBlock ∧ some k_ ≠ (v706 : Value).ownBlock ∧ some k_ ≠ (v713 : Value).ownBlock ∧ k_ ≠ Ad ∧ k_ ≠ Ae ∧ k_ ≠ Ag ∧ k_ ≠ Ab) (.slice A1_1 l1_1.length c1_1) l1_1) := ⟨h1_⟩
 replace Af : Aside0 (Kd.N k30 30 w70 w.heap.size (fun k_ => ((P0_1_ k_ ∨ P1_1_ k_) ∨ w.heap.size ≤ k_) ∧ some k_ ≠ (.slice Bg t695.length Bh : Value).ownBlock ∧ some k_ ≠ (v706 : Value).ownBlock ∧ some k_ ≠ (v713 : Value).ownBlock ∧ k_ ≠ Ad ∧ k_ ≠ Ae ∧ k_ ≠ Ag ∧ k_ ≠ Ab) (.slice Bl y671.length Bm) y671) := ⟨h2_⟩
 replace Al : Aside0 (Kd.N k52 52 w70 w.heap.size (fun k_ => ((P0_1_ k_ ∨ P1_1_ k_) ∨ w.heap.size ≤ k_) ∧ some k_ ≠ (.slice Bl y671.length Bm : Value).ownBlock ∧ some k_ ≠ (v706 : Value).ownBlock ∧ some k_ ≠ (v713 : Value).ownBlock ∧ k_ ≠ Ad ∧ k_ ≠ Ae ∧ k_ ≠ Ag ∧ k_ ≠ Ab) (.slice Bg t695.length Bh) t695) := ⟨h3_⟩
 have As : Aside0 (Kd.N k24 24 w70 w.heap.size (fun k_ => ((P0_1_ k_ ∨ P1_1_ k_) ∨ w.heap.size ≤ k_) ∧ some k_ ≠ (.slice Bl y671.length Bm : Value).ownBlock ∧ some k_ ≠ (.slice Bg t695.length Bh : Value).ownBlock ∧ some k_ ≠ (v713 : Value).ownBlock ∧ k_ ≠ Ad ∧ k_ ≠ Ae ∧ k_ ≠ Ag ∧ k_ ≠ Ab) v706 y705) := ⟨h4_⟩
 have Av : Aside0 (Kd.N k24 24 w70 w.heap.size (fun k_ => ((P0_1_ k_ ∨ P1_1_ k_) ∨ w.heap.size ≤ k_) ∧ some k_ ≠ (.slice Bl y671.length Bm : Value).ownBlock ∧ some k_ ≠ (.slice Bg t695.length Bh : Value).ownBlock ∧ some k_ ≠ (v706 : Value).ownBlock ∧ k_ ≠ Ad ∧ k_ ≠ Ae ∧ k_ ≠ Ag ∧ k_ ≠ Ab) v713 y712) := ⟨h5_⟩
 replace Aa : Aside0 (w70.heap[Ad]? = some (.cells #[.int .i64 a0_0, .slice A0_1 l0_1.length c0_1, .int .i64 a0_2, .int .i64 a0_3, .int .i64 a0_4, .int .i64 a0_5] 30 (0, 0))) := ⟨h6_⟩
 replace Ac : Aside0 (w70.heap[Ae]? = some (.cells #[.int .i64 a1_0, .slice A1_1 l1_1.length c1_1, .int .i64 a1_2, .int .i64 a1_3, .int .i64 a1_4, .int .i64 a1_5] 30 (0, 0))) := ⟨h7_⟩
 replace Ah : Aside0 (w70.heap[Ag]? = some (.cells #[.int .i64 t678, .slice Bz t679.length B0] 24 (0, 0))) := ⟨h8_⟩
 replace Ai : Aside0 (w70.heap[Ab]? = some (.cells #[.int .i64 t694, .slice Bg t695.length Bh, .int .i64 t698, .int .i64 t699, .int .i64 t700, .int .i64 t701] 30 (0, 0))) := ⟨h9_⟩
 replace HB : Aside0 (Below w.heap.size w w70) := ⟨h10_⟩
 clear An h0_ h1_ h2_ h3_ h4_ h5_ h6_ h7_ h8_ h9_ h10_
 have hHeld : w70.cell? ⟨Ad, 0, none⟩ = some (.int .i64 a0_0) ∧ w70.cell? ⟨Ad, 1, none⟩ = some (.slice A0_1 l0_1.length c0_1) ∧ w70.cell? ⟨Ad, 2, none⟩ = some (.int .i64 a0_2) ∧ w70.cell? ⟨Ad, 3, none⟩ = some (.int .i64 a0_3) ∧ w70.cell? ⟨Ad, 4, none⟩ = some (.int .i64 a0_4) ∧ w70.cell? ⟨Ad, 5, none⟩ = some (.int .i64 a0_5) ∧ w70.cell? ⟨Ag, 0, none⟩ = some (.int .i64 t678) ∧ w70.cell? ⟨Ag, 1, none⟩ = some (.slice Bz t679.length B0) ∧ w70.cell? ⟨Ab, 0, none⟩ = some (.int .i64 t694) ∧ w70.cell? ⟨Ab, 1, none⟩ = some (.slice Bg t695.length Bh) ∧ w70.cell? ⟨Ab, 2, none⟩ = some (.int .i64 t698) ∧ w70.cell? ⟨Ab, 3, none⟩ = some (.int .i64 t699) ∧ w70.cell? ⟨Ab, 4, none⟩ = some (.int .i64 t700) ∧ w70.cell? ⟨Ab, 5, none⟩ = some (.int .i64 t701) := hS_
 obtain ⟨E2, E3, Dm⟩ := Kd.N_slice As.out
 (first | subst Dm | (injection Dm with f1_ f2_ f3_; have f4_ := f1_.symm; have f5_ := f3_.symm; clear f1_ f2_ f3_; subst f4_; subst f5_))
 obtain ⟨E4, E5, Dn⟩ := Kd.N_slice Av.out
 (first | subst Dn | (injection Dn with f1_ f2_ f3_; have f4_ := f1_.symm; have f5_ := f3_.symm; clear f1_ f2_ f3_; subst f4_; subst f5_))
 refine norm_ (a' := ?_) ?_ ?_
 rotate_left
 ·simp only [putAll, Act.put, List.setIfInBounds_toArray, List.set_cons_zero, List.set_cons_succ]
  rfl
 refine onei 13 65 28 16383 HT_ (fun K hK => ?_)
 refine goes_ Try.func14 (by kernel_rfl) rfl #[.slice E2 y705.length E3, .slice E4 y712.length E5] (by rfl) rfl rfl pL ?_
 with_reducible refine (garnerref03_Same.calls k _ _ y705 _ _ y712 true _ ?Ap ?Aq ?A4 ?A7 A27.out).mono ?_
 (case Ap => exact pC (Kd.N_reads' As.out).2.2)
 (case Aq => exact (Kd.N_reads' As.out).2.1)
 (case A4 => exact pC (Kd.N_reads' Av.out).2.2)
 (case A7 => exact (Kd.N_reads' Av.out).2.1)
 rintro e w' ⟨rfl, ⟨nd, rfl⟩⟩
 refine ⟨_, rfl, ?_⟩
 refine hK.out _ _ ⟨(blk_cell Aa.out 0).trans rfl, (blk_cell Aa.out 1).trans rfl, (blk_cell Aa.out 2).trans rfl, (blk_cell Aa.out 3).trans rfl, (blk_cell Aa.out 4).trans rfl, (blk_cell Aa.out 5).trans rfl, (blk_cell Ah.out 0).trans rfl, (blk_cell Ah.out 1).trans rfl, (blk_cell Ai.out 0).trans rfl, (blk_cell Ai.out 1).trans rfl, (blk_cell Ai.out 2).trans rfl, (blk_cell Ai.out 3).trans rfl, (blk_cell Ai.out 4).trans rfl, (blk_cell Ai.out 5).trans rfl⟩ (fun hHeld => ?_)
 clear hK K
 refine norm_ (a' := ?_) ?_ ?_
 rotate_left
 ·show Act.put _ (some 65) _ = _
  simp only [Act.put, List.setIfInBounds_toArray, List.set_cons_zero, List.set_cons_succ, i64_w, i32_w]
  rfl
 refine pui 14 66 28 32767 HT_ ?_
 refine zp 15 (h := zp 16 (h := zp 17 (h := zp 18 (h := zp 19 (h := zw 20 (h := zw 21 (h := ?_)))))))
 refine onei 22 74 28 8388607 HT_ (fun K hK => ?_)
 refine goes_ Try.func8 (by kernel_rfl) rfl #[.agg #[.int .i64 t694, .slice Bg t695.length Bh, .int .i64 t698, .int .i64 t699, .int .i64 t700, .int .i64 t701], .agg #[.int .i64 a0_0, .slice A0_1 l0_1.length c0_1, .int .i64 a0_2, .int .i64 a0_3, .int .i64 a0_4, .int .i64 a0_5]] (by rfl) rfl rfl pL ?_
 with_reducible refine (garnerref24_Same.calls k t694 _ _ t695 t698 t699 t700 t701 a0_0 _ _ l0_1 a0_2 a0_3 a0_4 a0_5 true _ ?Ap ?Aq ?A4 ?A7 A30.out).mono ?_
 (case Ap => exact pC (Kd.N_reads' Al.out).2.2)
 (case Aq => exact (Kd.N_reads' Al.out).2.1)
 (case A4 => exact pC (Kd.V_reads' HO0_1.out).2.2)
 (case A7 => exact (Kd.V_reads' HO0_1.out).2.1)
 rintro e w73 ⟨rfl, hb⟩
 refine ⟨_, rfl, ?_⟩
 replace HO0_1 := bVa HO0_1 hb
 replace HO1_1 := bVa HO1_1 hb
 replace Af := bNa Af hb
 replace Al := bNa Al hb
 replace As := bNa As hb
 replace Av := bNa Av hb
 replace Aa := kBa Aa hb
 replace Ac := kBa Ac hb
 replace Ah := kBa Ah hb
 replace Ai := kBa Ai hb
 replace HB := Am (below_step (pE4 HB.out Aj.out Ak.out Ao.out Ar.out) hb)
 (try clear hb)
 (try clear hb2)
 (try clear hk)
 (try clear hi)
 refine hK.out _ _ ⟨(blk_cell Aa.out 0).trans rfl, (blk_cell Aa.out 1).trans rfl, (blk_cell Aa.out 2).trans rfl, (blk_cell Aa.out 3).trans rfl, (blk_cell Aa.out 4).trans rfl, (blk_cell Aa.out 5).trans rfl, (blk_cell Ah.out 0).trans rfl, (blk_cell Ah.out 1).trans rfl, (blk_cell Ai.out 0).trans rfl, (blk_cell Ai.out 1).trans rfl, (blk_cell Ai.out 2).trans rfl, (blk_cell Ai.out 3).trans rfl, (blk_cell Ai.out 4).trans rfl, (blk_cell Ai.out 5).trans rfl⟩ (fun hHeld => ?_)
 clear hK K
 refine norm_ (a' := ?_) ?_ ?_
 rotate_left
 ·show Act.put _ (some 74) _ = _
  simp only [Act.put, List.setIfInBounds_toArray, List.set_cons_zero, List.set_cons_succ, i64_w, i32_w]
  rfl
 refine pui 23 75 28 16777215 HT_ ?_
 refine zp 24 (h := ?_)
 refine onei 25 77 28 67108863 HT_ (fun K hK => ?_)
 refine goes_ Try.func5 (by kernel_rfl) rfl #[] (by rfl) rfl rfl pL ?_
 with_reducible refine (garnerlaw24_awake.calls k  t717 _ A32.out).mono ?_
 rintro e w74 ⟨rfl, hb⟩
 refine ⟨_, rfl, ?_⟩
 replace HO0_1 := bVa HO0_1 hb
 replace HO1_1 := bVa HO1_1 hb
 replace Af := bNa Af hb
 replace Al := bNa Al hb
 replace As := bNa As hb
 replace Av := bNa Av hb
 replace Aa := kBa Aa hb
 replace Ac := kBa Ac hb
 replace Ah := kBa Ah hb
 replace Ai := kBa Ai hb
 replace HB := Am (below_step (pE4 HB.out Aj.out Ak.out Ao.out Ar.out) hb)
 (try clear hb)
 (try clear hb2)
 (try clear hk)
 (try clear hi)
 refine hK.out _ _ ⟨(blk_cell Aa.out 0).trans rfl, (blk_cell Aa.out 1).trans rfl, (blk_cell Aa.out 2).trans rfl, (blk_cell Aa.out 3).trans rfl, (blk_cell Aa.out 4).trans rfl, (blk_cell Aa.out 5).trans rfl, (blk_cell Ah.out 0).trans rfl, (blk_cell Ah.out 1).trans rfl, (blk_cell Ai.out 0).trans rfl, (blk_cell Ai.out 1).trans rfl, (blk_cell Ai.out 2).trans rfl, (blk_cell Ai.out 3).trans rfl, (blk_cell Ai.out 4).trans rfl, (blk_cell Ai.out 5).trans rfl⟩ (fun hHeld => ?_)
 clear hK K
 refine norm_ (a' := ?_) ?_ ?_
 rotate_left
 ·show Act.put _ (some 77) _ = _
  simp only [Act.put, List.setIfInBounds_toArray, List.set_cons_zero, List.set_cons_succ, i64_w, i32_w]
  rfl
 refine pui 26 78 28 134217727 HT_ ?_
 refine zp 27 (h := ?_)
 refine done_ (done_of HT_.out (by kernel_rfl)) ?_
 try go_wp2
 go_ret
 exact ⟨pX, pE4 HB.out Aj.out Ak.out Ao.out Ar.out⟩
end Go.Proofs.Ytdanmjfkocjgjaa.PWalPuts
