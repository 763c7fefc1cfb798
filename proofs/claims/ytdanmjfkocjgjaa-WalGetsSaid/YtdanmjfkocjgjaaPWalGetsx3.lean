/- What the law reaches, as plain Lean functions, and that the machine's calls answer just that. -/
import Derived.Test.YtdanmjfkocjgjaaPWalGetsx0
namespace Go.Proofs.Ytdanmjfkocjgjaa.PWalGets
open Go.RowKit Go.Proofs.YtdanmjfkocjgjaaW.PrintWords Go.Proofs.YtdanmjfkocjgjaaW.PrintLast Go.Proofs.YtdanmjfkocjgjaaW.PrintMore
attribute [local go_sem] max2_int min2_int max_two min_two max_three min_three max_four min_four
set_option linter.unusedVariables false
set_option linter.unusedSimpArgs false
attribute [local go_sem] wrap64_l1 wrap64_l2 wrap64_l3 wrap64_l4 wrap64_l5
def hard_counts.f (a0 : Int) : Option (Bool) := if a0 ≥ 0 then (some (decide (a0 ≤ 2147483647))) else (some false)
set_option maxHeartbeats 8000000 in
set_option maxRecDepth 100000 in
theorem hard_counts.calls (a0 : Int) (r : Bool) (w : World) (h : hard_counts.f a0 = some r) :
 Calls Try.prog 56 #[.int .i64 a0] w fun e w' => e = .returned (.bool r) ∧ Drawn0 w w' := by
 unfold hard_counts.f at h
 have H := h
 clear h
 by_cases c2 : a0 ≥ 0
 ·rw [if_pos c2] at H
  have c2b0 : decide (0 ≤ a0) = true := decide_eq_true c2
  clear c2
  obtain rfl := Option.some.inj H
  go_enter Try.func56, Try.ntmps56
  go_wp2
  go_ret
  exact ⟨zr, zd⟩
 rw [if_neg c2] at H
 have c2b0 : decide (0 ≤ a0) = false := decide_eq_false c2
 clear c2
 obtain rfl := Option.some.inj H
 go_enter Try.func56, Try.ntmps56
 go_wp2
 go_ret
 exact ⟨zr, zd⟩
def hard_Check.f (a0_0 : Int) (a0_1 : Int) (a0_2 : Int) : Option (Int) := (hard_counts.f a0_0).bind fun t102 => (if t102 = true then ((hard_counts.f a0_1).bind fun t103 => (if t103 = true then ((hard_counts.f a0_2).bind fun t104 => (if t104 = true then (if a0_0 = 0 then (if a0_1 = 0 then (some 0) else (some 1)) else (some 0)) else (some 1))) else (some 1))) else (some 1))
set_option maxHeartbeats 8000000 in
set_option maxRecDepth 100000 in
theorem hard_Check.calls (a0_0 : Int) (a0_1 : Int) (a0_2 : Int) (r : Int) (w : World) (h : hard_Check.f a0_0 a0_1 a0_2 = some r) :
 Calls Try.prog 32 #[.agg #[.int .i64 a0_0, .int .i64 a0_1, .int .i64 a0_2]] w fun e w' => e = .returned (.int .i64 r) ∧ Below w.heap.size w w' := by
 have hu28 := Try.underlying28
 have HB := Am (Below.refl w.heap.size w)
 unfold hard_Check.f at h
 have H := h
 clear h
 replace H := Option.bind_eq_some_iff.mp H
 obtain ⟨t102, A20, H⟩ := H
 have A2 := Am A20
 clear A20
 by_cases c3 : t102 = true
 rotate_left
 ·replace c3 := Bool.eq_false_iff.mpr c3
  subst c3
  rw [if_neg zF] at H
  obtain rfl := Option.some.inj H
  go_enter Try.func32, Try.ntmps32
  go_wp2_with (first | ((with_reducible refine gate_dst (N := 1) rfl ?_); refine zE 1 #[.int .i64 a0_0, .int .i64 a0_1, .int .i64 a0_2] 28 ?_; intro Ab hg w20 hbox hb; have Aa := Am (hbox); have Ac := Am (zG hg (below_size (pB HB.out))); replace HB := Am (below_step (pB HB.out) hb); have Ad := Ac; clear hb hbox hg; obtain ⟨_, _, _⟩ := bc3 Aa.out; obtain ⟨_, _, _⟩ := bf3 Aa.out) | ((with_reducible refine gate_callee (f := 56) rfl ?_); refine goesL_ (some 5) rfl rfl Try.func56 (by kernel_rfl) rfl #[.int .i64 a0_0] rfl pL ?_; (with_reducible refine (hard_counts.calls a0_0 false _ A2.out).mono ?_); rintro e w' ⟨rfl, ⟨nd, rfl⟩⟩; refine ⟨_, rfl, ?_⟩))
  go_ret
  exact ⟨pX, pE HB.out Ad.out⟩
 subst c3
 rw [if_pos rfl] at H
 replace H := Option.bind_eq_some_iff.mp H
 obtain ⟨t103, A40, H⟩ := H
 have A4 := Am A40
 clear A40
 by_cases c5 : t103 = true
 rotate_left
 ·replace c5 := Bool.eq_false_iff.mpr c5
  subst c5
  rw [if_neg zF] at H
  obtain rfl := Option.some.inj H
  go_enter Try.func32, Try.ntmps32
  go_wp2_with (first | ((with_reducible refine gate_dst (N := 1) rfl ?_); refine zE 1 #[.int .i64 a0_0, .int .i64 a0_1, .int .i64 a0_2] 28 ?_; intro Ab hg w18 hbox hb; have Aa := Am (hbox); have Ac := Am (zG hg (below_size (pB HB.out))); replace HB := Am (below_step (pB HB.out) hb); have Ad := Ac; clear hb hbox hg; obtain ⟨_, _, _⟩ := bc3 Aa.out; obtain ⟨_, _, _⟩ := bf3 Aa.out) | ((with_reducible refine gate_callee (f := 56) rfl ?_); refine goesL_ (some 5) rfl rfl Try.func56 (by kernel_rfl) rfl #[.int .i64 a0_0] rfl pL ?_; (with_reducible refine (hard_counts.calls a0_0 true _ A2.out).mono ?_); rintro e w' ⟨rfl, ⟨nd, rfl⟩⟩; refine ⟨_, rfl, ?_⟩) | (go_at_call 56; (with_reducible refine (hard_counts.calls a0_1 false _ A4.out).mono ?_); rintro e w' ⟨rfl, ⟨nd, rfl⟩⟩))
  go_ret
  exact ⟨pX, pE HB.out Ad.out⟩
 subst c5
 rw [if_pos rfl] at H
 replace H := Option.bind_eq_some_iff.mp H
 obtain ⟨t104, A60, H⟩ := H
 have A6 := Am A60
 clear A60
 by_cases c7 : t104 = true
 rotate_left
 ·replace c7 := Bool.eq_false_iff.mpr c7
  subst c7
  rw [if_neg zF] at H
  obtain rfl := Option.some.inj H
  go_enter Try.func32, Try.ntmps32
  go_wp2_with (first | ((with_reducible refine gate_dst (N := 1) rfl ?_); refine zE 1 #[.int .i64 a0_0, .int .i64 a0_1, .int .i64 a0_2] 28 ?_; intro Ab hg w16 hbox hb; have Aa := Am (hbox); have Ac := Am (zG hg (below_size (pB HB.out))); replace HB := Am (below_step (pB HB.out) hb); have Ad := Ac; clear hb hbox hg; obtain ⟨_, _, _⟩ := bc3 Aa.out; obtain ⟨_, _, _⟩ := bf3 Aa.out) | ((with_reducible refine gate_callee (f := 56) rfl ?_); refine goesL_ (some 5) rfl rfl Try.func56 (by kernel_rfl) rfl #[.int .i64 a0_0] rfl pL ?_; (with_reducible refine (hard_counts.calls a0_0 true _ A2.out).mono ?_); rintro e w' ⟨rfl, ⟨nd, rfl⟩⟩; refine ⟨_, rfl, ?_⟩) | (go_at_call 56; (with_reducible refine (hard_counts.calls a0_1 true _ A4.out).mono ?_); rintro e w' ⟨rfl, ⟨nd, rfl⟩⟩) | (go_at_call 56; (with_reducible refine (hard_counts.calls a0_2 false _ A6.out).mono ?_); rintro e w' ⟨rfl, ⟨nd, rfl⟩⟩))
  go_ret
  exact ⟨pX, pE HB.out Ad.out⟩
 subst c7
 rw [if_pos rfl] at H
 by_cases c8 : a0_0 = 0
 rotate_left
 ·rw [if_neg c8] at H
  have c8b0 := beq_eq_false_iff_ne.mpr c8
  have c8b1 := bne_iff_ne.mpr c8
  obtain rfl := Option.some.inj H
  go_enter Try.func32, Try.ntmps32
  go_wp2_with (first | ((with_reducible refine gate_dst (N := 1) rfl ?_); refine zE 1 #[.int .i64 a0_0, .int .i64 a0_1, .int .i64 a0_2] 28 ?_; intro Ab hg w14 hbox hb; have Aa := Am (hbox); have Ac := Am (zG hg (below_size (pB HB.out))); replace HB := Am (below_step (pB HB.out) hb); have Ad := Ac; clear hb hbox hg; obtain ⟨_, _, _⟩ := bc3 Aa.out; obtain ⟨_, _, _⟩ := bf3 Aa.out) | ((with_reducible refine gate_callee (f := 56) rfl ?_); refine goesL_ (some 5) rfl rfl Try.func56 (by kernel_rfl) rfl #[.int .i64 a0_0] rfl pL ?_; (with_reducible refine (hard_counts.calls a0_0 true _ A2.out).mono ?_); rintro e w' ⟨rfl, ⟨nd, rfl⟩⟩; refine ⟨_, rfl, ?_⟩) | (go_at_call 56; (with_reducible refine (hard_counts.calls a0_1 true _ A4.out).mono ?_); rintro e w' ⟨rfl, ⟨nd, rfl⟩⟩) | (go_at_call 56; (with_reducible refine (hard_counts.calls a0_2 true _ A6.out).mono ?_); rintro e w' ⟨rfl, ⟨nd, rfl⟩⟩))
  go_ret
  exact ⟨pX, pE HB.out Ad.out⟩
 rw [if_pos c8] at H
 have c8b0 := beq_iff_eq.mpr c8
 have c8b1 := bne_eq_false_iff_eq.mpr c8
 clear c8
 by_cases c9 : a0_1 = 0
 rotate_left
 ·rw [if_neg c9] at H
  have c9b0 := beq_eq_false_iff_ne.mpr c9
  have c9b1 := bne_iff_ne.mpr c9
  obtain rfl := Option.some.inj H
  go_enter Try.func32, Try.ntmps32
  go_wp2_with (first | ((with_reducible refine gate_dst (N := 1) rfl ?_); refine zE 1 #[.int .i64 a0_0, .int .i64 a0_1, .int .i64 a0_2] 28 ?_; intro Ab hg w12 hbox hb; have Aa := Am (hbox); have Ac := Am (zG hg (below_size (pB HB.out))); replace HB := Am (below_step (pB HB.out) hb); have Ad := Ac; clear hb hbox hg; obtain ⟨_, _, _⟩ := bc3 Aa.out; obtain ⟨_, _, _⟩ := bf3 Aa.out) | ((with_reducible refine gate_callee (f := 56) rfl ?_); refine goesL_ (some 5) rfl rfl Try.func56 (by kernel_rfl) rfl #[.int .i64 a0_0] rfl pL ?_; (with_reducible refine (hard_counts.calls a0_0 true _ A2.out).mono ?_); rintro e w' ⟨rfl, ⟨nd, rfl⟩⟩; refine ⟨_, rfl, ?_⟩) | (go_at_call 56; (with_reducible refine (hard_counts.calls a0_1 true _ A4.out).mono ?_); rintro e w' ⟨rfl, ⟨nd, rfl⟩⟩) | (go_at_call 56; (with_reducible refine (hard_counts.calls a0_2 true _ A6.out).mono ?_); rintro e w' ⟨rfl, ⟨nd, rfl⟩⟩))
  go_ret
  exact ⟨pX, pE HB.out Ad.out⟩
 rw [if_pos c9] at H
 have c9b0 := beq_iff_eq.mpr c9
 have c9b1 := bne_eq_false_iff_eq.mpr c9
 clear c9
 obtain rfl := Option.some.inj H
 go_enter Try.func32, Try.ntmps32
 go_wp2_with (first | ((with_reducible refine gate_dst (N := 1) rfl ?_); refine zE 1 #[.int .i64 a0_0, .int .i64 a0_1, .int .i64 a0_2] 28 ?_; intro Ab hg w10 hbox hb; have Aa := Am (hbox); have Ac := Am (zG hg (below_size (pB HB.out))); replace HB := Am (below_step (pB HB.out) hb); have Ad := Ac; clear hb hbox hg; obtain ⟨_, _, _⟩ := bc3 Aa.out; obtain ⟨_, _, _⟩ := bf3 Aa.out) | ((with_reducible refine gate_callee (f := 56) rfl ?_); refine goesL_ (some 5) rfl rfl Try.func56 (by kernel_rfl) rfl #[.int .i64 a0_0] rfl pL ?_; (with_reducible refine (hard_counts.calls a0_0 true _ A2.out).mono ?_); rintro e w' ⟨rfl, ⟨nd, rfl⟩⟩; refine ⟨_, rfl, ?_⟩) | (go_at_call 56; (with_reducible refine (hard_counts.calls a0_1 true _ A4.out).mono ?_); rintro e w' ⟨rfl, ⟨nd, rfl⟩⟩) | (go_at_call 56; (with_reducible refine (hard_counts.calls a0_2 true _ A6.out).mono ?_); rintro e w' ⟨rfl, ⟨nd, rfl⟩⟩))
 go_ret
 exact ⟨pX, pE HB.out Ad.out⟩
def raft_counts.f (a0 : Int) : Option (Bool) := if a0 ≥ 1 then (some (decide (a0 ≤ 2147483647))) else (some false)
set_option maxHeartbeats 8000000 in
set_option maxRecDepth 100000 in
theorem raft_counts.calls (a0 : Int) (r : Bool) (w : World) (h : raft_counts.f a0 = some r) :
 Calls Try.prog 59 #[.int .i64 a0] w fun e w' => e = .returned (.bool r) ∧ Drawn0 w w' := by
 unfold raft_counts.f at h
 have H := h
 clear h
 by_cases c2 : a0 ≥ 1
 ·rw [if_pos c2] at H
  have c2b0 : decide (1 ≤ a0) = true := decide_eq_true c2
  clear c2
  obtain rfl := Option.some.inj H
  go_enter Try.func59, Try.ntmps59
  go_wp2
  go_ret
  exact ⟨zr, zd⟩
 rw [if_neg c2] at H
 have c2b0 : decide (1 ≤ a0) = false := decide_eq_false c2
 clear c2
 obtain rfl := Option.some.inj H
 go_enter Try.func59, Try.ntmps59
 go_wp2
 go_ret
 exact ⟨zr, zd⟩
def raft_rows.l0 : Nat → List (S52) → List (S52) → Int → Int → Option (Bool)
 | 0, _, _, _, _ => none
 | k + 1, x0, x5, x6, x7 => if x7 < x6 then (if 0 ≤ x7 then (if x7 < (x5.length : Int) then ((raft_counts.f ((rd_T52 x5 x7).f0)).bind fun t107 => (if t107 = true then ((raft_counts.f ((rd_T52 x5 x7).f1)).bind fun t108 => (if t108 = true then (if x7 > 0 then (if 0 ≤ (wrap64 (x7 - 1)) then (if (wrap64 (x7 - 1)) < (x0.length : Int) then (if (wrap64 (((rd_T52 x5 x7).f0) - 1)) = ((rd_T52 x0 (wrap64 (x7 - 1))).f0) then (if ((rd_T52 x5 x7).f1) < ((rd_T52 x0 (wrap64 (x7 - 1))).f1) then (none) else (raft_rows.l0 k x0 x5 x6 (wrap64 (x7 + 1)))) else (none)) else (none)) else (none)) else (raft_rows.l0 k x0 x5 x6 (wrap64 (x7 + 1)))) else (none))) else (none))) else (none)) else (none)) else (some true)
def raft_rows.f (k : Nat) (l0 : List (S52)) : Option (Bool) := raft_rows.l0 k l0 l0 (l0.length : Int) 0
theorem raft_rows.mono_l : ∀ k, (∀ y0 y1 y2 y3, LeO (raft_rows.l0 k y0 y1 y2 y3) (raft_rows.l0 (k + 1) y0 y1 y2 y3))
 | 0 => fun _ _ _ _ r h => by simp [raft_rows.l0] at h
 | k + 1 => by
  have ih0 := raft_rows.mono_l k
  ·intro y0 y1 y2 y3
   unfold raft_rows.l0
   repeat' (with_reducible first | exact ih0 .. | exact LeO.refl .. | exact LeO.none .. | refine LeO.ite ?_ ?_ | refine LeO.bind ?_ (fun _ => ?_))
theorem raft_rows.mono : ∀ a0 k, LeO (raft_rows.f k a0) (raft_rows.f (k + 1) a0) := by
 intro a0 k
 have ih0 := raft_rows.mono_l k
 unfold raft_rows.f
 repeat' (with_reducible first | exact ih0 .. | exact LeO.refl .. | exact LeO.none .. | refine LeO.ite ?_ ?_ | refine LeO.bind ?_ (fun _ => ?_))
def raft_rows.T4 : Bool × List (List Nat × List Nat) := (true, [([], []), ([0], [0]), ([1], [1]), ([2], [2]), ([3, 2], [3]), ([4], [4]), ([5, 4], [4, 5]), ([6, 4, 4], [4, 6]), ([7, 4], [4, 7]), ([4, 8], [4, 8]), ([9, 7], [9]), ([10], [10]), ([11, 10], [10, 11]), ([12, 10, 10], [10, 12]), ([13], [13]), ([14, 13], [13, 14]), ([15, 13], [13, 15]), ([13], [13]), ([13], [13]), ([18, 13], [13, 18]), ([17, 19, 13], [13, 17, 19]), ([20, 13], [13, 20]), ([21, 13], [13, 21]), ([16, 22, 13], [13, 16, 22]), ([23, 13, 13], [13, 23]), ([24], [24]), ([25, 24], [24, 25]), ([24], [24]), ([24], [24]), ([28, 24], [24, 28]), ([27, 29, 24], [24, 27, 29]), ([30, 24], [24, 30]), ([31, 24], [24, 31]), ([26, 32, 24], [24, 26, 32]), ([24, 33, 13], [13, 24, 33]), ([13, 34, 10], [10, 13, 34]), ([10, 35], [10, 35])])
def raft_rows.B4 : List Nat := [0, 1, 3, 7, 15, 31, 63, 127, 255, 511, 1023, 2047, 4095, 8191, 16383, 32767, 65535, 16383, 16383, 278527, 933887, 1982463, 4079615, 8388607, 16777215, 33554431, 67108863, 33554431, 33554431, 301989887, 973078527, 2046820351, 4194303999, 8589934591, 17179869183, 34359738367, 68719476735]
theorem raft_rows.tab4 : rtab .any (opsOf Try.f60 4) = raft_rows.T4 := by kernel_rfl
theorem raft_rows.bits4 : waitsOk raft_rows.T4.2 raft_rows.B4 = true := by kernel_rfl
set_option maxHeartbeats 8000000 in
set_option maxRecDepth 100000 in
theorem raft_rows.calls (k : Nat) (A0 : Option Addr) (c0 : Nat) (l0 : List (S52)) (r : Bool) (w : World) (hr0 : Kd.C k52 w A0 l0.length l0) (hc0 : l0.length ≤ c0) (h : raft_rows.f k l0 = some r) :
 Calls Try.prog 60 #[.slice A0 l0.length c0] w fun e w' => e = .returned (.bool r) ∧ Below w.heap.size w w' := by
 have hu52 := Try.underlying52
 have HR0 := Am hr0
 have HC0 := Am hc0
 clear hr0 hc0
 have HB := Am (Below.refl w.heap.size w)
 unfold raft_rows.f at h
 have H := h
 clear h
 have H' := Am H
 clear H
 go_enter Try.func60, Try.ntmps60
 go_wp2
 go_loopg [7] k (fun kq v7 w' => ∃ (Aa : Int), v7 = .int .i64 Aa ∧ Aside0 (raft_rows.l0 kq l0 l0 (l0.length : Int) Aa = some r) ∧ Aside0 (kq ≤ k) ∧ Aside0 (Below w.heap.size w w'))
 case atStart => exact ⟨(0), zr, H', ⟨Nat.le_refl _⟩, ⟨pB HB.out⟩⟩
 case round =>
  clear H'
  obtain ⟨Aa, rfl, HA, HK1, HB⟩ := hrel
  cases gk with
  | zero => exact absurd HA.out (by simp [raft_rows.l0])
  | succ k1 =>
   have H := HA.out
   clear HA
   simp only [raft_rows.l0] at H
   by_cases c2 : Aa < (l0.length : Int)
   rotate_left
   ·rw [if_neg c2] at H
    have c2b0 := decide_eq_false c2
    clear c2
    obtain rfl := Option.some.inj H
    go_wp2
    go_ret
    exact ⟨pX, pB HB.out⟩
   rw [if_pos c2] at H
   have c2b0 := decide_eq_true c2
   clear c2
   obtain ⟨c3, H⟩ := zI H
   have c3b0 := decide_eq_true c3
   clear c3
   obtain ⟨c4, H⟩ := zI H
   have c4b0 := decide_eq_true c4
   clear c4
   replace H := Option.bind_eq_some_iff.mp H
   obtain ⟨t107, A50, H⟩ := H
   have A5 := Am A50
   clear A50
   by_cases c6 : t107 = true
   rotate_left
   ·replace c6 := Bool.eq_false_iff.mpr c6
    subst c6
    rw [if_neg zF] at H
    exact absurd H (by simp)
   subst c6
   rw [if_pos rfl] at H
   replace H := Option.bind_eq_some_iff.mp H
   obtain ⟨t108, A70, H⟩ := H
   have A7 := Am A70
   clear A70
   by_cases c8 : t108 = true
   rotate_left
   ·replace c8 := Bool.eq_false_iff.mpr c8
    subst c8
    rw [if_neg zF] at H
    exact absurd H (by simp)
   subst c8
   rw [if_pos rfl] at H
   by_cases c9 : Aa > 0
   rotate_left
   ·rw [if_neg c9] at H
    have c9b0 : decide (0 < Aa) = false := decide_eq_false c9
    clear c9
    have H' := Am H
    clear H
    have p105 : 0 ≤ (Aa : Int) := of_decide_eq_true pS
    have q105 : Aa < (l0.length : Int) := of_decide_eq_true pS
    obtain ⟨Ad, Ae, c105_5, e105, A1, A2, A3, A4, A6, A8, A9, Ba, Bb, Bc, Af, Ag⟩ := at_T52u HR0.out Aa p105 q105 HB.out
    cases e105
    have Bd := Am Ag
    have Be := Am Af
    clear Ag Af
    replace p105 := eq_true p105
    replace q105 := eq_true q105
    try go_wp2_with (first | ((with_reducible refine gate_dst (N := 4) rfl ?_); refine zE 4 #[.int .i64 0, .int .i64 0, .int .i64 0, .string (⟨#[]⟩ : ByteArray), .bool false, .slice none 0 0, .int .i64 0, .int .i64 0, .int .i64 0, .int .u32 0] 52 ?_; intro Ab hg w19 hbox hb; have Ac := Am (hbox); have Az := Am (zG hg (below_size (pB HB.out))); replace HB := Am (below_step (pB HB.out) hb); have As := Az; clear hb hbox hg; obtain ⟨_, _, _, _, _, _, _, _, _, _⟩ := bc10 Ac.out; obtain ⟨_, _, _, _, _, _, _, _, _, _⟩ := bf10 Ac.out))
    have n0_ : Aside0 (((((((((((w19.setCell ⟨Ab, 0, none⟩ (.int .i64 ((rd_T52 l0 Aa).f0))).setCell ⟨Ab, 1, none⟩ (.int .i64 ((rd_T52 l0 Aa).f1))).setCell ⟨Ab, 2, none⟩ (.int .i64 ((rd_T52 l0 Aa).f2))).setCell ⟨Ab, 3, none⟩ (.string ((rd_T52 l0 Aa).f3))).setCell ⟨Ab, 4, none⟩ (.bool ((rd_T52 l0 Aa).f4.f0))).setCell ⟨Ab, 5, none⟩ (.slice Ae ((rd_T52 l0 Aa).f4.f1).length c105_5)).setCell ⟨Ab, 6, none⟩ (.int .i64 ((rd_T52 l0 Aa).f4.f2.f0))).setCell ⟨Ab, 7, none⟩ (.int .i64 ((rd_T52 l0 Aa).f4.f2.f1))).setCell ⟨Ab, 8, none⟩ (.int .i64 ((rd_T52 l0 Aa).f4.f2.f2))).setCell ⟨Ab, 9, none⟩ (.int .u32 ((rd_T52 l0 Aa).f4.f2.f3))).heap[Ab]? = some (.cells #[.int .i64 ((rd_T52 l0 Aa).f0), .int .i64 ((rd_T52 l0 Aa).f1), .int .i64 ((rd_T52 l0 Aa).f2), .string ((rd_T52 l0 Aa).f3), .bool ((rd_T52 l0 Aa).f4.f0), .slice Ae ((rd_T52 l0 Aa).f4.f1).length c105_5, .int .i64 ((rd_T52 l0 Aa).f4.f2.f0), .int .i64 ((rd_T52 l0 Aa).f4.f2.f1), .int .i64 ((rd_T52 l0 Aa).f4.f2.f2), .int .u32 ((rd_T52 l0 Aa).f4.f2.f3)] 52 (0, 0))) := ⟨kX0 Ac.out⟩
    have n1_ : Aside0 (Below w.heap.size w ((((((((((w19.setCell ⟨Ab, 0, none⟩ (.int .i64 ((rd_T52 l0 Aa).f0))).setCell ⟨Ab, 1, none⟩ (.int .i64 ((rd_T52 l0 Aa).f1))).setCell ⟨Ab, 2, none⟩ (.int .i64 ((rd_T52 l0 Aa).f2))).setCell ⟨Ab, 3, none⟩ (.string ((rd_T52 l0 Aa).f3))).setCell ⟨Ab, 4, none⟩ (.bool ((rd_T52 l0 Aa).f4.f0))).setCell ⟨Ab, 5, none⟩ (.slice Ae ((rd_T52 l0 Aa).f4.f1).length c105_5)).setCell ⟨Ab, 6, none⟩ (.int .i64 ((rd_T52 l0 Aa).f4.f2.f0))).setCell ⟨Ab, 7, none⟩ (.int .i64 ((rd_T52 l0 Aa).f4.f2.f1))).setCell ⟨Ab, 8, none⟩ (.int .i64 ((rd_T52 l0 Aa).f4.f2.f2))).setCell ⟨Ab, 9, none⟩ (.int .u32 ((rd_T52 l0 Aa).f4.f2.f3)))) := ⟨pE HB.out As.out⟩
    (try clear Ac)
    (try clear HB)
    generalize ((((((((((w19.setCell ⟨Ab, 0, none⟩ (.int .i64 ((rd_T52 l0 Aa).f0))).setCell ⟨Ab, 1, none⟩ (.int .i64 ((rd_T52 l0 Aa).f1))).setCell ⟨Ab, 2, none⟩ (.int .i64 ((rd_T52 l0 Aa).f2))).setCell ⟨Ab, 3, none⟩ (.string ((rd_T52 l0 Aa).f3))).setCell ⟨Ab, 4, none⟩ (.bool ((rd_T52 l0 Aa).f4.f0))).setCell ⟨Ab, 5, none⟩ (.slice Ae ((rd_T52 l0 Aa).f4.f1).length c105_5)).setCell ⟨Ab, 6, none⟩ (.int .i64 ((rd_T52 l0 Aa).f4.f2.f0))).setCell ⟨Ab, 7, none⟩ (.int .i64 ((rd_T52 l0 Aa).f4.f2.f1))).setCell ⟨Ab, 8, none⟩ (.int .i64 ((rd_T52 l0 Aa).f4.f2.f2))).setCell ⟨Ab, 9, none⟩ (.int .u32 ((rd_T52 l0 Aa).f4.f2.f3))) = w21 at n0_ n1_ ⊢
    have Ac := n0_
    have HB := n1_
    clear n0_ n1_
    replace Ac := kDa Ac
    replace HB := bDa HB
    refine start_ (n := 37) (S := fun w' => cG w' Ab 0 (.int .i64 ((rd_T52 l0 Aa).f0)) ∧ cG w' Ab 1 (.int .i64 ((rd_T52 l0 Aa).f1)) ∧ cG w' Ab 2 (.int .i64 ((rd_T52 l0 Aa).f2)) ∧ cG w' Ab 3 (.string ((rd_T52 l0 Aa).f3)) ∧ cG w' Ab 4 (.bool ((rd_T52 l0 Aa).f4.f0)) ∧ cG w' Ab 5 (.slice Ae ((rd_T52 l0 Aa).f4.f1).length c105_5) ∧ cG w' Ab 6 (.int .i64 ((rd_T52 l0 Aa).f4.f2.f0)) ∧ cG w' Ab 7 (.int .i64 ((rd_T52 l0 Aa).f4.f2.f1)) ∧ cG w' Ab 8 (.int .i64 ((rd_T52 l0 Aa).f4.f2.f2)) ∧ cG w' Ab 9 (.int .u32 ((rd_T52 l0 Aa).f4.f2.f3))) (ds := []) #[false, false, false, false, false, false, false, false, false, false, false, false, false, false, false, false, false, false, false, false, false, false, false, false, false, false, false, false, false, false, false, false, false, false, false, false, false] (by kernel_rfl) rfl rfl ⟨(blk_cell Ac.out 0).trans rfl, (blk_cell Ac.out 1).trans rfl, (blk_cell Ac.out 2).trans rfl, (blk_cell Ac.out 3).trans rfl, (blk_cell Ac.out 4).trans rfl, (blk_cell Ac.out 5).trans rfl, (blk_cell Ac.out 6).trans rfl, (blk_cell Ac.out 7).trans rfl, (blk_cell Ac.out 8).trans rfl, (blk_cell Ac.out 9).trans rfl⟩ (fun hHeld => ?_); refine with_tabW raft_rows.tab4 raft_rows.bits4 (fun HT_ HW_ => ?_)
    generalize w21.drew = w22 at Ac HB hHeld ⊢
    refine pui 0 12 37 1 HT_ ?_
    refine tki 1 13 37 3 HT_ HW_ hHeld ?_
    refine onei 2 14 37 7 HT_ (fun K hK => ?_)
    refine goes_ Try.func59 (by kernel_rfl) rfl #[.int .i64 ((rd_T52 l0 Aa).f0)] (by rfl) rfl rfl pL ?_
    with_reducible refine (raft_counts.calls ((rd_T52 l0 Aa).f0) true _ A5.out).mono ?_
    rintro e w' ⟨rfl, ⟨nd, rfl⟩⟩
    refine ⟨_, rfl, ?_⟩
    refine hK.out _ _ ⟨(blk_cell Ac.out 0).trans rfl, (blk_cell Ac.out 1).trans rfl, (blk_cell Ac.out 2).trans rfl, (blk_cell Ac.out 3).trans rfl, (blk_cell Ac.out 4).trans rfl, (blk_cell Ac.out 5).trans rfl, (blk_cell Ac.out 6).trans rfl, (blk_cell Ac.out 7).trans rfl, (blk_cell Ac.out 8).trans rfl, (blk_cell Ac.out 9).trans rfl⟩ (fun hHeld => ?_)
    clear hK K
    refine norm_ (a' := ?_) ?_ ?_
    rotate_left
    ·show Act.put _ (some 14) _ = _
     simp only [Act.put, List.setIfInBounds_toArray, List.set_cons_zero, List.set_cons_succ, i64_w, i32_w]
     rfl
    refine pui 3 15 37 15 HT_ ?_
    refine pui 4 16 37 31 HT_ ?_
    refine pui 5 17 37 63 HT_ ?_
    refine tki 6 18 37 127 HT_ HW_ hHeld ?_
    refine onei 7 19 37 255 HT_ (fun K hK => ?_)
    refine goes_ Try.func59 (by kernel_rfl) rfl #[.int .i64 ((rd_T52 l0 Aa).f1)] (by rfl) rfl rfl pL ?_
    with_reducible refine (raft_counts.calls ((rd_T52 l0 Aa).f1) true _ A7.out).mono ?_
    rintro e w' ⟨rfl, ⟨nd, rfl⟩⟩
    refine ⟨_, rfl, ?_⟩
    refine hK.out _ _ ⟨(blk_cell Ac.out 0).trans rfl, (blk_cell Ac.out 1).trans rfl, (blk_cell Ac.out 2).trans rfl, (blk_cell Ac.out 3).trans rfl, (blk_cell Ac.out 4).trans rfl, (blk_cell Ac.out 5).trans rfl, (blk_cell Ac.out 6).trans rfl, (blk_cell Ac.out 7).trans rfl, (blk_cell Ac.out 8).trans rfl, (blk_cell Ac.out 9).trans rfl⟩ (fun hHeld => ?_)
    clear hK K
    refine norm_ (a' := ?_) ?_ ?_
    rotate_left
    ·show Act.put _ (some 19) _ = _
     simp only [Act.put, List.setIfInBounds_toArray, List.set_cons_zero, List.set_cons_succ, i64_w, i32_w]
     rfl
    refine pui 8 20 37 511 HT_ ?_
    refine pui 9 21 37 1023 HT_ ?_
    refine pui 10 22 37 2047 HT_ ?_
    refine pui 11 23 37 4095 HT_ ?_
    refine pui 12 24 37 8191 HT_ ?_
    refine pui 13 25 37 16383 HT_ ?_
    refine pdi 14 26 37 32767 HT_ ?_
    refine pdi 15 27 37 65535 HT_ ?_
    refine pdi 16 28 37 131071 HT_ ?_
    refine pdi 17 29 37 262143 HT_ ?_
    refine pdi 18 30 37 524287 HT_ ?_
    refine pdi 19 31 37 1048575 HT_ ?_
    refine pdi 20 32 37 2097151 HT_ ?_
    refine pdi 21 33 37 4194303 HT_ ?_
    refine pdi 22 34 37 8388607 HT_ ?_
    refine pdi 23 35 37 16777215 HT_ ?_
    refine pdi 24 36 37 33554431 HT_ ?_
    refine pdi 25 37 37 67108863 HT_ ?_
    refine pdi 26 38 37 134217727 HT_ ?_
    refine pdi 27 39 37 268435455 HT_ ?_
    refine pdi 28 40 37 536870911 HT_ ?_
    refine pdi 29 41 37 1073741823 HT_ ?_
    refine pdi 30 42 37 2147483647 HT_ ?_
    refine pdi 31 43 37 4294967295 HT_ ?_
    refine pdi 32 44 37 8589934591 HT_ ?_
    refine pdi 33 45 37 17179869183 HT_ ?_
    refine pdi 34 46 37 34359738367 HT_ ?_
    refine pui 35 47 37 68719476735 HT_ ?_
    refine pui 36 48 37 137438953471 HT_ ?_
    refine done_ (done_of HT_.out (by kernel_rfl)) ?_
    try go_wp2
    go_roundg k1
    case measure => have := HK1.out; omega
    case rel => exact ⟨(wrap64 (Aa + 1)), zr, H', ⟨by have := HK1.out; omega⟩, ⟨pE HB.out As.out⟩⟩
   rw [if_pos c9] at H
   have c9b0 : decide (0 < Aa) = true := decide_eq_true c9
   clear c9
   obtain ⟨ji10, hji10⟩ : ∃ j_ : Int, (wrap64 (Aa - 1)) = j_ := ⟨_, rfl⟩
   replace H : (if 0 ≤ (ji10) then (if (ji10) < (l0.length : Int) then (if (wrap64 (((rd_T52 l0 Aa).f0) - 1)) = ((rd_T52 l0 (ji10)).f0) then (if ((rd_T52 l0 Aa).f1) < ((rd_T52 l0 (ji10)).f1) then (none) else (raft_rows.l0 k1 l0 l0 (l0.length : Int) (wrap64 (Aa + 1)))) else (none)) else (none)) else (none)) = some r := by first | (rw [hji10] at H; exact H) | (simp only [hji10] at H ⊢; exact H)
   (try rw [hji10] at A5)
   (try rw [hji10] at A7)
   have hji10w : (IntKind.i64.wrap (Aa - 1)) = ji10 := (i64_w _).trans hji10
   obtain ⟨c11, H⟩ := zI H
   have c11b0 := decide_eq_true c11
   clear c11
   obtain ⟨c12, H⟩ := zI H
   have c12b0 := decide_eq_true c12
   clear c12
   obtain ⟨c13, H⟩ := zI H
   have c13b0 := beq_iff_eq.mpr c13
   have c13b1 := bne_eq_false_iff_eq.mpr c13
   clear c13
   obtain ⟨c14, H⟩ := zJ H
   have c14b0 := decide_eq_false c14
   clear c14
   have H' := Am H
   clear H
   have p105 : 0 ≤ (Aa : Int) := of_decide_eq_true pS
   have q105 : Aa < (l0.length : Int) := of_decide_eq_true pS
   obtain ⟨Ad, Ae, c105_5, e105, A1, A2, A3, A4, A6, A8, A9, Ba, Bb, Bc, Af, Ag⟩ := at_T52u HR0.out Aa p105 q105 HB.out
   cases e105
   have Bd := Am Ag
   have Be := Am Af
   clear Ag Af
   replace p105 := eq_true p105
   replace q105 := eq_true q105
   try go_wp2_with (first | ((with_reducible refine gate_dst (N := 4) rfl ?_); refine zE 4 #[.int .i64 0, .int .i64 0, .int .i64 0, .string (⟨#[]⟩ : ByteArray), .bool false, .slice none 0 0, .int .i64 0, .int .i64 0, .int .i64 0, .int .u32 0] 52 ?_; intro Ab hg w15 hbox hb; have Ac := Am (hbox); have Az := Am (zG hg (below_size (pB HB.out))); replace HB := Am (below_step (pB HB.out) hb); have As := Az; clear hb hbox hg; obtain ⟨_, _, _, _, _, _, _, _, _, _⟩ := bc10 Ac.out; obtain ⟨_, _, _, _, _, _, _, _, _, _⟩ := bf10 Ac.out))
   have n0_ : Aside0 (((((((((((w15.setCell ⟨Ab, 0, none⟩ (.int .i64 ((rd_T52 l0 Aa).f0))).setCell ⟨Ab, 1, none⟩ (.int .i64 ((rd_T52 l0 Aa).f1))).setCell ⟨Ab, 2, none⟩ (.int .i64 ((rd_T52 l0 Aa).f2))).setCell ⟨Ab, 3, none⟩ (.string ((rd_T52 l0 Aa).f3))).setCell ⟨Ab, 4, none⟩ (.bool ((rd_T52 l0 Aa).f4.f0))).setCell ⟨Ab, 5, none⟩ (.slice Ae ((rd_T52 l0 Aa).f4.f1).length c105_5)).setCell ⟨Ab, 6, none⟩ (.int .i64 ((rd_T52 l0 Aa).f4.f2.f0))).setCell ⟨Ab, 7, none⟩ (.int .i64 ((rd_T52 l0 Aa).f4.f2.f1))).setCell ⟨Ab, 8, none⟩ (.int .i64 ((rd_T52 l0 Aa).f4.f2.f2))).setCell ⟨Ab, 9, none⟩ (.int .u32 ((rd_T52 l0 Aa).f4.f2.f3))).heap[Ab]? = some (.cells #[.int .i64 ((rd_T52 l0 Aa).f0), .int .i64 ((rd_T52 l0 Aa).f1), .int .i64 ((rd_T52 l0 Aa).f2), .string ((rd_T52 l0 Aa).f3), .bool ((rd_T52 l0 Aa).f4.f0), .slice Ae ((rd_T52 l0 Aa).f4.f1).length c105_5, .int .i64 ((rd_T52 l0 Aa).f4.f2.f0), .int .i64 ((rd_T52 l0 Aa).f4.f2.f1), .int .i64 ((rd_T52 l0 Aa).f4.f2.f2), .int .u32 ((rd_T52 l0 Aa).f4.f2.f3)] 52 (0, 0))) := ⟨kX0 Ac.out⟩
   have n1_ : Aside0 (Below w.heap.size w ((((((((((w15.setCell ⟨Ab, 0, none⟩ (.int .i64 ((rd_T52 l0 Aa).f0))).setCell ⟨Ab, 1, none⟩ (.int .i64 ((rd_T52 l0 Aa).f1))).setCell ⟨Ab, 2, none⟩ (.int .i64 ((rd_T52 l0 Aa).f2))).setCell ⟨Ab, 3, none⟩ (.string ((rd_T52 l0 Aa).f3))).setCell ⟨Ab, 4, none⟩ (.bool ((rd_T52 l0 Aa).f4.f0))).setCell ⟨Ab, 5, none⟩ (.slice Ae ((rd_T52 l0 Aa).f4.f1).length c105_5)).setCell ⟨Ab, 6, none⟩ (.int .i64 ((rd_T52 l0 Aa).f4.f2.f0))).setCell ⟨Ab, 7, none⟩ (.int .i64 ((rd_T52 l0 Aa).f4.f2.f1))).setCell ⟨Ab, 8, none⟩ (.int .i64 ((rd_T52 l0 Aa).f4.f2.f2))).setCell ⟨Ab, 9, none⟩ (.int .u32 ((rd_T52 l0 Aa).f4.f2.f3)))) := ⟨pE HB.out As.out⟩
   (try clear Ac)
   (try clear HB)
   generalize ((((((((((w15.setCell ⟨Ab, 0, none⟩ (.int .i64 ((rd_T52 l0 Aa).f0))).setCell ⟨Ab, 1, none⟩ (.int .i64 ((rd_T52 l0 Aa).f1))).setCell ⟨Ab, 2, none⟩ (.int .i64 ((rd_T52 l0 Aa).f2))).setCell ⟨Ab, 3, none⟩ (.string ((rd_T52 l0 Aa).f3))).setCell ⟨Ab, 4, none⟩ (.bool ((rd_T52 l0 Aa).f4.f0))).setCell ⟨Ab, 5, none⟩ (.slice Ae ((rd_T52 l0 Aa).f4.f1).length c105_5)).setCell ⟨Ab, 6, none⟩ (.int .i64 ((rd_T52 l0 Aa).f4.f2.f0))).setCell ⟨Ab, 7, none⟩ (.int .i64 ((rd_T52 l0 Aa).f4.f2.f1))).setCell ⟨Ab, 8, none⟩ (.int .i64 ((rd_T52 l0 Aa).f4.f2.f2))).setCell ⟨Ab, 9, none⟩ (.int .u32 ((rd_T52 l0 Aa).f4.f2.f3))) = w17 at n0_ n1_ ⊢
   have Ac := n0_
   have HB := n1_
   clear n0_ n1_
   replace Ac := kDa Ac
   replace HB := bDa HB
   have p109 : 0 ≤ ((ji10) : Int) := of_decide_eq_true pS
   have q109 : (ji10) < (l0.length : Int) := of_decide_eq_true pS
   obtain ⟨B0, Bz, c109_5, e109, Bf, Bg, Bh, Bi, Bj, At, Bk, Bl, Bm, Bn, Au, Av, Ah, Ai, Aj, Ak, Al, An, Ao, Ap, Aq, Ar⟩ := at_T52w HR0.out (ji10) p109 q109 HB.out
   obtain rfl : Ad = B0 := (by injection e109)
   have Bo := Am Av
   have HC109_5 := Am Au
   clear Av Au
   replace p109 := eq_true p109
   replace q109 := eq_true q109
   have p110 : 0 ≤ ((ji10) : Int) := of_decide_eq_true pS
   have q110 : (ji10) < (l0.length : Int) := of_decide_eq_true pS
   obtain ⟨B1, A110_5, c110_5, e110, Bp, Bq, Br, Bs, Bt, Aw, Bu, Bv, Bw, Bx, Ax, Ay⟩ := at_T52u HR0.out (ji10) p110 q110 HB.out
   obtain rfl : Ad = B1 := (by injection e110)
   have By := Am Ay
   have HC110_5 := Am Ax
   clear Ay Ax
   replace p110 := eq_true p110
   replace q110 := eq_true q110
   have ea_ := Option.some.inj (At.symm.trans Aw)
   injection ea_ with ea_ en_ ec_
   subst ea_
   subst ec_
   clear en_
   refine start_ (n := 37) (S := fun w' => cG w' Ab 0 (.int .i64 ((rd_T52 l0 Aa).f0)) ∧ cG w' Ab 1 (.int .i64 ((rd_T52 l0 Aa).f1)) ∧ cG w' Ab 2 (.int .i64 ((rd_T52 l0 Aa).f2)) ∧ cG w' Ab 3 (.string ((rd_T52 l0 Aa).f3)) ∧ cG w' Ab 4 (.bool ((rd_T52 l0 Aa).f4.f0)) ∧ cG w' Ab 5 (.slice Ae ((rd_T52 l0 Aa).f4.f1).length c105_5) ∧ cG w' Ab 6 (.int .i64 ((rd_T52 l0 Aa).f4.f2.f0)) ∧ cG w' Ab 7 (.int .i64 ((rd_T52 l0 Aa).f4.f2.f1)) ∧ cG w' Ab 8 (.int .i64 ((rd_T52 l0 Aa).f4.f2.f2)) ∧ cG w' Ab 9 (.int .u32 ((rd_T52 l0 Aa).f4.f2.f3)) ∧ w'.cell? (Ad.add (((ji10)).toNat * 10)) = some (.int .i64 ((rd_T52 l0 (ji10)).f0)) ∧ w'.cell? ⟨(Ad.add (((ji10)).toNat * 10)).block, (Ad.add (((ji10)).toNat * 10)).off + 1, none⟩ = some (.int .i64 ((rd_T52 l0 (ji10)).f1)) ∧ w'.cell? ⟨(Ad.add (((ji10)).toNat * 10)).block, (Ad.add (((ji10)).toNat * 10)).off + 2, none⟩ = some (.int .i64 ((rd_T52 l0 (ji10)).f2)) ∧ w'.cell? ⟨(Ad.add (((ji10)).toNat * 10)).block, (Ad.add (((ji10)).toNat * 10)).off + 3, none⟩ = some (.string ((rd_T52 l0 (ji10)).f3)) ∧ w'.cell? ⟨(Ad.add (((ji10)).toNat * 10)).block, (Ad.add (((ji10)).toNat * 10)).off + 4, none⟩ = some (.bool ((rd_T52 l0 (ji10)).f4.f0)) ∧ w'.cell? ⟨(Ad.add (((ji10)).toNat * 10)).block, (Ad.add (((ji10)).toNat * 10)).off + 5, none⟩ = some (.slice Bz ((rd_T52 l0 (ji10)).f4.f1).length c109_5) ∧ w'.cell? ⟨(Ad.add (((ji10)).toNat * 10)).block, (Ad.add (((ji10)).toNat * 10)).off + 6, none⟩ = some (.int .i64 ((rd_T52 l0 (ji10)).f4.f2.f0)) ∧ w'.cell? ⟨(Ad.add (((ji10)).toNat * 10)).block, (Ad.add (((ji10)).toNat * 10)).off + 7, none⟩ = some (.int .i64 ((rd_T52 l0 (ji10)).f4.f2.f1)) ∧ w'.cell? ⟨(Ad.add (((ji10)).toNat * 10)).block, (Ad.add (((ji10)).toNat * 10)).off + 8, none⟩ = some (.int .i64 ((rd_T52 l0 (ji10)).f4.f2.f2)) ∧ w'.cell? ⟨(Ad.add (((ji10)).toNat * 10)).block, (Ad.add (((ji10)).toNat * 10)).off + 9, none⟩ = some (.int .u32 ((rd_T52 l0 (ji10)).f4.f2.f3))) (ds := []) #[false, false, false, false, false, false, false, false, false, false, false, false, false, false, false, false, false, false, false, false, false, false, false, false, false, false, false, false, false, false, false, false, false, false, false, false, false] (by kernel_rfl) rfl rfl ⟨(blk_cell Ac.out 0).trans rfl, (blk_cell Ac.out 1).trans rfl, (blk_cell Ac.out 2).trans rfl, (blk_cell Ac.out 3).trans rfl, (blk_cell Ac.out 4).trans rfl, (blk_cell Ac.out 5).trans rfl, (blk_cell Ac.out 6).trans rfl, (blk_cell Ac.out 7).trans rfl, (blk_cell Ac.out 8).trans rfl, (blk_cell Ac.out 9).trans rfl, (cT HB.out Ah), (cT HB.out Ai), (cT HB.out Aj), (cT HB.out Ak), (cT HB.out Al), (cT HB.out An), (cT HB.out Ao), (cT HB.out Ap), (cT HB.out Aq), (cT HB.out Ar)⟩ (fun hHeld => ?_); refine with_tabW raft_rows.tab4 raft_rows.bits4 (fun HT_ HW_ => ?_)
   generalize w17.drew = w18 at Ac HB Bo By Bf Bg Bh Bi Bj At Bk Bl Bm Bn Bp Bq Br Bs Bt Aw Bu Bv Bw Bx hHeld ⊢
   refine pui 0 12 37 1 HT_ ?_
   refine tki 1 13 37 3 HT_ HW_ hHeld ?_
   refine onei 2 14 37 7 HT_ (fun K hK => ?_)
   refine goes_ Try.func59 (by kernel_rfl) rfl #[.int .i64 ((rd_T52 l0 Aa).f0)] (by rfl) rfl rfl pL ?_
   with_reducible refine (raft_counts.calls ((rd_T52 l0 Aa).f0) true _ A5.out).mono ?_
   rintro e w' ⟨rfl, ⟨nd, rfl⟩⟩
   refine ⟨_, rfl, ?_⟩
   refine hK.out _ _ ⟨(blk_cell Ac.out 0).trans rfl, (blk_cell Ac.out 1).trans rfl, (blk_cell Ac.out 2).trans rfl, (blk_cell Ac.out 3).trans rfl, (blk_cell Ac.out 4).trans rfl, (blk_cell Ac.out 5).trans rfl, (blk_cell Ac.out 6).trans rfl, (blk_cell Ac.out 7).trans rfl, (blk_cell Ac.out 8).trans rfl, (blk_cell Ac.out 9).trans rfl, (cT HB.out Ah), (cT HB.out Ai), (cT HB.out Aj), (cT HB.out Ak), (cT HB.out Al), (cT HB.out An), (cT HB.out Ao), (cT HB.out Ap), (cT HB.out Aq), (cT HB.out Ar)⟩ (fun hHeld => ?_)
   clear hK K
   refine norm_ (a' := ?_) ?_ ?_
   rotate_left
   ·show Act.put _ (some 14) _ = _
    simp only [Act.put, List.setIfInBounds_toArray, List.set_cons_zero, List.set_cons_succ, i64_w, i32_w]
    rfl
   refine pui 3 15 37 15 HT_ ?_
   refine pui 4 16 37 31 HT_ ?_
   refine pui 5 17 37 63 HT_ ?_
   refine tki 6 18 37 127 HT_ HW_ hHeld ?_
   refine onei 7 19 37 255 HT_ (fun K hK => ?_)
   refine goes_ Try.func59 (by kernel_rfl) rfl #[.int .i64 ((rd_T52 l0 Aa).f1)] (by rfl) rfl rfl pL ?_
   with_reducible refine (raft_counts.calls ((rd_T52 l0 Aa).f1) true _ A7.out).mono ?_
   rintro e w' ⟨rfl, ⟨nd, rfl⟩⟩
   refine ⟨_, rfl, ?_⟩
   refine hK.out _ _ ⟨(blk_cell Ac.out 0).trans rfl, (blk_cell Ac.out 1).trans rfl, (blk_cell Ac.out 2).trans rfl, (blk_cell Ac.out 3).trans rfl, (blk_cell Ac.out 4).trans rfl, (blk_cell Ac.out 5).trans rfl, (blk_cell Ac.out 6).trans rfl, (blk_cell Ac.out 7).trans rfl, (blk_cell Ac.out 8).trans rfl, (blk_cell Ac.out 9).trans rfl, (cT HB.out Ah), (cT HB.out Ai), (cT HB.out Aj), (cT HB.out Ak), (cT HB.out Al), (cT HB.out An), (cT HB.out Ao), (cT HB.out Ap), (cT HB.out Aq), (cT HB.out Ar)⟩ (fun hHeld => ?_)
   clear hK K
   refine norm_ (a' := ?_) ?_ ?_
   rotate_left
   ·show Act.put _ (some 19) _ = _
    simp only [Act.put, List.setIfInBounds_toArray, List.set_cons_zero, List.set_cons_succ, i64_w, i32_w]
    rfl
   refine pui 8 20 37 511 HT_ ?_
   refine pui 9 21 37 1023 HT_ ?_
   refine pui 10 22 37 2047 HT_ ?_
   refine pui 11 23 37 4095 HT_ ?_
   refine pui 12 24 37 8191 HT_ ?_
   refine pui 13 25 37 16383 HT_ ?_
   refine pui 14 26 37 32767 HT_ ?_
   refine pui 17 29 37 163839 HT_ ?_
   refine pui 18 30 37 425983 HT_ ?_
   refine pui 19 31 37 950271 HT_ ?_
   refine pui 20 32 37 1998847 HT_ ?_
   refine pui 21 33 37 4095999 HT_ ?_
   refine tki 15 27 37 4128767 HT_ HW_ hHeld ?_
   refine pui 16 28 37 4194303 HT_ ?_
   refine tki 22 34 37 8388607 HT_ HW_ hHeld ?_
   refine pui 23 35 37 16777215 HT_ ?_
   refine pui 24 36 37 33554431 HT_ ?_
   refine pui 25 37 37 67108863 HT_ ?_
   refine pui 27 39 37 201326591 HT_ ?_
   refine pui 28 40 37 469762047 HT_ ?_
   refine pui 29 41 37 1006632959 HT_ ?_
   refine pui 30 42 37 2080374783 HT_ ?_
   refine pui 31 43 37 4227858431 HT_ ?_
   refine tki 26 38 37 4294967295 HT_ HW_ hHeld ?_
   refine tki 32 44 37 8589934591 HT_ HW_ hHeld ?_
   refine pui 33 45 37 17179869183 HT_ ?_
   refine pui 34 46 37 34359738367 HT_ ?_
   refine pui 35 47 37 68719476735 HT_ ?_
   refine pui 36 48 37 137438953471 HT_ ?_
   refine done_ (done_of HT_.out (by kernel_rfl)) ?_
   try go_wp2
   go_roundg k1
   case measure => have := HK1.out; omega
   case rel => exact ⟨(wrap64 (Aa + 1)), zr, H', ⟨by have := HK1.out; omega⟩, ⟨pE HB.out As.out⟩⟩
def raft_Check.j0 : Nat → Bool → Int → Int → List (S52) → Int → Int → Int → Int → Option (Int)
 | 0, _, _, _, _, _, _, _, _ => none
 | k + 1, x64, x112000, x112001, x112002, x112003, x112004, x112005, x112006 => if x64 = true then (none) else (if x112006 < x112000 then (none) else (if x112006 > x112005 then (none) else (if x112005 > (wrap64 (x112000 + (x112002.length : Int))) then (none) else (some 0))))
def raft_Check.f (k : Nat) (a0_0 : Int) (a0_1 : Int) (l0_2 : List (S52)) (a0_3 : Int) (a0_4 : Int) (a0_5 : Int) (a0_6 : Int) : Option (Int) := if a0_0 = 0 then (if a0_1 = 0 then (if (l0_2.length : Int) > 1000 then (none) else ((raft_rows.f k l0_2).bind fun t112 => (if t112 = true then ((hard_Check.f a0_3 a0_4 a0_5).bind fun t113 => (if t113 = 0 then (if (l0_2.length : Int) > 0 then (if 0 < (l0_2.length : Int) then (if ((rd_T52 l0_2 0).f0) = (wrap64 (a0_0 + 1)) then (raft_Check.j0 k (decide (((rd_T52 l0_2 0).f1) < a0_1)) a0_0 a0_1 l0_2 a0_3 a0_4 a0_5 a0_6) else (none)) else (none)) else (raft_Check.j0 k false a0_0 a0_1 l0_2 a0_3 a0_4 a0_5 a0_6)) else (none))) else (none)))) else (none)) else (none)
theorem raft_Check.mono_l : ∀ k, (∀ y0 y1 y2 y3 y4 y5 y6 y7, LeO (raft_Check.j0 k y0 y1 y2 y3 y4 y5 y6 y7) (raft_Check.j0 (k + 1) y0 y1 y2 y3 y4 y5 y6 y7))
 | 0 => fun _ _ _ _ _ _ _ _ r h => by simp [raft_Check.j0] at h
 | k + 1 => by
  have ih0 := raft_Check.mono_l k
  ·intro y0 y1 y2 y3 y4 y5 y6 y7
   unfold raft_Check.j0
   repeat' (with_reducible first | exact ih0 .. | exact raft_rows.mono .. | exact LeO.refl .. | exact LeO.none .. | refine LeO.ite ?_ ?_ | refine LeO.bind ?_ (fun _ => ?_))
theorem raft_Check.mono : ∀ a0 a1 a2 a3 a4 a5 a6 k, LeO (raft_Check.f k a0 a1 a2 a3 a4 a5 a6) (raft_Check.f (k + 1) a0 a1 a2 a3 a4 a5 a6) := by
 intro a0 a1 a2 a3 a4 a5 a6 k
 have ih0 := raft_Check.mono_l k
 unfold raft_Check.f
 repeat' (with_reducible first | exact ih0 .. | exact raft_rows.mono .. | exact LeO.refl .. | exact LeO.none .. | refine LeO.ite ?_ ?_ | refine LeO.bind ?_ (fun _ => ?_))
set_option maxHeartbeats 8000000 in
set_option maxRecDepth 100000 in
theorem raft_Check.calls (k : Nat) (a0_0 : Int) (a0_1 : Int) (A0_2 : Option Addr) (c0_2 : Nat) (l0_2 : List (S52)) (a0_3 : Int) (a0_4 : Int) (a0_5 : Int) (a0_6 : Int) (r : Int) (w : World) (hr0_2 : Kd.C k52 w A0_2 l0_2.length l0_2) (hc0_2 : l0_2.length ≤ c0_2) (h : raft_Check.f k a0_0 a0_1 l0_2 a0_3 a0_4 a0_5 a0_6 = some r) :
 Calls Try.prog 37 #[.agg #[.int .i64 a0_0, .int .i64 a0_1, .slice A0_2 l0_2.length c0_2, .int .i64 a0_3, .int .i64 a0_4, .int .i64 a0_5, .int .i64 a0_6]] w fun e w' => e = .returned (.int .i64 r) ∧ Below w.heap.size w w' := by
 have hu54 := Try.underlying54
 have hu28 := Try.underlying28
 have A8 := Am hr0_2
 have Bj := Am hc0_2
 clear hr0_2 hc0_2
 have HB := Am (Below.refl w.heap.size w)
 unfold raft_Check.f at h
 have H := h
 clear h
 obtain ⟨c2, H⟩ := zI H
 have c2b0 := beq_iff_eq.mpr c2
 have c2b1 := bne_eq_false_iff_eq.mpr c2
 clear c2
 obtain ⟨c3, H⟩ := zI H
 have c3b0 := beq_iff_eq.mpr c3
 have c3b1 := bne_eq_false_iff_eq.mpr c3
 clear c3
 obtain ⟨c4, H⟩ := zJ H
 have c4b0 : decide (1000 < (l0_2.length : Int)) = false := decide_eq_false c4
 have c4b1 : decide (1000 < l0_2.length) = false := decide_eq_false (by omega)
 clear c4
 replace H := Option.bind_eq_some_iff.mp H
 obtain ⟨t112, A50, H⟩ := H
 have A5 := Am A50
 clear A50
 by_cases c6 : t112 = true
 rotate_left
 ·replace c6 := Bool.eq_false_iff.mpr c6
  subst c6
  rw [if_neg zF] at H
  exact absurd H (by simp)
 subst c6
 rw [if_pos rfl] at H
 replace H := Option.bind_eq_some_iff.mp H
 obtain ⟨t113, A70, H⟩ := H
 have A7 := Am A70
 clear A70
 obtain ⟨c8, H⟩ := zI H
 have c8b0 := beq_iff_eq.mpr c8
 have c8b1 := bne_eq_false_iff_eq.mpr c8
 clear c8
 have HC9 := Am H
 clear H
 go_enter Try.func37, Try.ntmps37
 go_upto_region 3 with (first | ((with_reducible refine gate_dst (N := 1) rfl ?_); (try (refine gate_guard (by rfl) ?_; dsimp only)); refine zE 1 #[.int .i64 a0_0, .int .i64 a0_1, .slice A0_2 l0_2.length c0_2, .int .i64 a0_3, .int .i64 a0_4, .int .i64 a0_5, .int .i64 a0_6] 54 ?_; intro Ac hg w10 hbox hb; have Aa := Am (hbox); have A9 := Am (zG hg (below_size (pB HB.out))); replace HB := Am (below_step (pB HB.out) hb); have Ab := A9; clear hb hbox hg; obtain ⟨Ad, Ae, Af, Ag, Ah, Ai, Aj⟩ := bc7 Aa.out; obtain ⟨Ak, Al, An, Ao, Ap, Aq, Ar⟩ := bf7 Aa.out) | (go_at_call 60; (with_reducible refine (raft_rows.calls k _ _ l0_2 true _ ?Ba ?Bb A5.out).mono ?_); (case Ba => exact pC (Kd.C_below A8.out HB.out)); (case Bb => exact Bj.out); rintro e w12 ⟨rfl, hb⟩; replace Aa := kBa Aa hb; replace HB := Am (below_step (pE HB.out Ab.out) hb); (try clear hb); (try clear hb2); (try clear hk); (try clear hi); obtain ⟨As, At, Au, Av, Aw, Ax, Ay⟩ := bc7 Aa.out; obtain ⟨Az, A0, A1, A2, A3, A4, A6⟩ := bf7 Aa.out) | (go_at_call 32; (with_reducible refine (hard_Check.calls a0_3 a0_4 a0_5 t113 _ A7.out).mono ?_); rintro e w14 ⟨rfl, hb⟩; replace Aa := kBa Aa hb; replace HB := Am (below_step (pE HB.out Ab.out) hb); (try clear hb); (try clear hb2); (try clear hk); (try clear hi)))
 repeat (go_quiet (first | ((with_reducible refine gate_dst (N := 1) rfl ?_); (try (refine gate_guard (by rfl) ?_; dsimp only)); refine zE 1 #[.int .i64 a0_0, .int .i64 a0_1, .slice A0_2 l0_2.length c0_2, .int .i64 a0_3, .int .i64 a0_4, .int .i64 a0_5, .int .i64 a0_6] 54 ?_; intro Ac hg w10 hbox hb; have Aa := Am (hbox); have A9 := Am (zG hg (below_size (pB HB.out))); replace HB := Am (below_step (pB HB.out) hb); have Ab := A9; clear hb hbox hg; obtain ⟨Ad, Ae, Af, Ag, Ah, Ai, Aj⟩ := bc7 Aa.out; obtain ⟨Ak, Al, An, Ao, Ap, Aq, Ar⟩ := bf7 Aa.out) | (go_at_call 60; (with_reducible refine (raft_rows.calls k _ _ l0_2 true _ ?Ba ?Bb A5.out).mono ?_); (case Ba => exact pC (Kd.C_below A8.out HB.out)); (case Bb => exact Bj.out); rintro e w12 ⟨rfl, hb⟩; replace Aa := kBa Aa hb; replace HB := Am (below_step (pE HB.out Ab.out) hb); (try clear hb); (try clear hb2); (try clear hk); (try clear hi); obtain ⟨As, At, Au, Av, Aw, Ax, Ay⟩ := bc7 Aa.out; obtain ⟨Az, A0, A1, A2, A3, A4, A6⟩ := bf7 Aa.out) | (go_at_call 32; (with_reducible refine (hard_Check.calls a0_3 a0_4 a0_5 t113 _ A7.out).mono ?_); rintro e w14 ⟨rfl, hb⟩; replace Aa := kBa Aa hb; replace HB := Am (below_step (pE HB.out Ab.out) hb); (try clear hb); (try clear hb2); (try clear hk); (try clear hi))); go_upto_region 3 with (first | ((with_reducible refine gate_dst (N := 1) rfl ?_); (try (refine gate_guard (by rfl) ?_; dsimp only)); refine zE 1 #[.int .i64 a0_0, .int .i64 a0_1, .slice A0_2 l0_2.length c0_2, .int .i64 a0_3, .int .i64 a0_4, .int .i64 a0_5, .int .i64 a0_6] 54 ?_; intro Ac hg w10 hbox hb; have Aa := Am (hbox); have A9 := Am (zG hg (below_size (pB HB.out))); replace HB := Am (below_step (pB HB.out) hb); have Ab := A9; clear hb hbox hg; obtain ⟨Ad, Ae, Af, Ag, Ah, Ai, Aj⟩ := bc7 Aa.out; obtain ⟨Ak, Al, An, Ao, Ap, Aq, Ar⟩ := bf7 Aa.out) | (go_at_call 60; (with_reducible refine (raft_rows.calls k _ _ l0_2 true _ ?Ba ?Bb A5.out).mono ?_); (case Ba => exact pC (Kd.C_below A8.out HB.out)); (case Bb => exact Bj.out); rintro e w12 ⟨rfl, hb⟩; replace Aa := kBa Aa hb; replace HB := Am (below_step (pE HB.out Ab.out) hb); (try clear hb); (try clear hb2); (try clear hk); (try clear hi); obtain ⟨As, At, Au, Av, Aw, Ax, Ay⟩ := bc7 Aa.out; obtain ⟨Az, A0, A1, A2, A3, A4, A6⟩ := bf7 Aa.out) | (go_at_call 32; (with_reducible refine (hard_Check.calls a0_3 a0_4 a0_5 t113 _ A7.out).mono ?_); rintro e w14 ⟨rfl, hb⟩; replace Aa := kBa Aa hb; replace HB := Am (below_step (pE HB.out Ab.out) hb); (try clear hb); (try clear hb2); (try clear hk); (try clear hi))))
 (try simp only [Act.put, List.setIfInBounds_toArray, List.set_cons_zero, List.set_cons_succ])
 go_cut [64] (fun v64 wc => ∃ (kq : Nat) (Bc : Bool), v64 = .bool Bc ∧ Aside0 (raft_Check.j0 kq Bc a0_0 a0_1 l0_2 a0_3 a0_4 a0_5 a0_6 = some r) ∧ Aside0 (kq ≤ k) ∧ Aside0 (wc.heap[Ac]? = some (.cells #[.int .i64 a0_0, .int .i64 a0_1, (.slice A0_2 l0_2.length c0_2), .int .i64 a0_3, .int .i64 a0_4, .int .i64 a0_5, .int .i64 a0_6] 54 (0, 0))) ∧ Aside0 (Below w.heap.size w wc))
 case first =>
  have H := HC9.out
  clear HC9
  by_cases c15 : (l0_2.length : Int) > 0
  rotate_left
  ·rw [if_neg c15] at H
   have c15b0 : decide (0 < (l0_2.length : Int)) = false := decide_eq_false c15
   have c15b1 : decide (0 < l0_2.length) = false := decide_eq_false (by omega)
   clear c15
   (first | rw [c15b0] | (simp only [i64_w, i32_w]; rw [c15b0]) | skip)
   have H' := Am H
   clear H
   obtain ⟨Cg, Ch, Ci, Cj, Ck, Cl, Cm⟩ := bc7 Aa.out
   obtain ⟨Cn, Co, Cp, Cq, Cr, Cs, Ct⟩ := bf7 Aa.out
   go_wp2
   repeat (go_quiet (fail); try go_wp2)
   go_meet
   case rel => exact ⟨_, (false), zr, H', ⟨zo⟩, ⟨pK Aa.out⟩, ⟨pE HB.out Ab.out⟩⟩
  rw [if_pos c15] at H
  have c15b0 : decide (0 < (l0_2.length : Int)) = true := decide_eq_true c15
  have c15b1 : decide (0 < l0_2.length) = true := decide_eq_true (by omega)
  clear c15
  (first | rw [c15b0] | (simp only [i64_w, i32_w]; rw [c15b0]) | skip)
  obtain ⟨c16, H⟩ := zI H
  have c16b0 := decide_eq_true c16
  have c16b1 : decide (0 < l0_2.length) = true := decide_eq_true (by omega)
  clear c16
  obtain ⟨c17, H⟩ := zI H
  have c17b0 := beq_iff_eq.mpr c17
  have c17b1 := bne_eq_false_iff_eq.mpr c17
  clear c17
  have H' := Am H
  clear H
  obtain ⟨Bk, Bl, Bm, Bn, Bo, Bp, Bq⟩ := bc7 Aa.out
  obtain ⟨Br, Bs, Bt, Bu, Bv, Bw, Bx⟩ := bf7 Aa.out
  have p114 : 0 ≤ (0 : Int) := (by omega)
  have q114 : 0 < (l0_2.length : Int) := of_decide_eq_true pS
  obtain ⟨Cu, A114_5, c114_5, e114, By, Bz, B0, B1, B2, Bd, B3, B4, B5, B6, Be, Bf⟩ := at_T52uz A8.out p114 q114 HB.out
  cases e114
  have qi114 : (0 < l0_2.length) = True := eq_true (by omega)
  have HR114_5 := Am Bf
  have HC114_5 := Am Be
  clear Bf Be
  replace p114 := eq_true p114
  replace q114 := eq_true q114
  have p115 : 0 ≤ (0 : Int) := (by omega)
  have q115 : 0 < (l0_2.length : Int) := of_decide_eq_true pS
  obtain ⟨Cv, A115_5, c115_5, e115, B7, B8, B9, Ca, Cb, Bg, Cc, Cd, Ce, Cf, Bh, Bi⟩ := at_T52uz A8.out p115 q115 HB.out
  obtain rfl : Cu = Cv := (by injection e115)
  have qi115 : (0 < l0_2.length) = True := eq_true (by omega)
  have HR115_5 := Am Bi
  have HC115_5 := Am Bh
  clear Bi Bh
  replace p115 := eq_true p115
  replace q115 := eq_true q115
  have ea_ := Option.some.inj (Bd.symm.trans Bg)
  injection ea_ with ea_ en_ ec_
  subst ea_
  subst ec_
  clear en_
  go_wp2
  repeat (go_quiet (fail); try go_wp2)
  go_meet
  case rel => exact ⟨_, (decide (((rd_T52 l0_2 0).f1) < a0_1)), zr, H', ⟨zo⟩, ⟨pK Aa.out⟩, ⟨pE HB.out Ab.out⟩⟩
 case rest =>
  clear HC9
  try clear c1
  try clear p1
  try clear q1
  try clear hx1
  try clear qi1
  try clear c2
  try clear c2b0
  try clear c2b1
  try clear p2
  try clear c3
  try clear c3b0
  try clear c3b1
  try clear c4
  try clear c4b0
  try clear c4b1
  try clear c6
  try clear p6
  try clear c8
  try clear c8b0
  try clear c8b1
  try clear c11
  try clear p11
  try clear q11
  try clear hx11
  try clear qi11
  try clear c15
  try clear c15b0
  try clear c15b1
  try clear c16
  try clear c16b0
  try clear c16b1
  try clear c17
  try clear c17b0
  try clear c17b1
  try clear Ad Ae Af Ag Ah Ai Aj
  try clear As At Au Av Aw Ax Ay
  try clear Bk Bl Bm Bn Bo Bp Bq
  try clear Cg Ch Ci Cj Ck Cl Cm
  try clear Ak Al An Ao Ap Aq Ar
  try clear Az A0 A1 A2 A3 A4 A6
  try clear Br Bs Bt Bu Bv Bw Bx
  try clear Cn Co Cp Cq Cr Cs Ct
  try clear By
  try clear Bz
  try clear B0
  try clear B1
  try clear B2
  try clear Bd
  try clear B3
  try clear B4
  try clear B5
  try clear B6
  try clear B7
  try clear B8
  try clear B9
  try clear Ca
  try clear Cb
  try clear Bg
  try clear Cc
  try clear Cd
  try clear Ce
  try clear Cf
  try clear p114
  try clear p115
  try clear q114
  try clear q115
  obtain ⟨kq, Bc, rfl, HA, HJ8, Aa, HB⟩ := hcut
  cases kq with
  | zero => exact absurd HA.out (by simp [raft_Check.j0])
  | succ kj8 =>
   have H := HA.out
   clear HA
   simp only [raft_Check.j0] at H
   by_cases c20 : Bc = true
   ·subst c20
    rw [if_pos rfl] at H
    exact absurd H (by simp)
   replace c20 := Bool.eq_false_iff.mpr c20
   subst c20
   rw [if_neg zF] at H
   obtain ⟨c21, H⟩ := zJ H
   have c21b0 := decide_eq_false c21
   clear c21
   obtain ⟨c22, H⟩ := zJ H
   have c22b0 : decide (a0_5 < a0_6) = false := decide_eq_false c22
   clear c22
   obtain ⟨c23, H⟩ := zJ H
   have c23b0 : decide ((wrap64 (a0_0 + (l0_2.length : Int))) < a0_5) = false := decide_eq_false c23
   clear c23
   obtain rfl := Option.some.inj H
   obtain ⟨_, _, _, _, _, _, _⟩ := bc7 Aa.out
   obtain ⟨_, _, _, _, _, _, _⟩ := bf7 Aa.out
   go_wp2
   repeat (go_quiet (fail); try go_wp2)
   go_ret
   exact ⟨pX, pE HB.out Ab.out⟩
def bytes_Equal.f (l0 : List Int) (l1 : List Int) : Option (Bool) := some ((strOfNums l0).toList == (strOfNums l1).toList)
set_option maxHeartbeats 8000000 in
set_option maxRecDepth 100000 in
theorem bytes_Equal.calls (A0 : Option Addr) (c0 : Nat) (l0 : List Int) (A1 : Option Addr) (c1 : Nat) (l1 : List Int) (r : Bool) (w : World) (hr0 : Kd.C (Kd.int .u8) w A0 l0.length l0) (hc0 : l0.length ≤ c0) (hr1 : Kd.C (Kd.int .u8) w A1 l1.length l1) (hc1 : l1.length ≤ c1) (h : bytes_Equal.f l0 l1 = some r) :
 Calls Try.prog 68 #[.slice A0 l0.length c0, .slice A1 l1.length c1] w fun e w' => e = .returned (.bool r) ∧ Drawn0 w w' := by
 have HR0 := Am hr0
 have HC0 := Am hc0
 clear hr0 hc0
 have HR1 := Am hr1
 have HC1 := Am hc1
 clear hr1 hc1
 unfold bytes_Equal.f at h
 have H := h
 clear h
 obtain rfl := Option.some.inj H
 have hcv3 := Kd.C_string (P := Try.prog) (A := A0) (c := c0) Try.underlying22 Try.underlying5 Try.underlying9 HR0.out
 have hcv4 := Kd.C_string (P := Try.prog) (A := A1) (c := c1) Try.underlying22 Try.underlying5 Try.underlying9 HR1.out
 go_enter Try.func68, Try.ntmps68
 go_wp2
 go_ret
 exact ⟨zr, zd⟩
end Go.Proofs.Ytdanmjfkocjgjaa.PWalGets
