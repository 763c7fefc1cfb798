/- What the law reaches, as plain Lean functions, and that the machine's calls answer just that. -/
import Derived.Test.YtdanmjfkocjgjaaPWalPutsx0
namespace Go.Proofs.Ytdanmjfkocjgjaa.PWalPuts
open Go.RowKit Go.Proofs.YtdanmjfkocjgjaaW.PrintWords Go.Proofs.YtdanmjfkocjgjaaW.PrintLast Go.Proofs.YtdanmjfkocjgjaaW.PrintMore
set_option linter.unusedVariables false
set_option linter.unusedSimpArgs false
section
attribute [local go_sem] max2_int min2_int max_two min_two max_three min_three max_four min_four
attribute [local go_sem] wrap64_l1 wrap64_l2 wrap64_l3 wrap64_l4 wrap64_l5
theorem eqA28 (d : Nat) (w : World) (x0 y0 : Int) (x1 y1 : Int) (x2 y2 : Int) :
 (Op.equalIn (d + 2) 28 (.agg #[.int .i64 x0, .int .i64 x1, .int .i64 x2]) (.agg #[.int .i64 y0, .int .i64 y1, .int .i64 y2])).run Try.prog w = .ok (x0 == y0 && (x1 == y1 && (x2 == y2))) w := by
 refine eqA_of Try.underlying28 (by kernel_rfl) ?_
 refine eqf_cons (by rfl) (by go_simp; rfl) (by go_simp; rfl) (by go_simp) ?_
 refine eqf_cons (by rfl) (by go_simp; rfl) (by go_simp; rfl) (by go_simp) ?_
 exact eqf_last (by rfl) (by go_simp; rfl) (by go_simp; rfl) (by go_simp)
end
section
attribute [local go_sem] max2_int min2_int max_two min_two max_three min_three max_four min_four
attribute [local go_sem] wrap64_l1 wrap64_l2 wrap64_l3 wrap64_l4 wrap64_l5
theorem eqA48 (d : Nat) (w : World) (x0 y0 : Int) (x1 y1 : Int) (x2 y2 : Int) (x3 y3 : Int) :
 (Op.equalIn (d + 2) 48 (.agg #[.int .i64 x0, .int .i64 x1, .int .i64 x2, .int .u32 x3]) (.agg #[.int .i64 y0, .int .i64 y1, .int .i64 y2, .int .u32 y3])).run Try.prog w = .ok (x0 == y0 && (x1 == y1 && (x2 == y2 && (x3 == y3)))) w := by
 refine eqA_of Try.underlying48 (by kernel_rfl) ?_
 refine eqf_cons (by rfl) (by go_simp; rfl) (by go_simp; rfl) (by go_simp) ?_
 refine eqf_cons (by rfl) (by go_simp; rfl) (by go_simp; rfl) (by go_simp) ?_
 refine eqf_cons (by rfl) (by go_simp; rfl) (by go_simp; rfl) (by go_simp) ?_
 exact eqf_last (by rfl) (by go_simp; rfl) (by go_simp; rfl) (by go_simp)
end
section
attribute [local go_sem] max2_int min2_int max_two min_two max_three min_three max_four min_four
set_option maxHeartbeats 8000000
attribute [local go_sem] wrap64_l1 wrap64_l2 wrap64_l3 wrap64_l4 wrap64_l5
def hard_counts.f (a0 : Int) : Option (Bool) := if a0 ≥ 0 then (some (decide (a0 ≤ 2147483647))) else (some false)
set_option maxRecDepth 100000 in
theorem hard_counts.calls (a0 : Int) (r : Bool) (w : World) (h : hard_counts.f a0 = some r) :
 Calls Try.prog 56 #[.int .i64 a0] w fun e w' => e = .returned (.bool r) ∧ Drawn0 w w' := by
 unfold hard_counts.f at h
 have H := h
 clear h
 by_cases c2 : a0 ≥ 0
 ·rw [if_pos c2] at H
  have c2b0 : decide (0 ≤ a0) = true := decide_eq_true c2
  clear c2
  obtain rfl := Option.some.inj H
  go_enter Try.func56, Try.ntmps56
  go_wp2
  go_ret
  exact ⟨zr, zd⟩
 rw [if_neg c2] at H
 have c2b0 : decide (0 ≤ a0) = false := decide_eq_false c2
 clear c2
 obtain rfl := Option.some.inj H
 go_enter Try.func56, Try.ntmps56
 go_wp2
 go_ret
 exact ⟨zr, zd⟩
def hard_Check.f (a0_0 : Int) (a0_1 : Int) (a0_2 : Int) : Option (Int) := (hard_counts.f a0_0).bind fun t102 => (if t102 = true then ((hard_counts.f a0_1).bind fun t103 => (if t103 = true then ((hard_counts.f a0_2).bind fun t104 => (if t104 = true then (if a0_0 = 0 then (if a0_1 = 0 then (some 0) else (some 1)) else (some 0)) else (some 1))) else (some 1))) else (some 1))
set_option maxRecDepth 100000 in
theorem hard_Check.calls (a0_0 : Int) (a0_1 : Int) (a0_2 : Int) (r : Int) (w : World) (h : hard_Check.f a0_0 a0_1 a0_2 = some r) :
 Calls Try.prog 32 #[.agg #[.int .i64 a0_0, .int .i64 a0_1, .int .i64 a0_2]] w fun e w' => e = .returned (.int .i64 r) ∧ Below w.heap.size w w' := by
 have hu28 := Try.underlying28
 have HB := Am (Below.refl w.heap.size w)
 unfold hard_Check.f at h
 have H := h
 clear h
 obtain ⟨t102, A2, H⟩ := zb H
 by_cases c3 : t102 = true
 rotate_left
 ·replace c3 := Bool.eq_false_iff.mpr c3
  subst c3
  rw [if_neg zF] at H
  obtain rfl := Option.some.inj H
  go_enter Try.func32, Try.ntmps32
  go_wp2_with (first | ((with_reducible refine zD 1 rfl ?_); refine zE 1 #[.int .i64 a0_0, .int .i64 a0_1, .int .i64 a0_2] 28 ?_; intro Ab hg w20 hbox hb; have Aa := Am (hbox); have Ac := zA hg HB; replace HB := zB HB hb; have Ad := Ac; clear hb hbox hg; obtain ⟨_, _, _⟩ := bc3 Aa.out; obtain ⟨_, _, _⟩ := bf3 Aa.out) | ((with_reducible refine zC 56 rfl ?_); refine zL (some 5) Try.func56 #[.int .i64 a0_0] ?_; (with_reducible refine (hard_counts.calls a0_0 false _ A2.out).mono ?_); rintro e w' ⟨rfl, ⟨nd, rfl⟩⟩; refine ⟨_, rfl, ?_⟩))
  go_ret
  exact ⟨pX, pE HB.out Ad.out⟩
 subst c3
 rw [if_pos rfl] at H
 obtain ⟨t103, A4, H⟩ := zb H
 by_cases c5 : t103 = true
 rotate_left
 ·replace c5 := Bool.eq_false_iff.mpr c5
  subst c5
  rw [if_neg zF] at H
  obtain rfl := Option.some.inj H
  go_enter Try.func32, Try.ntmps32
  go_wp2_with (first | ((with_reducible refine zD 1 rfl ?_); refine zE 1 #[.int .i64 a0_0, .int .i64 a0_1, .int .i64 a0_2] 28 ?_; intro Ab hg w18 hbox hb; have Aa := Am (hbox); have Ac := zA hg HB; replace HB := zB HB hb; have Ad := Ac; clear hb hbox hg; obtain ⟨_, _, _⟩ := bc3 Aa.out; obtain ⟨_, _, _⟩ := bf3 Aa.out) | ((with_reducible refine zC 56 rfl ?_); refine zL (some 5) Try.func56 #[.int .i64 a0_0] ?_; (with_reducible refine (hard_counts.calls a0_0 true _ A2.out).mono ?_); rintro e w' ⟨rfl, ⟨nd, rfl⟩⟩; refine ⟨_, rfl, ?_⟩) | (go_at_call 56; (with_reducible refine (hard_counts.calls a0_1 false _ A4.out).mono ?_); rintro e w' ⟨rfl, ⟨nd, rfl⟩⟩))
  go_ret
  exact ⟨pX, pE HB.out Ad.out⟩
 subst c5
 rw [if_pos rfl] at H
 obtain ⟨t104, A6, H⟩ := zb H
 by_cases c7 : t104 = true
 rotate_left
 ·replace c7 := Bool.eq_false_iff.mpr c7
  subst c7
  rw [if_neg zF] at H
  obtain rfl := Option.some.inj H
  go_enter Try.func32, Try.ntmps32
  go_wp2_with (first | ((with_reducible refine zD 1 rfl ?_); refine zE 1 #[.int .i64 a0_0, .int .i64 a0_1, .int .i64 a0_2] 28 ?_; intro Ab hg w16 hbox hb; have Aa := Am (hbox); have Ac := zA hg HB; replace HB := zB HB hb; have Ad := Ac; clear hb hbox hg; obtain ⟨_, _, _⟩ := bc3 Aa.out; obtain ⟨_, _, _⟩ := bf3 Aa.out) | ((with_reducible refine zC 56 rfl ?_); refine zL (some 5) Try.func56 #[.int .i64 a0_0] ?_; (with_reducible refine (hard_counts.calls a0_0 true _ A2.out).mono ?_); rintro e w' ⟨rfl, ⟨nd, rfl⟩⟩; refine ⟨_, rfl, ?_⟩) | (go_at_call 56; (with_reducible refine (hard_counts.calls a0_1 true _ A4.out).mono ?_); rintro e w' ⟨rfl, ⟨nd, rfl⟩⟩) | (go_at_call 56; (with_reducible refine (hard_counts.calls a0_2 false _ A6.out).mono ?_); rintro e w' ⟨rfl, ⟨nd, rfl⟩⟩))
  go_ret
  exact ⟨pX, pE HB.out Ad.out⟩
 subst c7
 rw [if_pos rfl] at H
 by_cases c8 : a0_0 = 0
 rotate_left
 ·rw [if_neg c8] at H
  obtain ⟨c8b0, c8b1⟩ := zk c8
  obtain rfl := Option.some.inj H
  go_enter Try.func32, Try.ntmps32
  go_wp2_with (first | ((with_reducible refine zD 1 rfl ?_); refine zE 1 #[.int .i64 a0_0, .int .i64 a0_1, .int .i64 a0_2] 28 ?_; intro Ab hg w14 hbox hb; have Aa := Am (hbox); have Ac := zA hg HB; replace HB := zB HB hb; have Ad := Ac; clear hb hbox hg; obtain ⟨_, _, _⟩ := bc3 Aa.out; obtain ⟨_, _, _⟩ := bf3 Aa.out) | ((with_reducible refine zC 56 rfl ?_); refine zL (some 5) Try.func56 #[.int .i64 a0_0] ?_; (with_reducible refine (hard_counts.calls a0_0 true _ A2.out).mono ?_); rintro e w' ⟨rfl, ⟨nd, rfl⟩⟩; refine ⟨_, rfl, ?_⟩) | (go_at_call 56; (with_reducible refine (hard_counts.calls a0_1 true _ A4.out).mono ?_); rintro e w' ⟨rfl, ⟨nd, rfl⟩⟩) | (go_at_call 56; (with_reducible refine (hard_counts.calls a0_2 true _ A6.out).mono ?_); rintro e w' ⟨rfl, ⟨nd, rfl⟩⟩))
  go_ret
  exact ⟨pX, pE HB.out Ad.out⟩
 rw [if_pos c8] at H
 obtain ⟨c8b0, c8b1⟩ := zc c8
 clear c8
 by_cases c9 : a0_1 = 0
 rotate_left
 ·rw [if_neg c9] at H
  obtain ⟨c9b0, c9b1⟩ := zk c9
  obtain rfl := Option.some.inj H
  go_enter Try.func32, Try.ntmps32
  go_wp2_with (first | ((with_reducible refine zD 1 rfl ?_); refine zE 1 #[.int .i64 a0_0, .int .i64 a0_1, .int .i64 a0_2] 28 ?_; intro Ab hg w12 hbox hb; have Aa := Am (hbox); have Ac := zA hg HB; replace HB := zB HB hb; have Ad := Ac; clear hb hbox hg; obtain ⟨_, _, _⟩ := bc3 Aa.out; obtain ⟨_, _, _⟩ := bf3 Aa.out) | ((with_reducible refine zC 56 rfl ?_); refine zL (some 5) Try.func56 #[.int .i64 a0_0] ?_; (with_reducible refine (hard_counts.calls a0_0 true _ A2.out).mono ?_); rintro e w' ⟨rfl, ⟨nd, rfl⟩⟩; refine ⟨_, rfl, ?_⟩) | (go_at_call 56; (with_reducible refine (hard_counts.calls a0_1 true _ A4.out).mono ?_); rintro e w' ⟨rfl, ⟨nd, rfl⟩⟩) | (go_at_call 56; (with_reducible refine (hard_counts.calls a0_2 true _ A6.out).mono ?_); rintro e w' ⟨rfl, ⟨nd, rfl⟩⟩))
  go_ret
  exact ⟨pX, pE HB.out Ad.out⟩
 rw [if_pos c9] at H
 obtain ⟨c9b0, c9b1⟩ := zc c9
 clear c9
 obtain rfl := Option.some.inj H
 go_enter Try.func32, Try.ntmps32
 go_wp2_with (first | ((with_reducible refine zD 1 rfl ?_); refine zE 1 #[.int .i64 a0_0, .int .i64 a0_1, .int .i64 a0_2] 28 ?_; intro Ab hg w10 hbox hb; have Aa := Am (hbox); have Ac := zA hg HB; replace HB := zB HB hb; have Ad := Ac; clear hb hbox hg; obtain ⟨_, _, _⟩ := bc3 Aa.out; obtain ⟨_, _, _⟩ := bf3 Aa.out) | ((with_reducible refine zC 56 rfl ?_); refine zL (some 5) Try.func56 #[.int .i64 a0_0] ?_; (with_reducible refine (hard_counts.calls a0_0 true _ A2.out).mono ?_); rintro e w' ⟨rfl, ⟨nd, rfl⟩⟩; refine ⟨_, rfl, ?_⟩) | (go_at_call 56; (with_reducible refine (hard_counts.calls a0_1 true _ A4.out).mono ?_); rintro e w' ⟨rfl, ⟨nd, rfl⟩⟩) | (go_at_call 56; (with_reducible refine (hard_counts.calls a0_2 true _ A6.out).mono ?_); rintro e w' ⟨rfl, ⟨nd, rfl⟩⟩))
 go_ret
 exact ⟨pX, pE HB.out Ad.out⟩
def raft_counts.f (a0 : Int) : Option (Bool) := if a0 ≥ 1 then (some (decide (a0 ≤ 2147483647))) else (some false)
set_option maxRecDepth 100000 in
theorem raft_counts.calls (a0 : Int) (r : Bool) (w : World) (h : raft_counts.f a0 = some r) :
 Calls Try.prog 59 #[.int .i64 a0] w fun e w' => e = .returned (.bool r) ∧ Drawn0 w w' := by
 unfold raft_counts.f at h
 have H := h
 clear h
 by_cases c2 : a0 ≥ 1
 ·rw [if_pos c2] at H
  have c2b0 : decide (1 ≤ a0) = true := decide_eq_true c2
  clear c2
  obtain rfl := Option.some.inj H
  go_enter Try.func59, Try.ntmps59
  go_wp2
  go_ret
  exact ⟨zr, zd⟩
 rw [if_neg c2] at H
 have c2b0 : decide (1 ≤ a0) = false := decide_eq_false c2
 clear c2
 obtain rfl := Option.some.inj H
 go_enter Try.func59, Try.ntmps59
 go_wp2
 go_ret
 exact ⟨zr, zd⟩
def raft_rows.l0 : Nat → List (S52) → List (S52) → Int → Int → Option (Bool)
 | 0, _, _, _, _ => none
 | k + 1, x0, x5, x6, x7 => if x7 < x6 then (if 0 ≤ x7 then (if x7 < (x5.length : Int) then ((raft_counts.f ((rd_T52 x5 x7).f0)).bind fun t107 => (if t107 = true then ((raft_counts.f ((rd_T52 x5 x7).f1)).bind fun t108 => (if t108 = true then (if x7 > 0 then (if 0 ≤ (wrap64 (x7 - 1)) then (if (wrap64 (x7 - 1)) < (x0.length : Int) then (if (wrap64 (((rd_T52 x5 x7).f0) - 1)) = ((rd_T52 x0 (wrap64 (x7 - 1))).f0) then (if ((rd_T52 x5 x7).f1) < ((rd_T52 x0 (wrap64 (x7 - 1))).f1) then (none) else (raft_rows.l0 k x0 x5 x6 (wrap64 (x7 + 1)))) else (none)) else (none)) else (none)) else (raft_rows.l0 k x0 x5 x6 (wrap64 (x7 + 1)))) else (none))) else (none))) else (none)) else (none)) else (some true)
def raft_rows.f (k : Nat) (l0 : List (S52)) : Option (Bool) := raft_rows.l0 k l0 l0 (l0.length : Int) 0
theorem raft_rows.mono_l : ∀ k, (∀ y0 y1 y2 y3, LeO (raft_rows.l0 k y0 y1 y2 y3) (raft_rows.l0 (k + 1) y0 y1 y2 y3))
 | 0 => fun _ _ _ _ r h => by simp [raft_rows.l0] at h
 | k + 1 => by
  have ih0 := raft_rows.mono_l k
  ·intro y0 y1 y2 y3
   unfold raft_rows.l0
   repeat' (with_reducible first | exact ih0 .. | exact LeO.refl .. | exact LeO.none .. | refine LeO.ite ?_ ?_ | refine LeO.bind ?_ (fun _ => ?_))
theorem raft_rows.mono : ∀ a0 k, LeO (raft_rows.f k a0) (raft_rows.f (k + 1) a0) := by
 intro a0 k
 have ih0 := raft_rows.mono_l k
 unfold raft_rows.f
 repeat' (with_reducible first | exact ih0 .. | exact LeO.refl .. | exact LeO.none .. | refine LeO.ite ?_ ?_ | refine LeO.bind ?_ (fun _ => ?_))
def raft_rows.T4 : Bool × List (List Nat × List Nat) := (true, [([], []), ([0], [0]), ([1], [1]), ([2], [2]), ([3, 2], [3]), ([4], [4]), ([5, 4], [4, 5]), ([6, 4, 4], [4, 6]), ([7, 4], [4, 7]), ([4, 8], [4, 8]), ([9, 7], [9]), ([10], [10]), ([11, 10], [10, 11]), ([12, 10, 10], [10, 12]), ([13], [13]), ([14, 13], [13, 14]), ([15, 13], [13, 15]), ([13], [13]), ([13], [13]), ([18, 13], [13, 18]), ([17, 19, 13], [13, 17, 19]), ([20, 13], [13, 20]), ([21, 13], [13, 21]), ([16, 22, 13], [13, 16, 22]), ([23, 13, 13], [13, 23]), ([24], [24]), ([25, 24], [24, 25]), ([24], [24]), ([24], [24]), ([28, 24], [24, 28]), ([27, 29, 24], [24, 27, 29]), ([30, 24], [24, 30]), ([31, 24], [24, 31]), ([26, 32, 24], [24, 26, 32]), ([24, 33, 13], [13, 24, 33]), ([13, 34, 10], [10, 13, 34]), ([10, 35], [10, 35])])
def raft_rows.B4 : List Nat := [0, 1, 3, 7, 15, 31, 63, 127, 255, 511, 1023, 2047, 4095, 8191, 16383, 32767, 65535, 16383, 16383, 278527, 933887, 1982463, 4079615, 8388607, 16777215, 33554431, 67108863, 33554431, 33554431, 301989887, 973078527, 2046820351, 4194303999, 8589934591, 17179869183, 34359738367, 68719476735]
theorem raft_rows.tab4 : rtab .any (opsOf Try.f60 4) = raft_rows.T4 := by kernel_rfl
theorem raft_rows.bits4 : waitsOk raft_rows.T4.2 raft_rows.B4 = true := by kernel_rfl
set_option maxRecDepth 100000 in
theorem raft_rows.calls (k : Nat) (A0 : Option Addr) (c0 : Nat) (l0 : List (S52)) (r : Bool) (w : World) (hr0 : Kd.C k52 w A0 l0.length l0) (hc0 : l0.length ≤ c0) (h : raft_rows.f k l0 = some r) :
 Calls Try.prog 60 #[.slice A0 l0.length c0] w fun e w' => e = .returned (.bool r) ∧ Below w.heap.size w w' := by
 have hu52 := Try.underlying52
 have HR0 := Am hr0
 have HC0 := Am hc0
 clear hr0 hc0
 have HB := Am (Below.refl w.heap.size w)
 unfold raft_rows.f at h
 have H := h
 clear h
 have H' := Am H
 clear H
 go_enter Try.func60, Try.ntmps60
 go_wp2
 go_loopg [7] k (fun kq v7 w' => ∃ (Aa : Int), v7 = .int .i64 Aa ∧ Aside0 (raft_rows.l0 kq l0 l0 (l0.length : Int) Aa = some r) ∧ Aside0 (kq ≤ k) ∧ Aside0 (Below w.heap.size w w'))
 case atStart => exact ⟨(0), zr, H', ⟨Nat.le_refl _⟩, ⟨pB HB.out⟩⟩
 case round =>
  clear H'
  obtain ⟨Aa, rfl, HA, HK1, HB⟩ := hrel
  cases gk with
  | zero => exact absurd HA.out (by simp [raft_rows.l0])
  | succ k1 =>
   have H := HA.out
   clear HA
   simp only [raft_rows.l0] at H
   by_cases c2 : Aa < (l0.length : Int)
   rotate_left
   ·rw [if_neg c2] at H
    have c2b0 := decide_eq_false c2
    clear c2
    obtain rfl := Option.some.inj H
    go_wp2
    go_ret
    exact ⟨pX, pB HB.out⟩
   rw [if_pos c2] at H
   have c2b0 := decide_eq_true c2
   clear c2
   obtain ⟨c3, H⟩ := zI H
   have c3b0 := decide_eq_true c3
   clear c3
   obtain ⟨c4, H⟩ := zI H
   have c4b0 := decide_eq_true c4
   clear c4
   obtain ⟨t107, A5, H⟩ := zb H
   by_cases c6 : t107 = true
   rotate_left
   ·replace c6 := Bool.eq_false_iff.mpr c6
    subst c6
    rw [if_neg zF] at H
    exact absurd H (by simp)
   subst c6
   rw [if_pos rfl] at H
   obtain ⟨t108, A7, H⟩ := zb H
   by_cases c8 : t108 = true
   rotate_left
   ·replace c8 := Bool.eq_false_iff.mpr c8
    subst c8
    rw [if_neg zF] at H
    exact absurd H (by simp)
   subst c8
   rw [if_pos rfl] at H
   by_cases c9 : Aa > 0
   rotate_left
   ·rw [if_neg c9] at H
    have c9b0 : decide (0 < Aa) = false := decide_eq_false c9
    clear c9
    have H' := Am H
    clear H
    have p105 : 0 ≤ (Aa : Int) := of_decide_eq_true pS
    have q105 : Aa < (l0.length : Int) := of_decide_eq_true pS
    obtain ⟨Ag, Ad, c105_5, e105, As, At, Au, Av, Aw, Ax, Ay, Az, A1, A2, Ae, Af⟩ := at_T52u HR0.out Aa p105 q105 HB.out
    cases e105
    have A3 := Am Af
    have A4 := Am Ae
    clear Af Ae
    replace p105 := eq_true p105
    replace q105 := eq_true q105
    try go_wp2_with (first | ((with_reducible refine zD 4 rfl ?_); refine zE 4 #[.int .i64 0, .int .i64 0, .int .i64 0, .string (⟨#[]⟩ : ByteArray), .bool false, .slice none 0 0, .int .i64 0, .int .i64 0, .int .i64 0, .int .u32 0] 52 ?_; intro Ab hg w19 hbox hb; have Ac := Am (hbox); have Ar := zA hg HB; replace HB := zB HB hb; have Aj := Ar; clear hb hbox hg; obtain ⟨_, _, _, _, _, _, _, _, _, _⟩ := bc10 Ac.out; obtain ⟨_, _, _, _, _, _, _, _, _, _⟩ := bf10 Ac.out))
    have n0_ : Aside0 (((((((((((w19.setCell ⟨Ab, 0, none⟩ (.int .i64 ((rd_T52 l0 Aa).f0))).setCell ⟨Ab, 1, none⟩ (.int .i64 ((rd_T52 l0 Aa).f1))).setCell ⟨Ab, 2, none⟩ (.int .i64 ((rd_T52 l0 Aa).f2))).setCell ⟨Ab, 3, none⟩ (.string ((rd_T52 l0 Aa).f3))).setCell ⟨Ab, 4, none⟩ (.bool ((rd_T52 l0 Aa).f4.f0))).setCell ⟨Ab, 5, none⟩ (.slice Ad ((rd_T52 l0 Aa).f4.f1).length c105_5)).setCell ⟨Ab, 6, none⟩ (.int .i64 ((rd_T52 l0 Aa).f4.f2.f0))).setCell ⟨Ab, 7, none⟩ (.int .i64 ((rd_T52 l0 Aa).f4.f2.f1))).setCell ⟨Ab, 8, none⟩ (.int .i64 ((rd_T52 l0 Aa).f4.f2.f2))).setCell ⟨Ab, 9, none⟩ (.int .u32 ((rd_T52 l0 Aa).f4.f2.f3))).heap[Ab]? = some (.cells #[.int .i64 ((rd_T52 l0 Aa).f0), .int .i64 ((rd_T52 l0 Aa).f1), .int .i64 ((rd_T52 l0 Aa).f2), .string ((rd_T52 l0 Aa).f3), .bool ((rd_T52 l0 Aa).f4.f0), .slice Ad ((rd_T52 l0 Aa).f4.f1).length c105_5, .int .i64 ((rd_T52 l0 Aa).f4.f2.f0), .int .i64 ((rd_T52 l0 Aa).f4.f2.f1), .int .i64 ((rd_T52 l0 Aa).f4.f2.f2), .int .u32 ((rd_T52 l0 Aa).f4.f2.f3)] 52 (0, 0))) := ⟨kX0 Ac.out⟩
    have n1_ : Aside0 (Below w.heap.size w ((((((((((w19.setCell ⟨Ab, 0, none⟩ (.int .i64 ((rd_T52 l0 Aa).f0))).setCell ⟨Ab, 1, none⟩ (.int .i64 ((rd_T52 l0 Aa).f1))).setCell ⟨Ab, 2, none⟩ (.int .i64 ((rd_T52 l0 Aa).f2))).setCell ⟨Ab, 3, none⟩ (.string ((rd_T52 l0 Aa).f3))).setCell ⟨Ab, 4, none⟩ (.bool ((rd_T52 l0 Aa).f4.f0))).setCell ⟨Ab, 5, none⟩ (.slice Ad ((rd_T52 l0 Aa).f4.f1).length c105_5)).setCell ⟨Ab, 6, none⟩ (.int .i64 ((rd_T52 l0 Aa).f4.f2.f0))).setCell ⟨Ab, 7, none⟩ (.int .i64 ((rd_T52 l0 Aa).f4.f2.f1))).setCell ⟨Ab, 8, none⟩ (.int .i64 ((rd_T52 l0 Aa).f4.f2.f2))).setCell ⟨Ab, 9, none⟩ (.int .u32 ((rd_T52 l0 Aa).f4.f2.f3)))) := ⟨pE HB.out Aj.out⟩
    (try clear Ac)
    (try clear HB)
    generalize ((((((((((w19.setCell ⟨Ab, 0, none⟩ (.int .i64 ((rd_T52 l0 Aa).f0))).setCell ⟨Ab, 1, none⟩ (.int .i64 ((rd_T52 l0 Aa).f1))).setCell ⟨Ab, 2, none⟩ (.int .i64 ((rd_T52 l0 Aa).f2))).setCell ⟨Ab, 3, none⟩ (.string ((rd_T52 l0 Aa).f3))).setCell ⟨Ab, 4, none⟩ (.bool ((rd_T52 l0 Aa).f4.f0))).setCell ⟨Ab, 5, none⟩ (.slice Ad ((rd_T52 l0 Aa).f4.f1).length c105_5)).setCell ⟨Ab, 6, none⟩ (.int .i64 ((rd_T52 l0 Aa).f4.f2.f0))).setCell ⟨Ab, 7, none⟩ (.int .i64 ((rd_T52 l0 Aa).f4.f2.f1))).setCell ⟨Ab, 8, none⟩ (.int .i64 ((rd_T52 l0 Aa).f4.f2.f2))).setCell ⟨Ab, 9, none⟩ (.int .u32 ((rd_T52 l0 Aa).f4.f2.f3))) = w21 at n0_ n1_ ⊢
    have Ac := n0_
    have HB := n1_
    clear n0_ n1_
    replace Ac := kDa Ac
    replace HB := bDa HB
    refine start_ (n := 37) (S := fun w' => cG w' Ab 0 (.int .i64 ((rd_T52 l0 Aa).f0)) ∧ cG w' Ab 1 (.int .i64 ((rd_T52 l0 Aa).f1))) (ds := []) #[false, false, false, false, false, false, false, false, false, false, false, false, false, false, false, false, false, false, false, false, false, false, false, false, false, false, false, false, false, false, false, false, false, false, false, false, false] (by kernel_rfl) rfl rfl ⟨(blk_cell Ac.out 0).trans rfl, (blk_cell Ac.out 1).trans rfl⟩ (fun hHeld => ?_); refine with_tabW raft_rows.tab4 raft_rows.bits4 (fun HT_ HW_ => ?_)
    generalize w21.drew = w22 at Ac HB hHeld ⊢
    refine pui 0 12 37 1 HT_ ?_
    refine zw 1 (h := ?_)
    refine onei 2 14 37 7 HT_ (fun K hK => ?_)
    refine goes_ Try.func59 (by kernel_rfl) rfl #[.int .i64 ((rd_T52 l0 Aa).f0)] (by rfl) rfl rfl pL ?_
    with_reducible refine (raft_counts.calls ((rd_T52 l0 Aa).f0) true _ A5.out).mono ?_
    rintro e w' ⟨rfl, ⟨nd, rfl⟩⟩
    refine ⟨_, rfl, ?_⟩
    refine hK.out _ _ ⟨(blk_cell Ac.out 0).trans rfl, (blk_cell Ac.out 1).trans rfl⟩ (fun hHeld => ?_)
    clear hK K
    refine norm_ (a' := ?_) ?_ ?_
    rotate_left
    ·show Act.put _ (some 14) _ = _
     simp only [Act.put, List.setIfInBounds_toArray, List.set_cons_zero, List.set_cons_succ, i64_w, i32_w]
     rfl
    refine pui 3 15 37 15 HT_ ?_
    refine zp 4 (h := zp 5 (h := zw 6 (h := ?_)))
    refine onei 7 19 37 255 HT_ (fun K hK => ?_)
    refine goes_ Try.func59 (by kernel_rfl) rfl #[.int .i64 ((rd_T52 l0 Aa).f1)] (by rfl) rfl rfl pL ?_
    with_reducible refine (raft_counts.calls ((rd_T52 l0 Aa).f1) true _ A7.out).mono ?_
    rintro e w' ⟨rfl, ⟨nd, rfl⟩⟩
    refine ⟨_, rfl, ?_⟩
    refine hK.out _ _ ⟨(blk_cell Ac.out 0).trans rfl, (blk_cell Ac.out 1).trans rfl⟩ (fun hHeld => ?_)
    clear hK K
    refine norm_ (a' := ?_) ?_ ?_
    rotate_left
    ·show Act.put _ (some 19) _ = _
     simp only [Act.put, List.setIfInBounds_toArray, List.set_cons_zero, List.set_cons_succ, i64_w, i32_w]
     rfl
    refine pui 8 20 37 511 HT_ ?_
    refine zp 9 (h := zp 10 (h := zp 11 (h := zp 12 (h := zp 13 (h := zq 14 (h := zq 15 (h := zq 16 (h := zq 17 (h := zq 18 (h := zq 19 (h := zq 20 (h := zq 21 (h := zq 22 (h := zq 23 (h := zq 24 (h := zq 25 (h := zq 26 (h := zq 27 (h := zq 28 (h := zq 29 (h := zq 30 (h := zq 31 (h := zq 32 (h := zq 33 (h := zq 34 (h := zp 35 (h := zp 36 (h := ?_))))))))))))))))))))))))))))
    refine done_ (done_of HT_.out (by kernel_rfl)) ?_
    try go_wp2
    go_roundg k1
    case measure => have := HK1.out; omega
    case rel => exact ⟨(wrap64 (Aa + 1)), zr, H', ⟨by have := HK1.out; omega⟩, ⟨pE HB.out Aj.out⟩⟩
   rw [if_pos c9] at H
   have c9b0 : decide (0 < Aa) = true := decide_eq_true c9
   clear c9
   obtain ⟨ji10, hji10⟩ : ∃ j_ : Int, (wrap64 (Aa - 1)) = j_ := ⟨_, rfl⟩
   replace H : (if 0 ≤ (ji10) then (if (ji10) < (l0.length : Int) then (if (wrap64 (((rd_T52 l0 Aa).f0) - 1)) = ((rd_T52 l0 (ji10)).f0) then (if ((rd_T52 l0 Aa).f1) < ((rd_T52 l0 (ji10)).f1) then (none) else (raft_rows.l0 k1 l0 l0 (l0.length : Int) (wrap64 (Aa + 1)))) else (none)) else (none)) else (none)) = some r := by first | (rw [hji10] at H; exact H) | (simp only [hji10] at H ⊢; exact H)
   (try rw [hji10] at A5)
   (try rw [hji10] at A7)
   have hji10w : (IntKind.i64.wrap (Aa - 1)) = ji10 := (i64_w _).trans hji10
   obtain ⟨c11, H⟩ := zI H
   have c11b0 := decide_eq_true c11
   clear c11
   obtain ⟨c12, H⟩ := zI H
   have c12b0 := decide_eq_true c12
   clear c12
   obtain ⟨c13, H⟩ := zI H
   obtain ⟨c13b0, c13b1⟩ := zc c13
   clear c13
   obtain ⟨c14, H⟩ := zJ H
   have c14b0 := decide_eq_false c14
   clear c14
   have H' := Am H
   clear H
   have p105 : 0 ≤ (Aa : Int) := of_decide_eq_true pS
   have q105 : Aa < (l0.length : Int) := of_decide_eq_true pS
   obtain ⟨Ag, Ad, c105_5, e105, As, At, Au, Av, Aw, Ax, Ay, Az, A1, A2, Ae, Af⟩ := at_T52u HR0.out Aa p105 q105 HB.out
   cases e105
   have A3 := Am Af
   have A4 := Am Ae
   clear Af Ae
   replace p105 := eq_true p105
   replace q105 := eq_true q105
   try go_wp2_with (first | ((with_reducible refine zD 4 rfl ?_); refine zE 4 #[.int .i64 0, .int .i64 0, .int .i64 0, .string (⟨#[]⟩ : ByteArray), .bool false, .slice none 0 0, .int .i64 0, .int .i64 0, .int .i64 0, .int .u32 0] 52 ?_; intro Ab hg w15 hbox hb; have Ac := Am (hbox); have Ar := zA hg HB; replace HB := zB HB hb; have Aj := Ar; clear hb hbox hg; obtain ⟨_, _, _, _, _, _, _, _, _, _⟩ := bc10 Ac.out; obtain ⟨_, _, _, _, _, _, _, _, _, _⟩ := bf10 Ac.out))
   have n0_ : Aside0 (((((((((((w15.setCell ⟨Ab, 0, none⟩ (.int .i64 ((rd_T52 l0 Aa).f0))).setCell ⟨Ab, 1, none⟩ (.int .i64 ((rd_T52 l0 Aa).f1))).setCell ⟨Ab, 2, none⟩ (.int .i64 ((rd_T52 l0 Aa).f2))).setCell ⟨Ab, 3, none⟩ (.string ((rd_T52 l0 Aa).f3))).setCell ⟨Ab, 4, none⟩ (.bool ((rd_T52 l0 Aa).f4.f0))).setCell ⟨Ab, 5, none⟩ (.slice Ad ((rd_T52 l0 Aa).f4.f1).length c105_5)).setCell ⟨Ab, 6, none⟩ (.int .i64 ((rd_T52 l0 Aa).f4.f2.f0))).setCell ⟨Ab, 7, none⟩ (.int .i64 ((rd_T52 l0 Aa).f4.f2.f1))).setCell ⟨Ab, 8, none⟩ (.int .i64 ((rd_T52 l0 Aa).f4.f2.f2))).setCell ⟨Ab, 9, none⟩ (.int .u32 ((rd_T52 l0 Aa).f4.f2.f3))).heap[Ab]? = some (.cells #[.int .i64 ((rd_T52 l0 Aa).f0), .int .i64 ((rd_T52 l0 Aa).f1), .int .i64 ((rd_T52 l0 Aa).f2), .string ((rd_T52 l0 Aa).f3), .bool ((rd_T52 l0 Aa).f4.f0), .slice Ad ((rd_T52 l0 Aa).f4.f1).length c105_5, .int .i64 ((rd_T52 l0 Aa).f4.f2.f0), .int .i64 ((rd_T52 l0 Aa).f4.f2.f1), .int .i64 ((rd_T52 l0 Aa).f4.f2.f2), .int .u32 ((rd_T52 l0 Aa).f4.f2.f3)] 52 (0, 0))) := ⟨kX0 Ac.out⟩
   have n1_ : Aside0 (Below w.heap.size w ((((((((((w15.setCell ⟨Ab, 0, none⟩ (.int .i64 ((rd_T52 l0 Aa).f0))).setCell ⟨Ab, 1, none⟩ (.int .i64 ((rd_T52 l0 Aa).f1))).setCell ⟨Ab, 2, none⟩ (.int .i64 ((rd_T52 l0 Aa).f2))).setCell ⟨Ab, 3, none⟩ (.string ((rd_T52 l0 Aa).f3))).setCell ⟨Ab, 4, none⟩ (.bool ((rd_T52 l0 Aa).f4.f0))).setCell ⟨Ab, 5, none⟩ (.slice Ad ((rd_T52 l0 Aa).f4.f1).length c105_5)).setCell ⟨Ab, 6, none⟩ (.int .i64 ((rd_T52 l0 Aa).f4.f2.f0))).setCell ⟨Ab, 7, none⟩ (.int .i64 ((rd_T52 l0 Aa).f4.f2.f1))).setCell ⟨Ab, 8, none⟩ (.int .i64 ((rd_T52 l0 Aa).f4.f2.f2))).setCell ⟨Ab, 9, none⟩ (.int .u32 ((rd_T52 l0 Aa).f4.f2.f3)))) := ⟨pE HB.out Aj.out⟩
   (try clear Ac)
   (try clear HB)
   generalize ((((((((((w15.setCell ⟨Ab, 0, none⟩ (.int .i64 ((rd_T52 l0 Aa).f0))).setCell ⟨Ab, 1, none⟩ (.int .i64 ((rd_T52 l0 Aa).f1))).setCell ⟨Ab, 2, none⟩ (.int .i64 ((rd_T52 l0 Aa).f2))).setCell ⟨Ab, 3, none⟩ (.string ((rd_T52 l0 Aa).f3))).setCell ⟨Ab, 4, none⟩ (.bool ((rd_T52 l0 Aa).f4.f0))).setCell ⟨Ab, 5, none⟩ (.slice Ad ((rd_T52 l0 Aa).f4.f1).length c105_5)).setCell ⟨Ab, 6, none⟩ (.int .i64 ((rd_T52 l0 Aa).f4.f2.f0))).setCell ⟨Ab, 7, none⟩ (.int .i64 ((rd_T52 l0 Aa).f4.f2.f1))).setCell ⟨Ab, 8, none⟩ (.int .i64 ((rd_T52 l0 Aa).f4.f2.f2))).setCell ⟨Ab, 9, none⟩ (.int .u32 ((rd_T52 l0 Aa).f4.f2.f3))) = w17 at n0_ n1_ ⊢
   have Ac := n0_
   have HB := n1_
   clear n0_ n1_
   replace Ac := kDa Ac
   replace HB := bDa HB
   have p109 : 0 ≤ ((ji10) : Int) := of_decide_eq_true pS
   have q109 : (ji10) < (l0.length : Int) := of_decide_eq_true pS
   obtain ⟨Br, A109_5, c109_5, e109, A6, A8, A9, Ba, Bb, Ak, Bc, Bd, Be, Bf, Al, An, Ah, _, _, _, _, _, _, _, _, _⟩ := at_T52w HR0.out (ji10) p109 q109 HB.out
   obtain rfl : Ag = Br := (by injection e109)
   have Bg := Am An
   have HC109_5 := Am Al
   clear An Al
   replace p109 := eq_true p109
   replace q109 := eq_true q109
   have p110 : 0 ≤ ((ji10) : Int) := of_decide_eq_true pS
   have q110 : (ji10) < (l0.length : Int) := of_decide_eq_true pS
   obtain ⟨Bs, A110_5, c110_5, e110, Bh, Bi, Bj, Bk, Bl, Ao, Bm, Bn, Bo, Bp, Ap, Aq, _, Ai, _, _, _, _, _, _, _, _⟩ := at_T52w HR0.out (ji10) p110 q110 HB.out
   obtain rfl : Ag = Bs := (by injection e110)
   have Bq := Am Aq
   have HC110_5 := Am Ap
   clear Aq Ap
   replace p110 := eq_true p110
   replace q110 := eq_true q110
   have ea_ := Option.some.inj (Ak.symm.trans Ao)
   injection ea_ with ea_ en_ ec_
   subst ea_
   subst ec_
   clear en_
   refine start_ (n := 37) (S := fun w' => cG w' Ab 0 (.int .i64 ((rd_T52 l0 Aa).f0)) ∧ cG w' Ab 1 (.int .i64 ((rd_T52 l0 Aa).f1)) ∧ w'.cell? (Ag.add (((ji10)).toNat * 10)) = some (.int .i64 ((rd_T52 l0 (ji10)).f0)) ∧ w'.cell? ⟨(Ag.add (((ji10)).toNat * 10)).block, (Ag.add (((ji10)).toNat * 10)).off + 1, none⟩ = some (.int .i64 ((rd_T52 l0 (ji10)).f1))) (ds := []) #[false, false, false, false, false, false, false, false, false, false, false, false, false, false, false, false, false, false, false, false, false, false, false, false, false, false, false, false, false, false, false, false, false, false, false, false, false] (by kernel_rfl) rfl rfl ⟨(blk_cell Ac.out 0).trans rfl, (blk_cell Ac.out 1).trans rfl, (cT HB.out Ah), (cT HB.out Ai)⟩ (fun hHeld => ?_); refine with_tabW raft_rows.tab4 raft_rows.bits4 (fun HT_ HW_ => ?_)
   generalize w17.drew = w18 at Ac HB Bg Bq A6 A8 A9 Ba Bb Ak Bc Bd Be Bf Bh Bi Bj Bk Bl Ao Bm Bn Bo Bp hHeld ⊢
   refine pui 0 12 37 1 HT_ ?_
   refine zw 1 (h := ?_)
   refine onei 2 14 37 7 HT_ (fun K hK => ?_)
   refine goes_ Try.func59 (by kernel_rfl) rfl #[.int .i64 ((rd_T52 l0 Aa).f0)] (by rfl) rfl rfl pL ?_
   with_reducible refine (raft_counts.calls ((rd_T52 l0 Aa).f0) true _ A5.out).mono ?_
   rintro e w' ⟨rfl, ⟨nd, rfl⟩⟩
   refine ⟨_, rfl, ?_⟩
   refine hK.out _ _ ⟨(blk_cell Ac.out 0).trans rfl, (blk_cell Ac.out 1).trans rfl, (cT HB.out Ah), (cT HB.out Ai)⟩ (fun hHeld => ?_)
   clear hK K
   refine norm_ (a' := ?_) ?_ ?_
   rotate_left
   ·show Act.put _ (some 14) _ = _
    simp only [Act.put, List.setIfInBounds_toArray, List.set_cons_zero, List.set_cons_succ, i64_w, i32_w]
    rfl
   refine pui 3 15 37 15 HT_ ?_
   refine zp 4 (h := zp 5 (h := zw 6 (h := ?_)))
   refine onei 7 19 37 255 HT_ (fun K hK => ?_)
   refine goes_ Try.func59 (by kernel_rfl) rfl #[.int .i64 ((rd_T52 l0 Aa).f1)] (by rfl) rfl rfl pL ?_
   with_reducible refine (raft_counts.calls ((rd_T52 l0 Aa).f1) true _ A7.out).mono ?_
   rintro e w' ⟨rfl, ⟨nd, rfl⟩⟩
   refine ⟨_, rfl, ?_⟩
   refine hK.out _ _ ⟨(blk_cell Ac.out 0).trans rfl, (blk_cell Ac.out 1).trans rfl, (cT HB.out Ah), (cT HB.out Ai)⟩ (fun hHeld => ?_)
   clear hK K
   refine norm_ (a' := ?_) ?_ ?_
   rotate_left
   ·show Act.put _ (some 19) _ = _
    simp only [Act.put, List.setIfInBounds_toArray, List.set_cons_zero, List.set_cons_succ, i64_w, i32_w]
    rfl
   refine pui 8 20 37 511 HT_ ?_
   refine zp 9 (h := zp 10 (h := zp 11 (h := zp 12 (h := zp 13 (h := zp 14 (h := zp 17 (h := zp 18 (h := zp 19 (h := zp 20 (h := zp 21 (h := zw 15 (h := zp 16 (h := zw 22 (h := zp 23 (h := zp 24 (h := zp 25 (h := zp 27 (h := zp 28 (h := zp 29 (h := zp 30 (h := zp 31 (h := zw 26 (h := zw 32 (h := zp 33 (h := zp 34 (h := zp 35 (h := zp 36 (h := ?_))))))))))))))))))))))))))))
   refine done_ (done_of HT_.out (by kernel_rfl)) ?_
   try go_wp2
   go_roundg k1
   case measure => have := HK1.out; omega
   case rel => exact ⟨(wrap64 (Aa + 1)), zr, H', ⟨by have := HK1.out; omega⟩, ⟨pE HB.out Aj.out⟩⟩
def raft_Check.j0 : Nat → Bool → Int → Int → List (S52) → Int → Int → Int → Int → Option (Int)
 | 0, _, _, _, _, _, _, _, _ => none
 | k + 1, x64, x112000, x112001, x112002, x112003, x112004, x112005, x112006 => if x64 = true then (none) else (if x112006 < x112000 then (none) else (if x112006 > x112005 then (none) else (if x112005 > (wrap64 (x112000 + (x112002.length : Int))) then (none) else (some 0))))
def raft_Check.f (k : Nat) (a0_0 : Int) (a0_1 : Int) (l0_2 : List (S52)) (a0_3 : Int) (a0_4 : Int) (a0_5 : Int) (a0_6 : Int) : Option (Int) := if a0_0 = 0 then (if a0_1 = 0 then (if (l0_2.length : Int) > 1000 then (none) else ((raft_rows.f k l0_2).bind fun t112 => (if t112 = true then ((hard_Check.f a0_3 a0_4 a0_5).bind fun t113 => (if t113 = 0 then (if (l0_2.length : Int) > 0 then (if 0 < (l0_2.length : Int) then (if ((rd_T52 l0_2 0).f0) = (wrap64 (a0_0 + 1)) then (raft_Check.j0 k (decide (((rd_T52 l0_2 0).f1) < a0_1)) a0_0 a0_1 l0_2 a0_3 a0_4 a0_5 a0_6) else (none)) else (none)) else (raft_Check.j0 k false a0_0 a0_1 l0_2 a0_3 a0_4 a0_5 a0_6)) else (none))) else (none)))) else (none)) else (none)
theorem raft_Check.mono_l : ∀ k, (∀ y0 y1 y2 y3 y4 y5 y6 y7, LeO (raft_Check.j0 k y0 y1 y2 y3 y4 y5 y6 y7) (raft_Check.j0 (k + 1) y0 y1 y2 y3 y4 y5 y6 y7))
 | 0 => fun _ _ _ _ _ _ _ _ r h => by simp [raft_Check.j0] at h
 | k + 1 => by
  have ih0 := raft_Check.mono_l k
  ·intro y0 y1 y2 y3 y4 y5 y6 y7
   unfold raft_Check.j0
   repeat' (with_reducible first | exact ih0 .. | exact raft_rows.mono .. | exact LeO.refl .. | exact LeO.none .. | refine LeO.ite ?_ ?_ | refine LeO.bind ?_ (fun _ => ?_))
theorem raft_Check.mono : ∀ a0 a1 a2 a3 a4 a5 a6 k, LeO (raft_Check.f k a0 a1 a2 a3 a4 a5 a6) (raft_Check.f (k + 1) a0 a1 a2 a3 a4 a5 a6) := by
 intro a0 a1 a2 a3 a4 a5 a6 k
 have ih0 := raft_Check.mono_l k
 unfold raft_Check.f
 repeat' (with_reducible first | exact ih0 .. | exact raft_rows.mono .. | exact LeO.refl .. | exact LeO.none .. | refine LeO.ite ?_ ?_ | refine LeO.bind ?_ (fun _ => ?_))
set_option maxRecDepth 100000 in
theorem raft_Check.calls (k : Nat) (a0_0 : Int) (a0_1 : Int) (A0_2 : Option Addr) (c0_2 : Nat) (l0_2 : List (S52)) (a0_3 : Int) (a0_4 : Int) (a0_5 : Int) (a0_6 : Int) (r : Int) (w : World) (hr0_2 : Kd.C k52 w A0_2 l0_2.length l0_2) (hc0_2 : l0_2.length ≤ c0_2) (h : raft_Check.f k a0_0 a0_1 l0_2 a0_3 a0_4 a0_5 a0_6 = some r) :
 Calls Try.prog 37 #[.agg #[.int .i64 a0_0, .int .i64 a0_1, .slice A0_2 l0_2.length c0_2, .int .i64 a0_3, .int .i64 a0_4, .int .i64 a0_5, .int .i64 a0_6]] w fun e w' => e = .returned (.int .i64 r) ∧ Below w.heap.size w w' := by
 have hu54 := Try.underlying54
 have hu28 := Try.underlying28
 have A8 := Am hr0_2
 have Bj := Am hc0_2
 clear hr0_2 hc0_2
 have HB := Am (Below.refl w.heap.size w)
 unfold raft_Check.f at h
 have H := h
 clear h
 obtain ⟨c2, H⟩ := zI H
 obtain ⟨c2b0, c2b1⟩ := zc c2
 clear c2
 obtain ⟨c3, H⟩ := zI H
 obtain ⟨c3b0, c3b1⟩ := zc c3
 clear c3
 obtain ⟨c4, H⟩ := zJ H
 have c4b0 : decide (1000 < (l0_2.length : Int)) = false := decide_eq_false c4
 have c4b1 : decide (1000 < l0_2.length) = false := decide_eq_false (by omega)
 clear c4
 obtain ⟨t112, A5, H⟩ := zb H
 by_cases c6 : t112 = true
 rotate_left
 ·replace c6 := Bool.eq_false_iff.mpr c6
  subst c6
  rw [if_neg zF] at H
  exact absurd H (by simp)
 subst c6
 rw [if_pos rfl] at H
 obtain ⟨t113, A7, H⟩ := zb H
 obtain ⟨c8, H⟩ := zI H
 obtain ⟨c8b0, c8b1⟩ := zc c8
 clear c8
 have HC9 := Am H
 clear H
 go_enter Try.func37, Try.ntmps37
 go_upto_region 3 with (first | ((with_reducible refine zD 1 rfl ?_); (try (refine gate_guard (by rfl) ?_; dsimp only)); refine zE 1 #[.int .i64 a0_0, .int .i64 a0_1, .slice A0_2 l0_2.length c0_2, .int .i64 a0_3, .int .i64 a0_4, .int .i64 a0_5, .int .i64 a0_6] 54 ?_; intro Ac hg w10 hbox hb; have Aa := Am (hbox); have A9 := zA hg HB; replace HB := zB HB hb; have Ab := A9; clear hb hbox hg; obtain ⟨Ad, Ae, Af, Ag, Ah, Ai, Aj⟩ := bc7 Aa.out; obtain ⟨Ak, Al, An, Ao, Ap, Aq, Ar⟩ := bf7 Aa.out) | (go_at_call 60; (with_reducible refine (raft_rows.calls k _ _ l0_2 true _ ?Ba ?Bb A5.out).mono ?_); (case Ba => exact pC (Kd.C_below A8.out HB.out)); (case Bb => exact Bj.out); rintro e w12 ⟨rfl, hb⟩; replace Aa := kBa Aa hb; replace HB := zX1 HB Ab.out hb; (try clear hb); obtain ⟨As, At, Au, Av, Aw, Ax, Ay⟩ := bc7 Aa.out; obtain ⟨Az, A0, A1, A2, A3, A4, A6⟩ := bf7 Aa.out) | (go_at_call 32; (with_reducible refine (hard_Check.calls a0_3 a0_4 a0_5 t113 _ A7.out).mono ?_); rintro e w14 ⟨rfl, hb⟩; replace Aa := kBa Aa hb; replace HB := zX1 HB Ab.out hb; (try clear hb)))
 repeat (go_quiet (first | ((with_reducible refine zD 1 rfl ?_); (try (refine gate_guard (by rfl) ?_; dsimp only)); refine zE 1 #[.int .i64 a0_0, .int .i64 a0_1, .slice A0_2 l0_2.length c0_2, .int .i64 a0_3, .int .i64 a0_4, .int .i64 a0_5, .int .i64 a0_6] 54 ?_; intro Ac hg w10 hbox hb; have Aa := Am (hbox); have A9 := zA hg HB; replace HB := zB HB hb; have Ab := A9; clear hb hbox hg; obtain ⟨Ad, Ae, Af, Ag, Ah, Ai, Aj⟩ := bc7 Aa.out; obtain ⟨Ak, Al, An, Ao, Ap, Aq, Ar⟩ := bf7 Aa.out) | (go_at_call 60; (with_reducible refine (raft_rows.calls k _ _ l0_2 true _ ?Ba ?Bb A5.out).mono ?_); (case Ba => exact pC (Kd.C_below A8.out HB.out)); (case Bb => exact Bj.out); rintro e w12 ⟨rfl, hb⟩; replace Aa := kBa Aa hb; replace HB := zX1 HB Ab.out hb; (try clear hb); obtain ⟨As, At, Au, Av, Aw, Ax, Ay⟩ := bc7 Aa.out; obtain ⟨Az, A0, A1, A2, A3, A4, A6⟩ := bf7 Aa.out) | (go_at_call 32; (with_reducible refine (hard_Check.calls a0_3 a0_4 a0_5 t113 _ A7.out).mono ?_); rintro e w14 ⟨rfl, hb⟩; replace Aa := kBa Aa hb; replace HB := zX1 HB Ab.out hb; (try clear hb))); go_upto_region 3 with (first | ((with_reducible refine zD 1 rfl ?_); (try (refine gate_guard (by rfl) ?_; dsimp only)); refine zE 1 #[.int .i64 a0_0, .int .i64 a0_1, .slice A0_2 l0_2.length c0_2, .int .i64 a0_3, .int .i64 a0_4, .int .i64 a0_5, .int .i64 a0_6] 54 ?_; intro Ac hg w10 hbox hb; have Aa := Am (hbox); have A9 := zA hg HB; replace HB := zB HB hb; have Ab := A9; clear hb hbox hg; obtain ⟨Ad, Ae, Af, Ag, Ah, Ai, Aj⟩ := bc7 Aa.out; obtain ⟨Ak, Al, An, Ao, Ap, Aq, Ar⟩ := bf7 Aa.out) | (go_at_call 60; (with_reducible refine (raft_rows.calls k _ _ l0_2 true _ ?Ba ?Bb A5.out).mono ?_); (case Ba => exact pC (Kd.C_below A8.out HB.out)); (case Bb => exact Bj.out); rintro e w12 ⟨rfl, hb⟩; replace Aa := kBa Aa hb; replace HB := zX1 HB Ab.out hb; (try clear hb); obtain ⟨As, At, Au, Av, Aw, Ax, Ay⟩ := bc7 Aa.out; obtain ⟨Az, A0, A1, A2, A3, A4, A6⟩ := bf7 Aa.out) | (go_at_call 32; (with_reducible refine (hard_Check.calls a0_3 a0_4 a0_5 t113 _ A7.out).mono ?_); rintro e w14 ⟨rfl, hb⟩; replace Aa := kBa Aa hb; replace HB := zX1 HB Ab.out hb; (try clear hb))))
 (try simp only [Act.put, List.setIfInBounds_toArray, List.set_cons_zero, List.set_cons_succ])
 go_cut [64] (fun v64 wc => ∃ (kq : Nat) (Bc : Bool), v64 = .bool Bc ∧ Aside0 (raft_Check.j0 kq Bc a0_0 a0_1 l0_2 a0_3 a0_4 a0_5 a0_6 = some r) ∧ Aside0 (kq ≤ k) ∧ Aside0 (wc.heap[Ac]? = some (.cells #[.int .i64 a0_0, .int .i64 a0_1, (.slice A0_2 l0_2.length c0_2), .int .i64 a0_3, .int .i64 a0_4, .int .i64 a0_5, .int .i64 a0_6] 54 (0, 0))) ∧ Aside0 (Below w.heap.size w wc))
 case first =>
  have H := HC9.out
  clear HC9
  by_cases c15 : (l0_2.length : Int) > 0
  rotate_left
  ·rw [if_neg c15] at H
   have c15b0 : decide (0 < (l0_2.length : Int)) = false := decide_eq_false c15
   have c15b1 : decide (0 < l0_2.length) = false := decide_eq_false (by omega)
   clear c15
   (first | rw [c15b0] | (simp only [i64_w, i32_w]; rw [c15b0]) | skip)
   have H' := Am H
   clear H
   obtain ⟨Cg, Ch, Ci, Cj, Ck, Cl, Cm⟩ := bc7 Aa.out
   obtain ⟨Cn, Co, Cp, Cq, Cr, Cs, Ct⟩ := bf7 Aa.out
   go_wp2
   repeat (go_quiet (fail); try go_wp2)
   go_meet
   case rel => exact ⟨_, (false), zr, H', ⟨zo⟩, ⟨pK Aa.out⟩, ⟨pE HB.out Ab.out⟩⟩
  rw [if_pos c15] at H
  have c15b0 : decide (0 < (l0_2.length : Int)) = true := decide_eq_true c15
  have c15b1 : decide (0 < l0_2.length) = true := decide_eq_true (by omega)
  clear c15
  (first | rw [c15b0] | (simp only [i64_w, i32_w]; rw [c15b0]) | skip)
  obtain ⟨c16, H⟩ := zI H
  have c16b0 := decide_eq_true c16
  have c16b1 : decide (0 < l0_2.length) = true := decide_eq_true (by omega)
  clear c16
  obtain ⟨c17, H⟩ := zI H
  obtain ⟨c17b0, c17b1⟩ := zc c17
  clear c17
  have H' := Am H
  clear H
  obtain ⟨Bk, Bl, Bm, Bn, Bo, Bp, Bq⟩ := bc7 Aa.out
  obtain ⟨Br, Bs, Bt, Bu, Bv, Bw, Bx⟩ := bf7 Aa.out
  have p114 : 0 ≤ (0 : Int) := (by omega)
  have q114 : 0 < (l0_2.length : Int) := of_decide_eq_true pS
  obtain ⟨Cu, A114_5, c114_5, e114, By, Bz, B0, B1, B2, Bd, B3, B4, B5, B6, Be, Bf⟩ := at_T52uz A8.out p114 q114 HB.out
  cases e114
  have qi114 : (0 < l0_2.length) = True := eq_true (by omega)
  have HR114_5 := Am Bf
  have HC114_5 := Am Be
  clear Bf Be
  replace p114 := eq_true p114
  replace q114 := eq_true q114
  have p115 : 0 ≤ (0 : Int) := (by omega)
  have q115 : 0 < (l0_2.length : Int) := of_decide_eq_true pS
  obtain ⟨Cv, A115_5, c115_5, e115, B7, B8, B9, Ca, Cb, Bg, Cc, Cd, Ce, Cf, Bh, Bi⟩ := at_T52uz A8.out p115 q115 HB.out
  obtain rfl : Cu = Cv := (by injection e115)
  have qi115 : (0 < l0_2.length) = True := eq_true (by omega)
  have HR115_5 := Am Bi
  have HC115_5 := Am Bh
  clear Bi Bh
  replace p115 := eq_true p115
  replace q115 := eq_true q115
  have ea_ := Option.some.inj (Bd.symm.trans Bg)
  injection ea_ with ea_ en_ ec_
  subst ea_
  subst ec_
  clear en_
  go_wp2
  repeat (go_quiet (fail); try go_wp2)
  go_meet
  case rel => exact ⟨_, (decide (((rd_T52 l0_2 0).f1) < a0_1)), zr, H', ⟨zo⟩, ⟨pK Aa.out⟩, ⟨pE HB.out Ab.out⟩⟩
 case rest =>
  clear HC9
  try clear c1
  try clear p1
  try clear q1
  try clear hx1
  try clear qi1
  try clear c2
  try clear c2b0
  try clear c2b1
  try clear p2
  try clear c3
  try clear c3b0
  try clear c3b1
  try clear c4
  try clear c4b0
  try clear c4b1
  try clear c6
  try clear p6
  try clear c8
  try clear c8b0
  try clear c8b1
  try clear c11
  try clear p11
  try clear q11
  try clear hx11
  try clear qi11
  try clear c15
  try clear c15b0
  try clear c15b1
  try clear c16
  try clear c16b0
  try clear c16b1
  try clear c17
  try clear c17b0
  try clear c17b1
  try clear Ad Ae Af Ag Ah Ai Aj
  try clear As At Au Av Aw Ax Ay
  try clear Bk Bl Bm Bn Bo Bp Bq
  try clear Cg Ch Ci Cj Ck Cl Cm
  try clear Ak Al An Ao Ap Aq Ar
  try clear Az A0 A1 A2 A3 A4 A6
  try clear Br Bs Bt Bu Bv Bw Bx
  try clear Cn Co Cp Cq Cr Cs Ct
  try clear By
  try clear Bz
  try clear B0
  try clear B1
  try clear B2
  try clear Bd
  try clear B3
  try clear B4
  try clear B5
  try clear B6
  try clear B7
  try clear B8
  try clear B9
  try clear Ca
  try clear Cb
  try clear Bg
  try clear Cc
  try clear Cd
  try clear Ce
  try clear Cf
  try clear p114
  try clear p115
  try clear q114
  try clear q115
  obtain ⟨kq, Bc, rfl, HA, HJ8, Aa, HB⟩ := hcut
  cases kq with
  | zero => exact absurd HA.out (by simp [raft_Check.j0])
  | succ kj8 =>
   have H := HA.out
   clear HA
   simp only [raft_Check.j0] at H
   by_cases c20 : Bc = true
   ·subst c20
    rw [if_pos rfl] at H
    exact absurd H (by simp)
   replace c20 := Bool.eq_false_iff.mpr c20
   subst c20
   rw [if_neg zF] at H
   obtain ⟨c21, H⟩ := zJ H
   have c21b0 := decide_eq_false c21
   clear c21
   obtain ⟨c22, H⟩ := zJ H
   have c22b0 : decide (a0_5 < a0_6) = false := decide_eq_false c22
   clear c22
   obtain ⟨c23, H⟩ := zJ H
   have c23b0 : decide ((wrap64 (a0_0 + (l0_2.length : Int))) < a0_5) = false := decide_eq_false c23
   clear c23
   obtain rfl := Option.some.inj H
   obtain ⟨_, _, _, _, _, _, _⟩ := bc7 Aa.out
   obtain ⟨_, _, _, _, _, _, _⟩ := bf7 Aa.out
   go_wp2
   repeat (go_quiet (fail); try go_wp2)
   go_ret
   exact ⟨pX, pE HB.out Ab.out⟩
def bytes_Equal.f (l0 : List Int) (l1 : List Int) : Option (Bool) := some ((strOfNums l0).toList == (strOfNums l1).toList)
set_option maxRecDepth 100000 in
theorem bytes_Equal.calls (A0 : Option Addr) (c0 : Nat) (l0 : List Int) (A1 : Option Addr) (c1 : Nat) (l1 : List Int) (r : Bool) (w : World) (hr0 : Kd.C (Kd.int .u8) w A0 l0.length l0) (hc0 : l0.length ≤ c0) (hr1 : Kd.C (Kd.int .u8) w A1 l1.length l1) (hc1 : l1.length ≤ c1) (h : bytes_Equal.f l0 l1 = some r) :
 Calls Try.prog 68 #[.slice A0 l0.length c0, .slice A1 l1.length c1] w fun e w' => e = .returned (.bool r) ∧ Drawn0 w w' := by
 have HR0 := Am hr0
 have HC0 := Am hc0
 clear hr0 hc0
 have HR1 := Am hr1
 have HC1 := Am hc1
 clear hr1 hc1
 unfold bytes_Equal.f at h
 have H := h
 clear h
 obtain rfl := Option.some.inj H
 have hcv3 := Kd.C_string (P := Try.prog) (A := A0) (c := c0) Try.underlying22 Try.underlying5 Try.underlying9 HR0.out
 have hcv4 := Kd.C_string (P := Try.prog) (A := A1) (c := c1) Try.underlying22 Try.underlying5 Try.underlying9 HR1.out
 go_enter Try.func68, Try.ntmps68
 go_wp2
 go_ret
 exact ⟨zr, zd⟩
end
section
attribute [local go_sem] max2_int min2_int max_two min_two max_three min_three max_four min_four
set_option maxHeartbeats 8000000
attribute [local go_sem] wrap64_l1 wrap64_l2 wrap64_l3 wrap64_l4 wrap64_l5
attribute [local go_sem high] eqA48
def cell_Same.f (a0_0 : Bool) (l0_1 : List Int) (a0_2 : Int) (a0_3 : Int) (a0_4 : Int) (a0_5 : Int) (a1_0 : Bool) (l1_1 : List Int) (a1_2 : Int) (a1_3 : Int) (a1_4 : Int) (a1_5 : Int) : Option (Bool) := if (a0_0 == a1_0) = true then (if (a0_2 == a1_2 && (a0_3 == a1_3 && (a0_4 == a1_4 && (a0_5 == a1_5)))) = true then ((bytes_Equal.f l0_1 l1_1).bind fun t118 => (some t118)) else (some false)) else (some false)
set_option maxRecDepth 100000 in
theorem cell_Same.calls (a0_0 : Bool) (A0_1 : Option Addr) (c0_1 : Nat) (l0_1 : List Int) (a0_2 : Int) (a0_3 : Int) (a0_4 : Int) (a0_5 : Int) (a1_0 : Bool) (A1_1 : Option Addr) (c1_1 : Nat) (l1_1 : List Int) (a1_2 : Int) (a1_3 : Int) (a1_4 : Int) (a1_5 : Int) (r : Bool) (w : World) (hr0_1 : Kd.C (Kd.int .u8) w A0_1 l0_1.length l0_1) (hc0_1 : l0_1.length ≤ c0_1) (hr1_1 : Kd.C (Kd.int .u8) w A1_1 l1_1.length l1_1) (hc1_1 : l1_1.length ≤ c1_1) (h : cell_Same.f a0_0 l0_1 a0_2 a0_3 a0_4 a0_5 a1_0 l1_1 a1_2 a1_3 a1_4 a1_5 = some r) :
 Calls Try.prog 52 #[.agg #[.bool a0_0, .slice A0_1 l0_1.length c0_1, .int .i64 a0_2, .int .i64 a0_3, .int .i64 a0_4, .int .u32 a0_5], .agg #[.bool a1_0, .slice A1_1 l1_1.length c1_1, .int .i64 a1_2, .int .i64 a1_3, .int .i64 a1_4, .int .u32 a1_5]] w fun e w' => e = .returned (.bool r) ∧ Below w.heap.size w w' := by
 have hu50 := Try.underlying50
 have hu48 := Try.underlying48
 have Ak := Am hr0_1
 have Al := Am hc0_1
 clear hr0_1 hc0_1
 have An := Am hr1_1
 have Ao := Am hc1_1
 clear hr1_1 hc1_1
 have HB := Am (Below.refl w.heap.size w)
 unfold cell_Same.f at h
 have H := h
 clear h
 by_cases c3 : (a0_0 == a1_0) = true
 rotate_left
 ·rw [if_neg c3] at H
  have c3b0 : (a0_0 == a1_0) = false := by simpa using c3
  (try (have c3b1 : decide (a0_0 = a1_0) = false := by simpa using c3))
  (try (have c3b2 : (a0_0 == a1_0) = false := by simpa using c3))
  (try (have c3b3 : ¬ (a0_0 = a1_0) := by simpa using c3))
  clear c3
  obtain rfl := Option.some.inj H
  go_enter Try.func52, Try.ntmps52
  go_wp2_with (first | ((with_reducible refine zD 2 rfl ?_); refine zE 2 #[.bool a0_0, .slice A0_1 l0_1.length c0_1, .int .i64 a0_2, .int .i64 a0_3, .int .i64 a0_4, .int .u32 a0_5] 50 ?_; intro Ad hg w16 hbox hb; have Aa := Am (hbox); have Ah := zA hg HB; replace HB := zB HB hb; have Ae := Ah; clear hb hbox hg) | ((with_reducible refine zD 3 rfl ?_); refine zE 3 #[.bool a1_0, .slice A1_1 l1_1.length c1_1, .int .i64 a1_2, .int .i64 a1_3, .int .i64 a1_4, .int .u32 a1_5] 50 ?_; intro Af hg w17 hbox hb; have Ag := Am (hbox); have Ai := zY1 hg HB Ae.out; replace HB := zX1 HB Ae.out hb; have Aj := Ai; have Ab := Am (zN hg (kL Aa.out)); have Ac := Am (zM hg (kL Aa.out)); replace Aa := kBa Aa hb; clear hb hbox hg; have hnb18 := Ab.out; have hnc18 := Ac.out; obtain ⟨_, _, _, _, _, _⟩ := bc6 Aa.out; obtain ⟨_, _, _, _, _, _⟩ := bf6 Aa.out; obtain ⟨_, _, _, _, _, _⟩ := bc6 Ag.out; obtain ⟨_, _, _, _, _, _⟩ := bf6 Ag.out))
  go_ret
  exact ⟨pX, pE2 HB.out Ae.out Aj.out⟩
 rw [if_pos c3] at H
 have c3b0 : (a0_0 == a1_0) = true := c3
 (try (have c3b1 : decide (a0_0 = a1_0) = true := by simpa using c3))
 (try (have c3b2 : (a0_0 == a1_0) = true := by simpa using c3))
 clear c3
 by_cases c4 : (a0_2 == a1_2 && (a0_3 == a1_3 && (a0_4 == a1_4 && (a0_5 == a1_5)))) = true
 rotate_left
 ·rw [if_neg c4] at H
  have c4b0 : (a0_2 == a1_2 && (a0_3 == a1_3 && (a0_4 == a1_4 && (a0_5 == a1_5)))) = false := by simpa using c4
  (try (have c4b1 : decide (a0_2 = a1_2 && (a0_3 == a1_3 && (a0_4 == a1_4 && (a0_5 == a1_5)))) = false := by simpa using c4))
  (try (have c4b2 : (a0_2 == a1_2 && (a0_3 == a1_3 && (a0_4 == a1_4 && (a0_5 == a1_5)))) = false := by simpa using c4))
  (try (have c4b3 : ¬ (a0_2 = a1_2 && (a0_3 == a1_3 && (a0_4 == a1_4 && (a0_5 == a1_5)))) := by simpa using c4))
  clear c4
  obtain rfl := Option.some.inj H
  go_enter Try.func52, Try.ntmps52
  go_wp2_with (first | ((with_reducible refine zD 2 rfl ?_); refine zE 2 #[.bool a0_0, .slice A0_1 l0_1.length c0_1, .int .i64 a0_2, .int .i64 a0_3, .int .i64 a0_4, .int .u32 a0_5] 50 ?_; intro Ad hg w11 hbox hb; have Aa := Am (hbox); have Ah := zA hg HB; replace HB := zB HB hb; have Ae := Ah; clear hb hbox hg) | ((with_reducible refine zD 3 rfl ?_); refine zE 3 #[.bool a1_0, .slice A1_1 l1_1.length c1_1, .int .i64 a1_2, .int .i64 a1_3, .int .i64 a1_4, .int .u32 a1_5] 50 ?_; intro Af hg w12 hbox hb; have Ag := Am (hbox); have Ai := zY1 hg HB Ae.out; replace HB := zX1 HB Ae.out hb; have Aj := Ai; have Ab := Am (zN hg (kL Aa.out)); have Ac := Am (zM hg (kL Aa.out)); replace Aa := kBa Aa hb; clear hb hbox hg; have hnb13 := Ab.out; have hnc13 := Ac.out; obtain ⟨_, _, _, _, _, _⟩ := bc6 Aa.out; obtain ⟨_, _, _, _, _, _⟩ := bf6 Aa.out; obtain ⟨_, _, _, _, _, _⟩ := bc6 Ag.out; obtain ⟨_, _, _, _, _, _⟩ := bf6 Ag.out))
  go_ret
  exact ⟨pX, pE2 HB.out Ae.out Aj.out⟩
 rw [if_pos c4] at H
 have c4b0 : (a0_2 == a1_2 && (a0_3 == a1_3 && (a0_4 == a1_4 && (a0_5 == a1_5)))) = true := c4
 (try (have c4b1 : decide (a0_2 = a1_2 && (a0_3 == a1_3 && (a0_4 == a1_4 && (a0_5 == a1_5)))) = true := by simpa using c4))
 (try (have c4b2 : (a0_2 == a1_2 && (a0_3 == a1_3 && (a0_4 == a1_4 && (a0_5 == a1_5)))) = true := by simpa using c4))
 clear c4
 obtain ⟨t118, A5, H⟩ := zb H
 obtain rfl := Option.some.inj H
 go_enter Try.func52, Try.ntmps52
 go_wp2_with (first | ((with_reducible refine zD 2 rfl ?_); refine zE 2 #[.bool a0_0, .slice A0_1 l0_1.length c0_1, .int .i64 a0_2, .int .i64 a0_3, .int .i64 a0_4, .int .u32 a0_5] 50 ?_; intro Ad hg w6 hbox hb; have Aa := Am (hbox); have Ah := zA hg HB; replace HB := zB HB hb; have Ae := Ah; clear hb hbox hg) | ((with_reducible refine zD 3 rfl ?_); refine zE 3 #[.bool a1_0, .slice A1_1 l1_1.length c1_1, .int .i64 a1_2, .int .i64 a1_3, .int .i64 a1_4, .int .u32 a1_5] 50 ?_; intro Af hg w7 hbox hb; have Ag := Am (hbox); have Ai := zY1 hg HB Ae.out; replace HB := zX1 HB Ae.out hb; have Aj := Ai; have Ab := Am (zN hg (kL Aa.out)); have Ac := Am (zM hg (kL Aa.out)); replace Aa := kBa Aa hb; clear hb hbox hg; have hnb8 := Ab.out; have hnc8 := Ac.out; obtain ⟨_, _, _, _, _, _⟩ := bc6 Aa.out; obtain ⟨_, _, _, _, _, _⟩ := bf6 Aa.out; obtain ⟨_, _, _, _, _, _⟩ := bc6 Ag.out; obtain ⟨_, _, _, _, _, _⟩ := bf6 Ag.out) | (go_at_call 68; (with_reducible refine (bytes_Equal.calls _ _ l0_1 _ _ l1_1 t118 _ ?Ap ?Aq ?Ar ?As A5.out).mono ?_); (case Ap => exact pC (Kd.C_below Ak.out HB.out)); (case Aq => exact Al.out); (case Ar => exact pC (Kd.C_below An.out HB.out)); (case As => exact Ao.out); rintro e w' ⟨rfl, ⟨nd, rfl⟩⟩))
 go_ret
 exact ⟨pX, pE2 HB.out Ae.out Aj.out⟩
def point_Check.f (a0_0 : Int) (a0_1 : Int) (a0_2 : Int) (a0_3 : Int) : Option (Int) := if a0_0 < 1 then (some 1) else (if a0_0 > 2147483647 then (some 1) else (if a0_1 < 0 then (some 1) else (if a0_1 > 2147483647 then (some 1) else (if a0_2 < 0 then (some 1) else (if a0_2 > 4096 then (some 1) else (some 0))))))
set_option maxRecDepth 100000 in
theorem point_Check.calls (a0_0 : Int) (a0_1 : Int) (a0_2 : Int) (a0_3 : Int) (r : Int) (w : World) (h : point_Check.f a0_0 a0_1 a0_2 a0_3 = some r) :
 Calls Try.prog 80 #[.agg #[.int .i64 a0_0, .int .i64 a0_1, .int .i64 a0_2, .int .u32 a0_3]] w fun e w' => e = .returned (.int .i64 r) ∧ Below w.heap.size w w' := by
 have hu48 := Try.underlying48
 have HB := Am (Below.refl w.heap.size w)
 unfold point_Check.f at h
 have H := h
 clear h
 by_cases c2 : a0_0 < 1
 ·rw [if_pos c2] at H
  have c2b0 := decide_eq_true c2
  clear c2
  obtain rfl := Option.some.inj H
  go_enter Try.func80, Try.ntmps80
  go_wp2_with (first | ((with_reducible refine zD 1 rfl ?_); refine zE 1 #[.int .i64 a0_0, .int .i64 a0_1, .int .i64 a0_2, .int .u32 a0_3] 48 ?_; intro Ab hg w3 hbox hb; have Aa := Am (hbox); have Ac := zA hg HB; replace HB := zB HB hb; have Ad := Ac; clear hb hbox hg; obtain ⟨_, _, _, _⟩ := bc4 Aa.out; obtain ⟨_, _, _, _⟩ := bf4 Aa.out))
  go_ret
  exact ⟨pX, pE HB.out Ad.out⟩
 rw [if_neg c2] at H
 have c2b0 := decide_eq_false c2
 clear c2
 by_cases c5 : a0_0 > 2147483647
 ·rw [if_pos c5] at H
  have c5b0 : decide (2147483647 < a0_0) = true := decide_eq_true c5
  clear c5
  obtain rfl := Option.some.inj H
  go_enter Try.func80, Try.ntmps80
  go_wp2_with (first | ((with_reducible refine zD 1 rfl ?_); refine zE 1 #[.int .i64 a0_0, .int .i64 a0_1, .int .i64 a0_2, .int .u32 a0_3] 48 ?_; intro Ab hg w6 hbox hb; have Aa := Am (hbox); have Ac := zA hg HB; replace HB := zB HB hb; have Ad := Ac; clear hb hbox hg; obtain ⟨_, _, _, _⟩ := bc4 Aa.out; obtain ⟨_, _, _, _⟩ := bf4 Aa.out))
  go_ret
  exact ⟨pX, pE HB.out Ad.out⟩
 rw [if_neg c5] at H
 have c5b0 : decide (2147483647 < a0_0) = false := decide_eq_false c5
 clear c5
 by_cases c8 : a0_1 < 0
 ·rw [if_pos c8] at H
  have c8b0 := decide_eq_true c8
  clear c8
  obtain rfl := Option.some.inj H
  go_enter Try.func80, Try.ntmps80
  go_wp2_with (first | ((with_reducible refine zD 1 rfl ?_); refine zE 1 #[.int .i64 a0_0, .int .i64 a0_1, .int .i64 a0_2, .int .u32 a0_3] 48 ?_; intro Ab hg w9 hbox hb; have Aa := Am (hbox); have Ac := zA hg HB; replace HB := zB HB hb; have Ad := Ac; clear hb hbox hg; obtain ⟨_, _, _, _⟩ := bc4 Aa.out; obtain ⟨_, _, _, _⟩ := bf4 Aa.out))
  go_ret
  exact ⟨pX, pE HB.out Ad.out⟩
 rw [if_neg c8] at H
 have c8b0 := decide_eq_false c8
 clear c8
 by_cases c11 : a0_1 > 2147483647
 ·rw [if_pos c11] at H
  have c11b0 : decide (2147483647 < a0_1) = true := decide_eq_true c11
  clear c11
  obtain rfl := Option.some.inj H
  go_enter Try.func80, Try.ntmps80
  go_wp2_with (first | ((with_reducible refine zD 1 rfl ?_); refine zE 1 #[.int .i64 a0_0, .int .i64 a0_1, .int .i64 a0_2, .int .u32 a0_3] 48 ?_; intro Ab hg w12 hbox hb; have Aa := Am (hbox); have Ac := zA hg HB; replace HB := zB HB hb; have Ad := Ac; clear hb hbox hg; obtain ⟨_, _, _, _⟩ := bc4 Aa.out; obtain ⟨_, _, _, _⟩ := bf4 Aa.out))
  go_ret
  exact ⟨pX, pE HB.out Ad.out⟩
 rw [if_neg c11] at H
 have c11b0 : decide (2147483647 < a0_1) = false := decide_eq_false c11
 clear c11
 by_cases c14 : a0_2 < 0
 ·rw [if_pos c14] at H
  have c14b0 := decide_eq_true c14
  clear c14
  obtain rfl := Option.some.inj H
  go_enter Try.func80, Try.ntmps80
  go_wp2_with (first | ((with_reducible refine zD 1 rfl ?_); refine zE 1 #[.int .i64 a0_0, .int .i64 a0_1, .int .i64 a0_2, .int .u32 a0_3] 48 ?_; intro Ab hg w15 hbox hb; have Aa := Am (hbox); have Ac := zA hg HB; replace HB := zB HB hb; have Ad := Ac; clear hb hbox hg; obtain ⟨_, _, _, _⟩ := bc4 Aa.out; obtain ⟨_, _, _, _⟩ := bf4 Aa.out))
  go_ret
  exact ⟨pX, pE HB.out Ad.out⟩
 rw [if_neg c14] at H
 have c14b0 := decide_eq_false c14
 clear c14
 by_cases c17 : a0_2 > 4096
 ·rw [if_pos c17] at H
  have c17b0 : decide (4096 < a0_2) = true := decide_eq_true c17
  clear c17
  obtain rfl := Option.some.inj H
  go_enter Try.func80, Try.ntmps80
  go_wp2_with (first | ((with_reducible refine zD 1 rfl ?_); refine zE 1 #[.int .i64 a0_0, .int .i64 a0_1, .int .i64 a0_2, .int .u32 a0_3] 48 ?_; intro Ab hg w18 hbox hb; have Aa := Am (hbox); have Ac := zA hg HB; replace HB := zB HB hb; have Ad := Ac; clear hb hbox hg; obtain ⟨_, _, _, _⟩ := bc4 Aa.out; obtain ⟨_, _, _, _⟩ := bf4 Aa.out))
  go_ret
  exact ⟨pX, pE HB.out Ad.out⟩
 rw [if_neg c17] at H
 have c17b0 : decide (4096 < a0_2) = false := decide_eq_false c17
 clear c17
 obtain rfl := Option.some.inj H
 go_enter Try.func80, Try.ntmps80
 go_wp2_with (first | ((with_reducible refine zD 1 rfl ?_); refine zE 1 #[.int .i64 a0_0, .int .i64 a0_1, .int .i64 a0_2, .int .u32 a0_3] 48 ?_; intro Ab hg w20 hbox hb; have Aa := Am (hbox); have Ac := zA hg HB; replace HB := zB HB hb; have Ad := Ac; clear hb hbox hg; obtain ⟨_, _, _, _⟩ := bc4 Aa.out; obtain ⟨_, _, _, _⟩ := bf4 Aa.out))
 go_ret
 exact ⟨pX, pE HB.out Ad.out⟩
def cell_Check.f (a0_0 : Bool) (l0_1 : List Int) (a0_2 : Int) (a0_3 : Int) (a0_4 : Int) (a0_5 : Int) : Option (Int) := if a0_0 = true then (if (l0_1.length : Int) > 0 then (some 1) else ((point_Check.f a0_2 a0_3 a0_4 a0_5).bind fun t121 => (some t121))) else (if (l0_1.length : Int) > 32 then (some 1) else (if (!(a0_2 == 0) || (!(a0_3 == 0) || (!(a0_4 == 0) || (!(a0_5 == 0))))) = true then (some 1) else (some 0)))
set_option maxRecDepth 100000 in
theorem cell_Check.calls (a0_0 : Bool) (A0_1 : Option Addr) (c0_1 : Nat) (l0_1 : List Int) (a0_2 : Int) (a0_3 : Int) (a0_4 : Int) (a0_5 : Int) (r : Int) (w : World) (hr0_1 : Kd.C (Kd.int .u8) w A0_1 l0_1.length l0_1) (hc0_1 : l0_1.length ≤ c0_1) (h : cell_Check.f a0_0 l0_1 a0_2 a0_3 a0_4 a0_5 = some r) :
 Calls Try.prog 69 #[.agg #[.bool a0_0, .slice A0_1 l0_1.length c0_1, .int .i64 a0_2, .int .i64 a0_3, .int .i64 a0_4, .int .u32 a0_5]] w fun e w' => e = .returned (.int .i64 r) ∧ Below w.heap.size w w' := by
 have hu50 := Try.underlying50
 have hu48 := Try.underlying48
 have HR0_1 := Am hr0_1
 have HC0_1 := Am hc0_1
 clear hr0_1 hc0_1
 have HB := Am (Below.refl w.heap.size w)
 unfold cell_Check.f at h
 have H := h
 clear h
 by_cases c2 : a0_0 = true
 ·subst c2
  rw [if_pos rfl] at H
  by_cases c3 : (l0_1.length : Int) > 0
  ·rw [if_pos c3] at H
   have c3b0 : decide (0 < (l0_1.length : Int)) = true := decide_eq_true c3
   have c3b1 : decide (0 < l0_1.length) = true := decide_eq_true (by omega)
   clear c3
   obtain rfl := Option.some.inj H
   go_enter Try.func69, Try.ntmps69
   go_wp2_with (first | ((with_reducible refine zD 1 rfl ?_); refine zE 1 #[.bool true, .slice A0_1 l0_1.length c0_1, .int .i64 a0_2, .int .i64 a0_3, .int .i64 a0_4, .int .u32 a0_5] 50 ?_; intro Ac hg w4 hbox hb; have Aa := Am (hbox); have Ad := zA hg HB; replace HB := zB HB hb; have Ab := Ad; clear hb hbox hg; obtain ⟨_, _, _, _, _, _⟩ := bc6 Aa.out; obtain ⟨_, _, _, _, _, _⟩ := bf6 Aa.out))
   go_ret
   exact ⟨pX, pE HB.out Ab.out⟩
  rw [if_neg c3] at H
  have c3b0 : decide (0 < (l0_1.length : Int)) = false := decide_eq_false c3
  have c3b1 : decide (0 < l0_1.length) = false := decide_eq_false (by omega)
  clear c3
  obtain ⟨t121, A6, H⟩ := zb H
  obtain rfl := Option.some.inj H
  go_enter Try.func69, Try.ntmps69
  go_wp2_with (first | ((with_reducible refine zD 1 rfl ?_); refine zE 1 #[.bool true, .slice A0_1 l0_1.length c0_1, .int .i64 a0_2, .int .i64 a0_3, .int .i64 a0_4, .int .u32 a0_5] 50 ?_; intro Ac hg w7 hbox hb; have Aa := Am (hbox); have Ad := zA hg HB; replace HB := zB HB hb; have Ab := Ad; clear hb hbox hg; obtain ⟨_, _, _, _, _, _⟩ := bc6 Aa.out; obtain ⟨_, _, _, _, _, _⟩ := bf6 Aa.out) | ((with_reducible refine zC 80 rfl ?_); refine zL (some 11) Try.func80 #[.agg #[.int .i64 a0_2, .int .i64 a0_3, .int .i64 a0_4, .int .u32 a0_5]] ?_; (with_reducible refine (point_Check.calls a0_2 a0_3 a0_4 a0_5 t121 _ A6.out).mono ?_); rintro e w9 ⟨rfl, hb⟩; refine ⟨_, rfl, ?_⟩; replace Aa := kBa Aa hb; replace HB := zX1 HB Ab.out hb; (try clear hb)))
  go_ret
  exact ⟨pX, pE HB.out Ab.out⟩
 replace c2 := Bool.eq_false_iff.mpr c2
 subst c2
 rw [if_neg zF] at H
 by_cases c10 : (l0_1.length : Int) > 32
 ·rw [if_pos c10] at H
  have c10b0 : decide (32 < (l0_1.length : Int)) = true := decide_eq_true c10
  have c10b1 : decide (32 < l0_1.length) = true := decide_eq_true (by omega)
  clear c10
  obtain rfl := Option.some.inj H
  go_enter Try.func69, Try.ntmps69
  go_wp2_with (first | ((with_reducible refine zD 1 rfl ?_); refine zE 1 #[.bool false, .slice A0_1 l0_1.length c0_1, .int .i64 a0_2, .int .i64 a0_3, .int .i64 a0_4, .int .u32 a0_5] 50 ?_; intro Ac hg w11 hbox hb; have Aa := Am (hbox); have Ad := zA hg HB; replace HB := zB HB hb; have Ab := Ad; clear hb hbox hg; obtain ⟨_, _, _, _, _, _⟩ := bc6 Aa.out; obtain ⟨_, _, _, _, _, _⟩ := bf6 Aa.out))
  go_ret
  exact ⟨pX, pE HB.out Ab.out⟩
 rw [if_neg c10] at H
 have c10b0 : decide (32 < (l0_1.length : Int)) = false := decide_eq_false c10
 have c10b1 : decide (32 < l0_1.length) = false := decide_eq_false (by omega)
 clear c10
 by_cases c13 : (!(a0_2 == 0) || (!(a0_3 == 0) || (!(a0_4 == 0) || (!(a0_5 == 0))))) = true
 ·rw [if_pos c13] at H
  have c13b0 : (!(a0_2 == 0) || (!(a0_3 == 0) || (!(a0_4 == 0) || (!(a0_5 == 0))))) = true := c13
  clear c13
  obtain rfl := Option.some.inj H
  go_enter Try.func69, Try.ntmps69
  go_wp2_with (first | ((with_reducible refine zD 1 rfl ?_); refine zE 1 #[.bool false, .slice A0_1 l0_1.length c0_1, .int .i64 a0_2, .int .i64 a0_3, .int .i64 a0_4, .int .u32 a0_5] 50 ?_; intro Ac hg w14 hbox hb; have Aa := Am (hbox); have Ad := zA hg HB; replace HB := zB HB hb; have Ab := Ad; clear hb hbox hg; obtain ⟨_, _, _, _, _, _⟩ := bc6 Aa.out; obtain ⟨_, _, _, _, _, _⟩ := bf6 Aa.out))
  go_ret
  exact ⟨pX, pE HB.out Ab.out⟩
 rw [if_neg c13] at H
 have c13b0 : (!(a0_2 == 0) || (!(a0_3 == 0) || (!(a0_4 == 0) || (!(a0_5 == 0))))) = false := by simpa using c13
 clear c13
 obtain rfl := Option.some.inj H
 go_enter Try.func69, Try.ntmps69
 go_wp2_with (first | ((with_reducible refine zD 1 rfl ?_); refine zE 1 #[.bool false, .slice A0_1 l0_1.length c0_1, .int .i64 a0_2, .int .i64 a0_3, .int .i64 a0_4, .int .u32 a0_5] 50 ?_; intro Ac hg w16 hbox hb; have Aa := Am (hbox); have Ad := zA hg HB; replace HB := zB HB hb; have Ab := Ad; clear hb hbox hg; obtain ⟨_, _, _, _, _, _⟩ := bc6 Aa.out; obtain ⟨_, _, _, _, _, _⟩ := bf6 Aa.out))
 go_ret
 exact ⟨pX, pE HB.out Ab.out⟩
def entry_counts.f (a0 : Int) : Option (Bool) := if a0 ≥ 1 then (some (decide (a0 ≤ 2147483647))) else (some false)
set_option maxRecDepth 100000 in
theorem entry_counts.calls (a0 : Int) (r : Bool) (w : World) (h : entry_counts.f a0 = some r) :
 Calls Try.prog 72 #[.int .i64 a0] w fun e w' => e = .returned (.bool r) ∧ Drawn0 w w' := by
 unfold entry_counts.f at h
 have H := h
 clear h
 by_cases c2 : a0 ≥ 1
 ·rw [if_pos c2] at H
  have c2b0 : decide (1 ≤ a0) = true := decide_eq_true c2
  clear c2
  obtain rfl := Option.some.inj H
  go_enter Try.func72, Try.ntmps72
  go_wp2
  go_ret
  exact ⟨zr, zd⟩
 rw [if_neg c2] at H
 have c2b0 : decide (1 ≤ a0) = false := decide_eq_false c2
 clear c2
 obtain rfl := Option.some.inj H
 go_enter Try.func72, Try.ntmps72
 go_wp2
 go_ret
 exact ⟨zr, zd⟩
mutual
def entry_Check.j0 : Nat → Bool → Int → Int → Int → ByteArray → Bool → List Int → Int → Int → Int → Int → Option (Int)
 | 0, _, _, _, _, _, _, _, _, _, _, _ => none
 | k + 1, x22, x123000, x123001, x123002, x123003, x123004, x123005, x123006, x123007, x123008, x123009 => if x22 = true then (some 1) else (if (x123003.size : Int) > 64 then (entry_Check.j1 k true x123000 x123001 x123002 x123003 x123004 x123005 x123006 x123007 x123008 x123009) else (entry_Check.j1 k ((x123003.toList == ([] : List UInt8)) != (x123002 == 0)) x123000 x123001 x123002 x123003 x123004 x123005 x123006 x123007 x123008 x123009))
def entry_Check.j1 : Nat → Bool → Int → Int → Int → ByteArray → Bool → List Int → Int → Int → Int → Int → Option (Int)
 | 0, _, _, _, _, _, _, _, _, _, _, _ => none
 | k + 1, x35, x123000, x123001, x123002, x123003, x123004, x123005, x123006, x123007, x123008, x123009 => if x35 = true then (some 1) else (if x123002 = 2 then ((cell_Same.f x123004 x123005 x123006 x123007 x123008 x123009 false ([] : List Int) 0 0 0 0).bind fun t125 => (if t125 = true then ((cell_Check.f x123004 x123005 x123006 x123007 x123008 x123009).bind fun t126 => (some t126)) else (some 1))) else ((cell_Check.f x123004 x123005 x123006 x123007 x123008 x123009).bind fun t127 => (some t127)))
end
def entry_Check.f (k : Nat) (a0_0 : Int) (a0_1 : Int) (a0_2 : Int) (a0_3 : ByteArray) (a0_4 : Bool) (l0_5 : List Int) (a0_6 : Int) (a0_7 : Int) (a0_8 : Int) (a0_9 : Int) : Option (Int) := (entry_counts.f a0_0).bind fun t123 => (if t123 = true then ((entry_counts.f a0_1).bind fun t124 => (if t124 = true then (if a0_2 < 0 then (entry_Check.j0 k true a0_0 a0_1 a0_2 a0_3 a0_4 l0_5 a0_6 a0_7 a0_8 a0_9) else (entry_Check.j0 k (decide (a0_2 > 2)) a0_0 a0_1 a0_2 a0_3 a0_4 l0_5 a0_6 a0_7 a0_8 a0_9)) else (entry_Check.j0 k true a0_0 a0_1 a0_2 a0_3 a0_4 l0_5 a0_6 a0_7 a0_8 a0_9))) else (entry_Check.j0 k true a0_0 a0_1 a0_2 a0_3 a0_4 l0_5 a0_6 a0_7 a0_8 a0_9))
theorem entry_Check.mono_l : ∀ k, (∀ y0 y1 y2 y3 y4 y5 y6 y7 y8 y9 y10, LeO (entry_Check.j0 k y0 y1 y2 y3 y4 y5 y6 y7 y8 y9 y10) (entry_Check.j0 (k + 1) y0 y1 y2 y3 y4 y5 y6 y7 y8 y9 y10)) ∧ (∀ y0 y1 y2 y3 y4 y5 y6 y7 y8 y9 y10, LeO (entry_Check.j1 k y0 y1 y2 y3 y4 y5 y6 y7 y8 y9 y10) (entry_Check.j1 (k + 1) y0 y1 y2 y3 y4 y5 y6 y7 y8 y9 y10))
 | 0 => ⟨fun _ _ _ _ _ _ _ _ _ _ _ r h => by simp [entry_Check.j0] at h, fun _ _ _ _ _ _ _ _ _ _ _ r h => by simp [entry_Check.j1] at h⟩
 | k + 1 => by
  obtain ⟨ih0, ih1⟩ := entry_Check.mono_l k
  refine ⟨?_, ?_⟩
  ·intro y0 y1 y2 y3 y4 y5 y6 y7 y8 y9 y10
   unfold entry_Check.j0
   repeat' (with_reducible first | exact ih0 .. | exact ih1 .. | exact LeO.refl .. | exact LeO.none .. | refine LeO.ite ?_ ?_ | refine LeO.bind ?_ (fun _ => ?_))
  ·intro y0 y1 y2 y3 y4 y5 y6 y7 y8 y9 y10
   unfold entry_Check.j1
   repeat' (with_reducible first | exact ih0 .. | exact ih1 .. | exact LeO.refl .. | exact LeO.none .. | refine LeO.ite ?_ ?_ | refine LeO.bind ?_ (fun _ => ?_))
theorem entry_Check.mono : ∀ a0 a1 a2 a3 a4 a5 a6 a7 a8 a9 k, LeO (entry_Check.f k a0 a1 a2 a3 a4 a5 a6 a7 a8 a9) (entry_Check.f (k + 1) a0 a1 a2 a3 a4 a5 a6 a7 a8 a9) := by
 intro a0 a1 a2 a3 a4 a5 a6 a7 a8 a9 k
 obtain ⟨ih0, ih1⟩ := entry_Check.mono_l k
 unfold entry_Check.f
 repeat' (with_reducible first | exact ih0 .. | exact ih1 .. | exact LeO.refl .. | exact LeO.none .. | refine LeO.ite ?_ ?_ | refine LeO.bind ?_ (fun _ => ?_))
set_option maxRecDepth 100000 in
theorem entry_Check.calls (k : Nat) (a0_0 : Int) (a0_1 : Int) (a0_2 : Int) (a0_3 : ByteArray) (a0_4 : Bool) (A0_5 : Option Addr) (c0_5 : Nat) (l0_5 : List Int) (a0_6 : Int) (a0_7 : Int) (a0_8 : Int) (a0_9 : Int) (r : Int) (w : World) (hr0_5 : Kd.C (Kd.int .u8) w A0_5 l0_5.length l0_5) (hc0_5 : l0_5.length ≤ c0_5) (h : entry_Check.f k a0_0 a0_1 a0_2 a0_3 a0_4 l0_5 a0_6 a0_7 a0_8 a0_9 = some r) :
 Calls Try.prog 55 #[.agg #[.int .i64 a0_0, .int .i64 a0_1, .int .i64 a0_2, .string a0_3, .bool a0_4, .slice A0_5 l0_5.length c0_5, .int .i64 a0_6, .int .i64 a0_7, .int .i64 a0_8, .int .u32 a0_9]] w fun e w' => e = .returned (.int .i64 r) ∧ Below w.heap.size w w' := by
 have hu52 := Try.underlying52
 have hu50 := Try.underlying50
 have Af := Am hr0_5
 have Ag := Am hc0_5
 clear hr0_5 hc0_5
 have HB := Am (Below.refl w.heap.size w)
 unfold entry_Check.f at h
 have H := h
 clear h
 have HC2 := Am H
 clear H
 go_enter Try.func55, Try.ntmps55
 go_upto_region 1 with (first | ((with_reducible refine zD 1 rfl ?_); refine zE 1 #[.int .i64 a0_0, .int .i64 a0_1, .int .i64 a0_2, .string a0_3, .bool a0_4, .slice A0_5 l0_5.length c0_5, .int .i64 a0_6, .int .i64 a0_7, .int .i64 a0_8, .int .u32 a0_9] 52 ?_; intro B9 hg w3 hbox hb; have Aa := Am (hbox); have D0 := zA hg HB; replace HB := zB HB hb; have Ab := D0; clear hb hbox hg))
 (try simp only [Act.put, List.setIfInBounds_toArray, List.set_cons_zero, List.set_cons_succ])
 go_cut [22] (fun v22 wc => ∃ (kq : Nat) (Ah : Bool), v22 = .bool Ah ∧ Aside0 (entry_Check.j0 kq Ah a0_0 a0_1 a0_2 a0_3 a0_4 l0_5 a0_6 a0_7 a0_8 a0_9 = some r) ∧ Aside0 (kq ≤ k) ∧ Aside0 (wc.heap[B9]? = some (.cells #[.int .i64 a0_0, .int .i64 a0_1, .int .i64 a0_2, .string a0_3, .bool a0_4, (.slice A0_5 l0_5.length c0_5), .int .i64 a0_6, .int .i64 a0_7, .int .i64 a0_8, .int .u32 a0_9] 52 (0, 0))) ∧ Aside0 (Below w.heap.size w wc))
 case first =>
  have H := HC2.out
  clear HC2
  obtain ⟨t123, A4, H⟩ := zb H
  by_cases c5 : t123 = true
  rotate_left
  ·replace c5 := Bool.eq_false_iff.mpr c5
   subst c5
   rw [if_neg zF] at H
   have H' := Am H
   clear H
   obtain ⟨Bp, Bq, Br, Bs, Bt, Bu, Bv, Bw, Bx, By⟩ := bc10 Aa.out
   obtain ⟨Bz, B0, B1, B2, B3, B4, B5, B6, B7, B8⟩ := bf10 Aa.out
   go_wp2_with (first | ((with_reducible refine zC 72 rfl ?_); refine zL (some 5) Try.func72 #[.int .i64 a0_0] ?_; (with_reducible refine (entry_counts.calls a0_0 false _ A4.out).mono ?_); rintro e w' ⟨rfl, ⟨nd, rfl⟩⟩; refine ⟨_, rfl, ?_⟩))
   go_meet
   case rel => exact ⟨_, (true), zr, H', ⟨zo⟩, ⟨pK Aa.out⟩, ⟨pE HB.out Ab.out⟩⟩
  subst c5
  rw [if_pos rfl] at H
  obtain ⟨t124, A6, H⟩ := zb H
  by_cases c7 : t124 = true
  rotate_left
  ·replace c7 := Bool.eq_false_iff.mpr c7
   subst c7
   rw [if_neg zF] at H
   have H' := Am H
   clear H
   obtain ⟨A3, A5, A7, A8, A9, Ba, Bb, Bc, Bd, Be⟩ := bc10 Aa.out
   obtain ⟨Bf, Bg, Bh, Bi, Bj, Bk, Bl, Bm, Bn, Bo⟩ := bf10 Aa.out
   go_wp2_with (first | ((with_reducible refine zC 72 rfl ?_); refine zL (some 5) Try.func72 #[.int .i64 a0_0] ?_; (with_reducible refine (entry_counts.calls a0_0 true _ A4.out).mono ?_); rintro e w' ⟨rfl, ⟨nd, rfl⟩⟩; refine ⟨_, rfl, ?_⟩) | (go_at_call 72; (with_reducible refine (entry_counts.calls a0_1 false _ A6.out).mono ?_); rintro e w' ⟨rfl, ⟨nd, rfl⟩⟩))
   go_meet
   case rel => exact ⟨_, (true), zr, H', ⟨zo⟩, ⟨pK Aa.out⟩, ⟨pE HB.out Ab.out⟩⟩
  subst c7
  rw [if_pos rfl] at H
  by_cases c8 : a0_2 < 0
  ·rw [if_pos c8] at H
   have c8b0 := decide_eq_true c8
   clear c8
   (first | rw [c8b0] | (simp only [i64_w, i32_w]; rw [c8b0]) | skip)
   have H' := Am H
   clear H
   obtain ⟨Cc, Cd, Ce, Cf, Cg, Ch, Ci, Cj, Ck, Cl⟩ := bc10 Aa.out
   obtain ⟨Cm, Cn, Co, Cp, Cq, Cr, Cs, Ct, Cu, Cv⟩ := bf10 Aa.out
   go_wp2_with (first | ((with_reducible refine zC 72 rfl ?_); refine zL (some 5) Try.func72 #[.int .i64 a0_0] ?_; (with_reducible refine (entry_counts.calls a0_0 true _ A4.out).mono ?_); rintro e w' ⟨rfl, ⟨nd, rfl⟩⟩; refine ⟨_, rfl, ?_⟩) | (go_at_call 72; (with_reducible refine (entry_counts.calls a0_1 true _ A6.out).mono ?_); rintro e w' ⟨rfl, ⟨nd, rfl⟩⟩))
   go_meet
   case rel => exact ⟨_, (true), zr, H', ⟨zo⟩, ⟨pK Aa.out⟩, ⟨pE HB.out Ab.out⟩⟩
  rw [if_neg c8] at H
  have c8b0 := decide_eq_false c8
  clear c8
  (first | rw [c8b0] | (simp only [i64_w, i32_w]; rw [c8b0]) | skip)
  have H' := Am H
  clear H
  obtain ⟨Ai, Aj, Ak, Al, An, Ao, Ap, Aq, Ar, As⟩ := bc10 Aa.out
  obtain ⟨At, Au, Av, Aw, Ax, Ay, Az, A0, A1, A2⟩ := bf10 Aa.out
  go_wp2_with (first | ((with_reducible refine zC 72 rfl ?_); refine zL (some 5) Try.func72 #[.int .i64 a0_0] ?_; (with_reducible refine (entry_counts.calls a0_0 true _ A4.out).mono ?_); rintro e w' ⟨rfl, ⟨nd, rfl⟩⟩; refine ⟨_, rfl, ?_⟩) | (go_at_call 72; (with_reducible refine (entry_counts.calls a0_1 true _ A6.out).mono ?_); rintro e w' ⟨rfl, ⟨nd, rfl⟩⟩))
  go_meet
  case rel => exact ⟨_, (decide (a0_2 > 2)), zr, H', ⟨zo⟩, ⟨pK Aa.out⟩, ⟨pE HB.out Ab.out⟩⟩
 case rest =>
  clear HC2
  try clear p2
  try clear c5
  try clear c7
  try clear c8
  try clear c8b0
  try clear Ai Aj Ak Al An Ao Ap Aq Ar As
  try clear A3 A5 A7 A8 A9 Ba Bb Bc Bd Be
  try clear Bp Bq Br Bs Bt Bu Bv Bw Bx By
  try clear Cc Cd Ce Cf Cg Ch Ci Cj Ck Cl
  try clear At Au Av Aw Ax Ay Az A0 A1 A2
  try clear Bf Bg Bh Bi Bj Bk Bl Bm Bn Bo
  try clear Bz B0 B1 B2 B3 B4 B5 B6 B7 B8
  try clear Cm Cn Co Cp Cq Cr Cs Ct Cu Cv
  obtain ⟨kq, Ah, rfl, HA, HJ1, Aa, HB⟩ := hcut
  cases kq with
  | zero => exact absurd HA.out (by simp [entry_Check.j0])
  | succ kj1 =>
   have H := HA.out
   clear HA
   simp only [entry_Check.j0] at H
   by_cases c13 : Ah = true
   ·subst c13
    rw [if_pos rfl] at H
    obtain rfl := Option.some.inj H
    go_wp2
    go_ret
    exact ⟨pX, pE HB.out Ab.out⟩
   replace c13 := Bool.eq_false_iff.mpr c13
   subst c13
   rw [if_neg zF] at H
   have HC14 := Am H
   clear H
   go_upto_region 3 with (fail)
   go_cut [35] (fun v35 wc => ∃ (kq : Nat) (Ae : Bool), v35 = .bool Ae ∧ Aside0 (entry_Check.j1 kq Ae a0_0 a0_1 a0_2 a0_3 a0_4 l0_5 a0_6 a0_7 a0_8 a0_9 = some r) ∧ Aside0 (kq ≤ kj1) ∧ Aside0 (wc.heap[B9]? = some (.cells #[.int .i64 a0_0, .int .i64 a0_1, .int .i64 a0_2, .string a0_3, .bool a0_4, (.slice A0_5 l0_5.length c0_5), .int .i64 a0_6, .int .i64 a0_7, .int .i64 a0_8, .int .u32 a0_9] 52 (0, 0))) ∧ Aside0 (Below w.heap.size w wc))
   case first =>
    have H := HC14.out
    clear HC14
    by_cases c15 : (a0_3.size : Int) > 64
    ·rw [if_pos c15] at H
     have c15b0 : decide (64 < (a0_3.size : Int)) = true := decide_eq_true c15
     have c15b1 : decide (64 < a0_3.size) = true := decide_eq_true (by omega)
     clear c15
     (first | rw [c15b0] | (simp only [i64_w, i32_w]; rw [c15b0]) | skip)
     have H' := Am H
     clear H
     obtain ⟨Cw, Cx, Cy, Cz, C0, C1, C2, C3, C4, C5⟩ := bc10 Aa.out
     obtain ⟨C6, C7, C8, C9, Da, Db, Dc, Dd, De, Df⟩ := bf10 Aa.out
     go_wp2
     go_meet
     case rel => exact ⟨_, (true), zr, H', ⟨by have := HJ1.out; first | omega | exact Nat.le_refl _⟩, ⟨pK Aa.out⟩, ⟨pE HB.out Ab.out⟩⟩
    rw [if_neg c15] at H
    have c15b0 : decide (64 < (a0_3.size : Int)) = false := decide_eq_false c15
    have c15b1 : decide (64 < a0_3.size) = false := decide_eq_false (by omega)
    clear c15
    (first | rw [c15b0] | (simp only [i64_w, i32_w]; rw [c15b0]) | skip)
    have H' := Am H
    clear H
    obtain ⟨Dg, Dh, Di, Dj, Dk, Dl, Dm, Dn, Do, Dp⟩ := bc10 Aa.out
    obtain ⟨Dq, Dr, Ds, Dt, Du, Dv, Dw, Dx, Dy, Dz⟩ := bf10 Aa.out
    go_wp2
    go_meet
    case rel => exact ⟨_, (((a0_3.toList == ([] : List UInt8)) != (a0_2 == 0))), (by first | rfl | (simp; done) | (simp [*]; done) | (simp; generalize List.isEmpty _ = p_; generalize (a0_2 == 0) = q_; revert p_ q_; decide)), H', ⟨by have := HJ1.out; first | omega | exact Nat.le_refl _⟩, ⟨pK Aa.out⟩, ⟨pE HB.out Ab.out⟩⟩
   case rest =>
    clear HC14
    try clear c1
    try clear p2
    try clear c5
    try clear c7
    try clear c8
    try clear c8b0
    try clear c13
    try clear c15
    try clear c15b0
    try clear c15b1
    try clear Ai Aj Ak Al An Ao Ap Aq Ar As
    try clear A3 A5 A7 A8 A9 Ba Bb Bc Bd Be
    try clear Bp Bq Br Bs Bt Bu Bv Bw Bx By
    try clear Cw Cx Cy Cz C0 C1 C2 C3 C4 C5
    try clear Dg Dh Di Dj Dk Dl Dm Dn Do Dp
    try clear Cc Cd Ce Cf Cg Ch Ci Cj Ck Cl
    try clear At Au Av Aw Ax Ay Az A0 A1 A2
    try clear Bf Bg Bh Bi Bj Bk Bl Bm Bn Bo
    try clear Bz B0 B1 B2 B3 B4 B5 B6 B7 B8
    try clear C6 C7 C8 C9 Da Db Dc Dd De Df
    try clear Dq Dr Ds Dt Du Dv Dw Dx Dy Dz
    try clear Cm Cn Co Cp Cq Cr Cs Ct Cu Cv
    try clear p2
    obtain ⟨kq, Ae, rfl, HA, HJ13, Aa, HB⟩ := hcut
    cases kq with
    | zero => exact absurd HA.out (by simp [entry_Check.j1])
    | succ kj13 =>
     have H := HA.out
     clear HA
     simp only [entry_Check.j1] at H
     by_cases c18 : Ae = true
     ·subst c18
      rw [if_pos rfl] at H
      obtain rfl := Option.some.inj H
      go_wp2
      go_ret
      exact ⟨pX, pE HB.out Ab.out⟩
     replace c18 := Bool.eq_false_iff.mpr c18
     subst c18
     rw [if_neg zF] at H
     by_cases c19 : a0_2 = 2
     rotate_left
     ·rw [if_neg c19] at H
      obtain ⟨c19b0, c19b1⟩ := zk c19
      obtain ⟨t127, A29, H⟩ := zb H
      obtain rfl := Option.some.inj H
      obtain ⟨_, _, _, _, _, _, _, _, _, _⟩ := bc10 Aa.out
      obtain ⟨_, _, _, _, _, _, _, _, _, _⟩ := bf10 Aa.out
      go_wp2_with (first | ((with_reducible refine zC 69 rfl ?_); refine zL (some 48) Try.func69 #[.agg #[.bool a0_4, .slice A0_5 l0_5.length c0_5, .int .i64 a0_6, .int .i64 a0_7, .int .i64 a0_8, .int .u32 a0_9]] ?_; (with_reducible refine (cell_Check.calls a0_4 _ _ l0_5 a0_6 a0_7 a0_8 a0_9 t127 _ ?Ac ?Ad A29.out).mono ?_); (case Ac => exact pC (Kd.C_below Af.out HB.out)); (case Ad => exact Ag.out); rintro e w31 ⟨rfl, hb⟩; refine ⟨_, rfl, ?_⟩; replace Aa := kBa Aa hb; replace HB := zX1 HB Ab.out hb; (try clear hb)))
      go_ret
      exact ⟨pX, pE HB.out Ab.out⟩
     rw [if_pos c19] at H
     obtain ⟨c19b0, c19b1⟩ := zc c19
     clear c19
     obtain ⟨t125, A20, H⟩ := zb H
     by_cases c21 : t125 = true
     rotate_left
     ·replace c21 := Bool.eq_false_iff.mpr c21
      subst c21
      rw [if_neg zF] at H
      obtain rfl := Option.some.inj H
      obtain ⟨_, _, _, _, _, _, _, _, _, _⟩ := bc10 Aa.out
      obtain ⟨_, _, _, _, _, _, _, _, _, _⟩ := bf10 Aa.out
      go_wp2_with (first | (go_at_call 52; (refine (cell_Same.calls a0_4 _ _ l0_5 a0_6 a0_7 a0_8 a0_9 false _ _ ([] : List Int) 0 0 0 0 false _ ?Ac ?Ad ?Ca ?Cb A20.out).mono ?_); (case Ac => exact pC (Kd.C_below Af.out HB.out)); (case Ad => exact Ag.out); (case Ca => exact Kd.C_nil _ _); (case Cb => exact Nat.le_refl _); rintro e w28 ⟨rfl, hb⟩; replace Aa := kBa Aa hb; replace HB := zX1 HB Ab.out hb; (try clear hb)))
      go_ret
      exact ⟨pX, pE HB.out Ab.out⟩
     subst c21
     rw [if_pos rfl] at H
     obtain ⟨t126, A22, H⟩ := zb H
     obtain rfl := Option.some.inj H
     obtain ⟨_, _, _, _, _, _, _, _, _, _⟩ := bc10 Aa.out
     obtain ⟨_, _, _, _, _, _, _, _, _, _⟩ := bf10 Aa.out
     go_wp2_with (first | (go_at_call 52; (refine (cell_Same.calls a0_4 _ _ l0_5 a0_6 a0_7 a0_8 a0_9 false _ _ ([] : List Int) 0 0 0 0 true _ ?Ac ?Ad ?Ca ?Cb A20.out).mono ?_); (case Ac => exact pC (Kd.C_below Af.out HB.out)); (case Ad => exact Ag.out); (case Ca => exact Kd.C_nil _ _); (case Cb => exact Nat.le_refl _); rintro e w24 ⟨rfl, hb⟩; replace Aa := kBa Aa hb; replace HB := zX1 HB Ab.out hb; (try clear hb); obtain ⟨_, _, _, _, _, _, _, _, _, _⟩ := bc10 Aa.out; obtain ⟨_, _, _, _, _, _, _, _, _, _⟩ := bf10 Aa.out) | ((with_reducible refine zC 69 rfl ?_); refine zL (some 48) Try.func69 #[.agg #[.bool a0_4, .slice A0_5 l0_5.length c0_5, .int .i64 a0_6, .int .i64 a0_7, .int .i64 a0_8, .int .u32 a0_9]] ?_; (with_reducible refine (cell_Check.calls a0_4 _ _ l0_5 a0_6 a0_7 a0_8 a0_9 t126 _ ?Ac ?Ad A22.out).mono ?_); (case Ac => exact pC (Kd.C_below Af.out HB.out)); (case Ad => exact Ag.out); rintro e w26 ⟨rfl, hb⟩; refine ⟨_, rfl, ?_⟩; replace Aa := kBa Aa hb; replace HB := zX1 HB Ab.out hb; (try clear hb)))
     go_ret
     exact ⟨pX, pE HB.out Ab.out⟩
end
section
attribute [local go_sem] max2_int min2_int max_two min_two max_three min_three max_four min_four
set_option maxHeartbeats 8000000
attribute [local go_sem] wrap64_l1 wrap64_l2 wrap64_l3 wrap64_l4 wrap64_l5
attribute [local go_sem high] eqA28
mutual
def entry_Batch.j0 : Nat → List (S52) → Bool → Option (Int)
 | 0, _, _ => none
 | k + 1, x0, x13 => if x13 = true then (some 1) else (entry_Batch.l0 k x0 x0 (x0.length : Int) 0)
def entry_Batch.l0 : Nat → List (S52) → List (S52) → Int → Int → Option (Int)
 | 0, _, _, _, _ => none
 | k + 1, x0, x14, x15, x16 => if x16 < x15 then (if 0 ≤ x16 then (if x16 < (x14.length : Int) then ((entry_Check.f k ((rd_T52 x14 x16).f0) ((rd_T52 x14 x16).f1) ((rd_T52 x14 x16).f2) ((rd_T52 x14 x16).f3) ((rd_T52 x14 x16).f4.f0) ((rd_T52 x14 x16).f4.f1) ((rd_T52 x14 x16).f4.f2.f0) ((rd_T52 x14 x16).f4.f2.f1) ((rd_T52 x14 x16).f4.f2.f2) ((rd_T52 x14 x16).f4.f2.f3)).bind fun t130 => (if t130 = 0 then (if x16 > 0 then (if 0 ≤ (wrap64 (x16 - 1)) then (if (wrap64 (x16 - 1)) < (x0.length : Int) then (if ((rd_T52 x14 x16).f0) = (wrap64 (((rd_T52 x0 (wrap64 (x16 - 1))).f0) + 1)) then (if ((rd_T52 x14 x16).f1) < ((rd_T52 x0 (wrap64 (x16 - 1))).f1) then (some 1) else (entry_Batch.l0 k x0 x14 x15 (wrap64 (x16 + 1)))) else (some 1)) else (none)) else (none)) else (entry_Batch.l0 k x0 x14 x15 (wrap64 (x16 + 1)))) else (some t130))) else (none)) else (none)) else (some 0)
end
def entry_Batch.f (k : Nat) (l0 : List (S52)) : Option (Int) := if (l0.length : Int) < 1 then (entry_Batch.j0 k l0 true) else (entry_Batch.j0 k l0 (decide ((l0.length : Int) > 16)))
theorem entry_Batch.mono_l : ∀ k, (∀ y0 y1, LeO (entry_Batch.j0 k y0 y1) (entry_Batch.j0 (k + 1) y0 y1)) ∧ (∀ y0 y1 y2 y3, LeO (entry_Batch.l0 k y0 y1 y2 y3) (entry_Batch.l0 (k + 1) y0 y1 y2 y3))
 | 0 => ⟨fun _ _ r h => by simp [entry_Batch.j0] at h, fun _ _ _ _ r h => by simp [entry_Batch.l0] at h⟩
 | k + 1 => by
  obtain ⟨ih0, ih1⟩ := entry_Batch.mono_l k
  refine ⟨?_, ?_⟩
  ·intro y0 y1
   unfold entry_Batch.j0
   repeat' (with_reducible first | exact ih0 .. | exact ih1 .. | exact entry_Check.mono .. | exact LeO.refl .. | exact LeO.none .. | refine LeO.ite ?_ ?_ | refine LeO.bind ?_ (fun _ => ?_))
  ·intro y0 y1 y2 y3
   unfold entry_Batch.l0
   repeat' (with_reducible first | exact ih0 .. | exact ih1 .. | exact entry_Check.mono .. | exact LeO.refl .. | exact LeO.none .. | refine LeO.ite ?_ ?_ | refine LeO.bind ?_ (fun _ => ?_))
theorem entry_Batch.mono : ∀ a0 k, LeO (entry_Batch.f k a0) (entry_Batch.f (k + 1) a0) := by
 intro a0 k
 obtain ⟨ih0, ih1⟩ := entry_Batch.mono_l k
 unfold entry_Batch.f
 repeat' (with_reducible first | exact ih0 .. | exact ih1 .. | exact entry_Check.mono .. | exact LeO.refl .. | exact LeO.none .. | refine LeO.ite ?_ ?_ | refine LeO.bind ?_ (fun _ => ?_))
set_option maxRecDepth 100000 in
theorem entry_Batch.calls (k : Nat) (A0 : Option Addr) (c0 : Nat) (l0 : List (S52)) (r : Int) (w : World) (hr0 : Kd.C k52 w A0 l0.length l0) (hc0 : l0.length ≤ c0) (h : entry_Batch.f k l0 = some r) :
 Calls Try.prog 31 #[.slice A0 l0.length c0] w fun e w' => e = .returned (.int .i64 r) ∧ Below w.heap.size w w' := by
 have hu52 := Try.underlying52
 have HR0 := Am hr0
 have HC0 := Am hc0
 clear hr0 hc0
 have HB := Am (Below.refl w.heap.size w)
 unfold entry_Batch.f at h
 have H := h
 clear h
 have HC2 := Am H
 clear H
 go_enter Try.func31, Try.ntmps31
 go_upto_region 1 with (fail)
 repeat (go_quiet (fail); go_upto_region 1 with (fail))
 go_cut [13] (fun v13 wc => ∃ (kq : Nat) (Bw : Bool), v13 = .bool Bw ∧ Aside0 (entry_Batch.j0 kq l0 Bw = some r) ∧ Aside0 (kq ≤ k) ∧ Aside0 (Below w.heap.size w wc))
 case first =>
  have H := HC2.out
  clear HC2
  by_cases c3 : (l0.length : Int) < 1
  ·rw [if_pos c3] at H
   have c3b0 := decide_eq_true c3
   have c3b1 : decide (l0.length < 1) = true := decide_eq_true (by omega)
   clear c3
   (first | rw [c3b0] | (simp only [i64_w, i32_w]; rw [c3b0]) | skip)
   have H' := Am H
   clear H
   go_wp2
   repeat (go_quiet (fail); try go_wp2)
   go_meet
   case rel => exact ⟨_, (true), zr, H', ⟨zo⟩, ⟨pB HB.out⟩⟩
  rw [if_neg c3] at H
  have c3b0 := decide_eq_false c3
  have c3b1 : decide (l0.length < 1) = false := decide_eq_false (by omega)
  clear c3
  (first | rw [c3b0] | (simp only [i64_w, i32_w]; rw [c3b0]) | skip)
  have H' := Am H
  clear H
  go_wp2
  repeat (go_quiet (fail); try go_wp2)
  go_meet
  case rel => exact ⟨_, (decide ((l0.length : Int) > 16)), zr, H', ⟨zo⟩, ⟨pB HB.out⟩⟩
 case rest =>
  clear HC2
  try clear p2
  try clear c3
  try clear c3b0
  try clear c3b1
  obtain ⟨kq, Bw, rfl, HA, HJ1, HB⟩ := hcut
  cases kq with
  | zero => exact absurd HA.out (by simp [entry_Batch.j0])
  | succ kj1 =>
   have H := HA.out
   clear HA
   simp only [entry_Batch.j0] at H
   by_cases c4 : Bw = true
   ·subst c4
    rw [if_pos rfl] at H
    obtain rfl := Option.some.inj H
    go_wp2
    repeat (go_quiet (fail); try go_wp2)
    go_ret
    exact ⟨pX, pB HB.out⟩
   replace c4 := Bool.eq_false_iff.mpr c4
   subst c4
   rw [if_neg zF] at H
   have H' := Am H
   clear H
   go_wp2
   repeat (go_quiet (fail); try go_wp2)
   go_loopg [16] kj1 (fun kq v16 w' => ∃ (Aa : Int), v16 = .int .i64 Aa ∧ Aside0 (entry_Batch.l0 kq l0 l0 (l0.length : Int) Aa = some r) ∧ Aside0 (kq ≤ kj1) ∧ Aside0 (Below w.heap.size w w'))
   case atStart => exact ⟨(0), zr, H', ⟨Nat.le_refl _⟩, ⟨pB HB.out⟩⟩
   case round =>
    clear H'
    try clear p2
    try clear c3
    try clear c3b0
    try clear c3b1
    try clear c4
    try clear p2
    obtain ⟨Aa, rfl, HA, HK2, HB⟩ := hrel
    cases gk with
    | zero => exact absurd HA.out (by simp [entry_Batch.l0])
    | succ k2 =>
     have H := HA.out
     clear HA
     simp only [entry_Batch.l0] at H
     by_cases c5 : Aa < (l0.length : Int)
     rotate_left
     ·rw [if_neg c5] at H
      have c5b0 := decide_eq_false c5
      clear c5
      obtain rfl := Option.some.inj H
      go_wp2
      repeat (go_quiet (fail); try go_wp2)
      go_ret
      exact ⟨pX, pB HB.out⟩
     rw [if_pos c5] at H
     have c5b0 := decide_eq_true c5
     clear c5
     obtain ⟨c6, H⟩ := zI H
     have c6b0 := decide_eq_true c6
     clear c6
     obtain ⟨c7, H⟩ := zI H
     have c7b0 := decide_eq_true c7
     clear c7
     obtain ⟨t130, A8, H⟩ := zb H
     by_cases c9 : t130 = 0
     rotate_left
     ·rw [if_neg c9] at H
      obtain ⟨c9b0, c9b1⟩ := zk c9
      obtain rfl := Option.some.inj H
      have p128 : 0 ≤ (Aa : Int) := of_decide_eq_true pS
      have q128 : Aa < (l0.length : Int) := of_decide_eq_true pS
      obtain ⟨Bc, Bv, c128_5, e128, Bk, Bl, Bm, Bn, Bo, Bp, Bq, Br, Bs, Bt, Ba, Bb⟩ := at_T52u HR0.out Aa p128 q128 HB.out
      cases e128
      have As := Am Bb
      have At := Am Ba
      clear Bb Ba
      replace p128 := eq_true p128
      replace q128 := eq_true q128
      go_wp2_with (first | ((with_reducible refine zD 4 rfl ?_); (try (refine gate_guard (by rfl) ?_; dsimp only)); refine zE 4 #[.int .i64 0, .int .i64 0, .int .i64 0, .string (⟨#[]⟩ : ByteArray), .bool false, .slice none 0 0, .int .i64 0, .int .i64 0, .int .i64 0, .int .u32 0] 52 ?_; intro Ae hg w31 hbox hb; have Ab := Am (hbox); have Au := zA hg HB; replace HB := zB HB hb; have Ad := Au; clear hb hbox hg; obtain ⟨Fv, Fw, Fx, Fy, Fz, F0, F1, F2, F3, F4⟩ := bc10 Ab.out; obtain ⟨F5, F6, F7, F8, F9, Ga, Gb, Gc, Gd, Ge⟩ := bf10 Ab.out) | (go_at_call 55; (with_reducible refine (entry_Check.calls k2 ((rd_T52 l0 Aa).f0) ((rd_T52 l0 Aa).f1) ((rd_T52 l0 Aa).f2) ((rd_T52 l0 Aa).f3) ((rd_T52 l0 Aa).f4.f0) _ _ ((rd_T52 l0 Aa).f4.f1) ((rd_T52 l0 Aa).f4.f2.f0) ((rd_T52 l0 Aa).f4.f2.f1) ((rd_T52 l0 Aa).f4.f2.f2) ((rd_T52 l0 Aa).f4.f2.f3) t130 _ ?Av ?Aw A8.out).mono ?_); (case Av => exact Kd.C_below As.out (pE HB.out Ad.out)); (case Aw => exact At.out); rintro e w33 ⟨rfl, hb⟩; replace Ab := Am (blk_below (g := Ae) (kX0 Ab.out) hb); replace HB := zX1 HB Ad.out hb; (try clear hb)))
      repeat (go_quiet (first | ((with_reducible refine zD 4 rfl ?_); (try (refine gate_guard (by rfl) ?_; dsimp only)); refine zE 4 #[.int .i64 0, .int .i64 0, .int .i64 0, .string (⟨#[]⟩ : ByteArray), .bool false, .slice none 0 0, .int .i64 0, .int .i64 0, .int .i64 0, .int .u32 0] 52 ?_; intro Ae hg w31 hbox hb; have Ab := Am (hbox); have Au := zA hg HB; replace HB := zB HB hb; have Ad := Au; clear hb hbox hg; obtain ⟨Fv, Fw, Fx, Fy, Fz, F0, F1, F2, F3, F4⟩ := bc10 Ab.out; obtain ⟨F5, F6, F7, F8, F9, Ga, Gb, Gc, Gd, Ge⟩ := bf10 Ab.out) | (go_at_call 55; (with_reducible refine (entry_Check.calls k2 ((rd_T52 l0 Aa).f0) ((rd_T52 l0 Aa).f1) ((rd_T52 l0 Aa).f2) ((rd_T52 l0 Aa).f3) ((rd_T52 l0 Aa).f4.f0) _ _ ((rd_T52 l0 Aa).f4.f1) ((rd_T52 l0 Aa).f4.f2.f0) ((rd_T52 l0 Aa).f4.f2.f1) ((rd_T52 l0 Aa).f4.f2.f2) ((rd_T52 l0 Aa).f4.f2.f3) t130 _ ?Av ?Aw A8.out).mono ?_); (case Av => exact Kd.C_below As.out (pE HB.out Ad.out)); (case Aw => exact At.out); rintro e w33 ⟨rfl, hb⟩; replace Ab := Am (blk_below (g := Ae) (kX0 Ab.out) hb); replace HB := zX1 HB Ad.out hb; (try clear hb))); try go_wp2_with (first | ((with_reducible refine zD 4 rfl ?_); (try (refine gate_guard (by rfl) ?_; dsimp only)); refine zE 4 #[.int .i64 0, .int .i64 0, .int .i64 0, .string (⟨#[]⟩ : ByteArray), .bool false, .slice none 0 0, .int .i64 0, .int .i64 0, .int .i64 0, .int .u32 0] 52 ?_; intro Ae hg w31 hbox hb; have Ab := Am (hbox); have Au := zA hg HB; replace HB := zB HB hb; have Ad := Au; clear hb hbox hg; obtain ⟨Fv, Fw, Fx, Fy, Fz, F0, F1, F2, F3, F4⟩ := bc10 Ab.out; obtain ⟨F5, F6, F7, F8, F9, Ga, Gb, Gc, Gd, Ge⟩ := bf10 Ab.out) | (go_at_call 55; (with_reducible refine (entry_Check.calls k2 ((rd_T52 l0 Aa).f0) ((rd_T52 l0 Aa).f1) ((rd_T52 l0 Aa).f2) ((rd_T52 l0 Aa).f3) ((rd_T52 l0 Aa).f4.f0) _ _ ((rd_T52 l0 Aa).f4.f1) ((rd_T52 l0 Aa).f4.f2.f0) ((rd_T52 l0 Aa).f4.f2.f1) ((rd_T52 l0 Aa).f4.f2.f2) ((rd_T52 l0 Aa).f4.f2.f3) t130 _ ?Av ?Aw A8.out).mono ?_); (case Av => exact Kd.C_below As.out (pE HB.out Ad.out)); (case Aw => exact At.out); rintro e w33 ⟨rfl, hb⟩; replace Ab := Am (blk_below (g := Ae) (kX0 Ab.out) hb); replace HB := zX1 HB Ad.out hb; (try clear hb))))
      go_ret
      exact ⟨pX, pE HB.out Ad.out⟩
     rw [if_pos c9] at H
     obtain ⟨c9b0, c9b1⟩ := zc c9
     clear c9
     by_cases c10 : Aa > 0
     rotate_left
     ·rw [if_neg c10] at H
      have c10b0 : decide (0 < Aa) = false := decide_eq_false c10
      clear c10
      have H' := Am H
      clear H
      have p128 : 0 ≤ (Aa : Int) := of_decide_eq_true pS
      have q128 : Aa < (l0.length : Int) := of_decide_eq_true pS
      obtain ⟨Bc, Bv, c128_5, e128, Bk, Bl, Bm, Bn, Bo, Bp, Bq, Br, Bs, Bt, Ba, Bb⟩ := at_T52u HR0.out Aa p128 q128 HB.out
      cases e128
      have As := Am Bb
      have At := Am Ba
      clear Bb Ba
      replace p128 := eq_true p128
      replace q128 := eq_true q128
      go_wp2_with (first | ((with_reducible refine zD 4 rfl ?_); (try (refine gate_guard (by rfl) ?_; dsimp only)); refine zE 4 #[.int .i64 0, .int .i64 0, .int .i64 0, .string (⟨#[]⟩ : ByteArray), .bool false, .slice none 0 0, .int .i64 0, .int .i64 0, .int .i64 0, .int .u32 0] 52 ?_; intro Ae hg w28 hbox hb; have Ab := Am (hbox); have Au := zA hg HB; replace HB := zB HB hb; have Ad := Au; clear hb hbox hg; obtain ⟨Fb, Fc, Fd, Fe, Ff, Fg, Fh, Fi, Fj, Fk⟩ := bc10 Ab.out; obtain ⟨Fl, Fm, Fn, Fo, Fp, Fq, Fr, Fs, Ft, Fu⟩ := bf10 Ab.out) | (go_at_call 55; (with_reducible refine (entry_Check.calls k2 ((rd_T52 l0 Aa).f0) ((rd_T52 l0 Aa).f1) ((rd_T52 l0 Aa).f2) ((rd_T52 l0 Aa).f3) ((rd_T52 l0 Aa).f4.f0) _ _ ((rd_T52 l0 Aa).f4.f1) ((rd_T52 l0 Aa).f4.f2.f0) ((rd_T52 l0 Aa).f4.f2.f1) ((rd_T52 l0 Aa).f4.f2.f2) ((rd_T52 l0 Aa).f4.f2.f3) t130 _ ?Av ?Aw A8.out).mono ?_); (case Av => exact Kd.C_below As.out (pE HB.out Ad.out)); (case Aw => exact At.out); rintro e w30 ⟨rfl, hb⟩; replace Ab := Am (blk_below (g := Ae) (kX0 Ab.out) hb); replace HB := zX1 HB Ad.out hb; (try clear hb)))
      repeat (go_quiet (first | ((with_reducible refine zD 4 rfl ?_); (try (refine gate_guard (by rfl) ?_; dsimp only)); refine zE 4 #[.int .i64 0, .int .i64 0, .int .i64 0, .string (⟨#[]⟩ : ByteArray), .bool false, .slice none 0 0, .int .i64 0, .int .i64 0, .int .i64 0, .int .u32 0] 52 ?_; intro Ae hg w28 hbox hb; have Ab := Am (hbox); have Au := zA hg HB; replace HB := zB HB hb; have Ad := Au; clear hb hbox hg; obtain ⟨Fb, Fc, Fd, Fe, Ff, Fg, Fh, Fi, Fj, Fk⟩ := bc10 Ab.out; obtain ⟨Fl, Fm, Fn, Fo, Fp, Fq, Fr, Fs, Ft, Fu⟩ := bf10 Ab.out) | (go_at_call 55; (with_reducible refine (entry_Check.calls k2 ((rd_T52 l0 Aa).f0) ((rd_T52 l0 Aa).f1) ((rd_T52 l0 Aa).f2) ((rd_T52 l0 Aa).f3) ((rd_T52 l0 Aa).f4.f0) _ _ ((rd_T52 l0 Aa).f4.f1) ((rd_T52 l0 Aa).f4.f2.f0) ((rd_T52 l0 Aa).f4.f2.f1) ((rd_T52 l0 Aa).f4.f2.f2) ((rd_T52 l0 Aa).f4.f2.f3) t130 _ ?Av ?Aw A8.out).mono ?_); (case Av => exact Kd.C_below As.out (pE HB.out Ad.out)); (case Aw => exact At.out); rintro e w30 ⟨rfl, hb⟩; replace Ab := Am (blk_below (g := Ae) (kX0 Ab.out) hb); replace HB := zX1 HB Ad.out hb; (try clear hb))); try go_wp2_with (first | ((with_reducible refine zD 4 rfl ?_); (try (refine gate_guard (by rfl) ?_; dsimp only)); refine zE 4 #[.int .i64 0, .int .i64 0, .int .i64 0, .string (⟨#[]⟩ : ByteArray), .bool false, .slice none 0 0, .int .i64 0, .int .i64 0, .int .i64 0, .int .u32 0] 52 ?_; intro Ae hg w28 hbox hb; have Ab := Am (hbox); have Au := zA hg HB; replace HB := zB HB hb; have Ad := Au; clear hb hbox hg; obtain ⟨Fb, Fc, Fd, Fe, Ff, Fg, Fh, Fi, Fj, Fk⟩ := bc10 Ab.out; obtain ⟨Fl, Fm, Fn, Fo, Fp, Fq, Fr, Fs, Ft, Fu⟩ := bf10 Ab.out) | (go_at_call 55; (with_reducible refine (entry_Check.calls k2 ((rd_T52 l0 Aa).f0) ((rd_T52 l0 Aa).f1) ((rd_T52 l0 Aa).f2) ((rd_T52 l0 Aa).f3) ((rd_T52 l0 Aa).f4.f0) _ _ ((rd_T52 l0 Aa).f4.f1) ((rd_T52 l0 Aa).f4.f2.f0) ((rd_T52 l0 Aa).f4.f2.f1) ((rd_T52 l0 Aa).f4.f2.f2) ((rd_T52 l0 Aa).f4.f2.f3) t130 _ ?Av ?Aw A8.out).mono ?_); (case Av => exact Kd.C_below As.out (pE HB.out Ad.out)); (case Aw => exact At.out); rintro e w30 ⟨rfl, hb⟩; replace Ab := Am (blk_below (g := Ae) (kX0 Ab.out) hb); replace HB := zX1 HB Ad.out hb; (try clear hb))))
      go_roundg k2
      case measure => have := HJ1.out; have := HK2.out; omega
      case rel => exact ⟨(wrap64 (Aa + 1)), zr, H', ⟨by have := HJ1.out; have := HK2.out; omega⟩, ⟨pE HB.out Ad.out⟩⟩
     rw [if_pos c10] at H
     have c10b0 : decide (0 < Aa) = true := decide_eq_true c10
     clear c10
     obtain ⟨ji11, hji11⟩ : ∃ j_ : Int, (wrap64 (Aa - 1)) = j_ := ⟨_, rfl⟩
     replace H : (if 0 ≤ (ji11) then (if (ji11) < (l0.length : Int) then (if ((rd_T52 l0 Aa).f0) = (wrap64 (((rd_T52 l0 (ji11)).f0) + 1)) then (if ((rd_T52 l0 Aa).f1) < ((rd_T52 l0 (ji11)).f1) then (some 1) else (entry_Batch.l0 k2 l0 l0 (l0.length : Int) (wrap64 (Aa + 1)))) else (some 1)) else (none)) else (none)) = some r := by first | (rw [hji11] at H; exact H) | (simp only [hji11] at H ⊢; exact H)
     (try rw [hji11] at A8)
     have hji11w : (IntKind.i64.wrap (Aa - 1)) = ji11 := (i64_w _).trans hji11
     obtain ⟨c12, H⟩ := zI H
     have c12b0 := decide_eq_true c12
     clear c12
     obtain ⟨c13, H⟩ := zI H
     have c13b0 := decide_eq_true c13
     clear c13
     by_cases c14 : ((rd_T52 l0 Aa).f0) = (wrap64 (((rd_T52 l0 (ji11)).f0) + 1))
     rotate_left
     ·rw [if_neg c14] at H
      obtain ⟨c14b0, c14b1⟩ := zk c14
      obtain rfl := Option.some.inj H
      have p128 : 0 ≤ (Aa : Int) := of_decide_eq_true pS
      have q128 : Aa < (l0.length : Int) := of_decide_eq_true pS
      obtain ⟨Bc, Bv, c128_5, e128, Bk, Bl, Bm, Bn, Bo, Bp, Bq, Br, Bs, Bt, Ba, Bb⟩ := at_T52u HR0.out Aa p128 q128 HB.out
      cases e128
      have As := Am Bb
      have At := Am Ba
      clear Bb Ba
      replace p128 := eq_true p128
      replace q128 := eq_true q128
      go_wp2_with (first | ((with_reducible refine zD 4 rfl ?_); (try (refine gate_guard (by rfl) ?_; dsimp only)); refine zE 4 #[.int .i64 0, .int .i64 0, .int .i64 0, .string (⟨#[]⟩ : ByteArray), .bool false, .slice none 0 0, .int .i64 0, .int .i64 0, .int .i64 0, .int .u32 0] 52 ?_; intro Ae hg w24 hbox hb; have Ab := Am (hbox); have Au := zA hg HB; replace HB := zB HB hb; have Ad := Au; clear hb hbox hg; obtain ⟨D5, D6, D7, D8, D9, Ea, Eb, Ec, Ed, Ee⟩ := bc10 Ab.out; obtain ⟨Ef, Eg, Eh, Ei, Ej, Ek, El, Em, En, Eo⟩ := bf10 Ab.out) | (go_at_call 55; (with_reducible refine (entry_Check.calls k2 ((rd_T52 l0 Aa).f0) ((rd_T52 l0 Aa).f1) ((rd_T52 l0 Aa).f2) ((rd_T52 l0 Aa).f3) ((rd_T52 l0 Aa).f4.f0) _ _ ((rd_T52 l0 Aa).f4.f1) ((rd_T52 l0 Aa).f4.f2.f0) ((rd_T52 l0 Aa).f4.f2.f1) ((rd_T52 l0 Aa).f4.f2.f2) ((rd_T52 l0 Aa).f4.f2.f3) t130 _ ?Av ?Aw A8.out).mono ?_); (case Av => exact Kd.C_below As.out (pE HB.out Ad.out)); (case Aw => exact At.out); rintro e w26 ⟨rfl, hb⟩; replace Ab := Am (blk_below (g := Ae) (kX0 Ab.out) hb); replace HB := zX1 HB Ad.out hb; (try clear hb); obtain ⟨Ep, Er, Es, Et, Eu, Ew, Ex, Ey, Ez, E0⟩ := bc10 Ab.out; obtain ⟨E1, E2, E3, E4, E5, E6, E7, E8, E9, Fa⟩ := bf10 Ab.out; have p131 : 0 ≤ ((ji11) : Int) := of_decide_eq_true pS; have q131 : (ji11) < (l0.length : Int) := of_decide_eq_true pS; obtain ⟨Bd, Bh, c131_5, e131, Af, Ag, Ah, Ai, Aj, Ac, Ak, Al, An, Ao, Ap, Aq⟩ := at_T52 HR0.out (ji11) p131 q131; obtain rfl : Bc = Bd := (by injection e131); replace Af := cU HB.out Af; replace Ag := cU HB.out Ag; replace Ah := cU HB.out Ah; replace Ai := cU HB.out Ai; replace Aj := cU HB.out Aj; replace Ac := cU HB.out Ac; replace Ak := cU HB.out Ak; replace Al := cU HB.out Al; replace An := cU HB.out An; replace Ao := cU HB.out Ao; have Be := Am Aq; have Bf := Am Ap; clear Aq Ap; replace p131 := eq_true p131; replace q131 := eq_true q131))
      repeat (go_quiet (first | ((with_reducible refine zD 4 rfl ?_); (try (refine gate_guard (by rfl) ?_; dsimp only)); refine zE 4 #[.int .i64 0, .int .i64 0, .int .i64 0, .string (⟨#[]⟩ : ByteArray), .bool false, .slice none 0 0, .int .i64 0, .int .i64 0, .int .i64 0, .int .u32 0] 52 ?_; intro Ae hg w24 hbox hb; have Ab := Am (hbox); have Au := zA hg HB; replace HB := zB HB hb; have Ad := Au; clear hb hbox hg; obtain ⟨D5, D6, D7, D8, D9, Ea, Eb, Ec, Ed, Ee⟩ := bc10 Ab.out; obtain ⟨Ef, Eg, Eh, Ei, Ej, Ek, El, Em, En, Eo⟩ := bf10 Ab.out) | (go_at_call 55; (with_reducible refine (entry_Check.calls k2 ((rd_T52 l0 Aa).f0) ((rd_T52 l0 Aa).f1) ((rd_T52 l0 Aa).f2) ((rd_T52 l0 Aa).f3) ((rd_T52 l0 Aa).f4.f0) _ _ ((rd_T52 l0 Aa).f4.f1) ((rd_T52 l0 Aa).f4.f2.f0) ((rd_T52 l0 Aa).f4.f2.f1) ((rd_T52 l0 Aa).f4.f2.f2) ((rd_T52 l0 Aa).f4.f2.f3) t130 _ ?Av ?Aw A8.out).mono ?_); (case Av => exact Kd.C_below As.out (pE HB.out Ad.out)); (case Aw => exact At.out); rintro e w26 ⟨rfl, hb⟩; replace Ab := Am (blk_below (g := Ae) (kX0 Ab.out) hb); replace HB := zX1 HB Ad.out hb; (try clear hb); obtain ⟨Ep, Er, Es, Et, Eu, Ew, Ex, Ey, Ez, E0⟩ := bc10 Ab.out; obtain ⟨E1, E2, E3, E4, E5, E6, E7, E8, E9, Fa⟩ := bf10 Ab.out; have p131 : 0 ≤ ((ji11) : Int) := of_decide_eq_true pS; have q131 : (ji11) < (l0.length : Int) := of_decide_eq_true pS; obtain ⟨Bd, Bh, c131_5, e131, Af, Ag, Ah, Ai, Aj, Ac, Ak, Al, An, Ao, Ap, Aq⟩ := at_T52 HR0.out (ji11) p131 q131; obtain rfl : Bc = Bd := (by injection e131); replace Af := cU HB.out Af; replace Ag := cU HB.out Ag; replace Ah := cU HB.out Ah; replace Ai := cU HB.out Ai; replace Aj := cU HB.out Aj; replace Ac := cU HB.out Ac; replace Ak := cU HB.out Ak; replace Al := cU HB.out Al; replace An := cU HB.out An; replace Ao := cU HB.out Ao; have Be := Am Aq; have Bf := Am Ap; clear Aq Ap; replace p131 := eq_true p131; replace q131 := eq_true q131)); try go_wp2_with (first | ((with_reducible refine zD 4 rfl ?_); (try (refine gate_guard (by rfl) ?_; dsimp only)); refine zE 4 #[.int .i64 0, .int .i64 0, .int .i64 0, .string (⟨#[]⟩ : ByteArray), .bool false, .slice none 0 0, .int .i64 0, .int .i64 0, .int .i64 0, .int .u32 0] 52 ?_; intro Ae hg w24 hbox hb; have Ab := Am (hbox); have Au := zA hg HB; replace HB := zB HB hb; have Ad := Au; clear hb hbox hg; obtain ⟨D5, D6, D7, D8, D9, Ea, Eb, Ec, Ed, Ee⟩ := bc10 Ab.out; obtain ⟨Ef, Eg, Eh, Ei, Ej, Ek, El, Em, En, Eo⟩ := bf10 Ab.out) | (go_at_call 55; (with_reducible refine (entry_Check.calls k2 ((rd_T52 l0 Aa).f0) ((rd_T52 l0 Aa).f1) ((rd_T52 l0 Aa).f2) ((rd_T52 l0 Aa).f3) ((rd_T52 l0 Aa).f4.f0) _ _ ((rd_T52 l0 Aa).f4.f1) ((rd_T52 l0 Aa).f4.f2.f0) ((rd_T52 l0 Aa).f4.f2.f1) ((rd_T52 l0 Aa).f4.f2.f2) ((rd_T52 l0 Aa).f4.f2.f3) t130 _ ?Av ?Aw A8.out).mono ?_); (case Av => exact Kd.C_below As.out (pE HB.out Ad.out)); (case Aw => exact At.out); rintro e w26 ⟨rfl, hb⟩; replace Ab := Am (blk_below (g := Ae) (kX0 Ab.out) hb); replace HB := zX1 HB Ad.out hb; (try clear hb); obtain ⟨Ep, Er, Es, Et, Eu, Ew, Ex, Ey, Ez, E0⟩ := bc10 Ab.out; obtain ⟨E1, E2, E3, E4, E5, E6, E7, E8, E9, Fa⟩ := bf10 Ab.out; have p131 : 0 ≤ ((ji11) : Int) := of_decide_eq_true pS; have q131 : (ji11) < (l0.length : Int) := of_decide_eq_true pS; obtain ⟨Bd, Bh, c131_5, e131, Af, Ag, Ah, Ai, Aj, Ac, Ak, Al, An, Ao, Ap, Aq⟩ := at_T52 HR0.out (ji11) p131 q131; obtain rfl : Bc = Bd := (by injection e131); replace Af := cU HB.out Af; replace Ag := cU HB.out Ag; replace Ah := cU HB.out Ah; replace Ai := cU HB.out Ai; replace Aj := cU HB.out Aj; replace Ac := cU HB.out Ac; replace Ak := cU HB.out Ak; replace Al := cU HB.out Al; replace An := cU HB.out An; replace Ao := cU HB.out Ao; have Be := Am Aq; have Bf := Am Ap; clear Aq Ap; replace p131 := eq_true p131; replace q131 := eq_true q131)))
      go_ret
      exact ⟨by first | rfl | (simp [errW_none, errW_some] <;> rfl) | (simp only [← hji11]; first | rfl | (simp [errW_none, errW_some] <;> rfl)) | (simp [*, errW_none, errW_some] <;> rfl), pE HB.out Ad.out⟩
     rw [if_pos c14] at H
     obtain ⟨c14b0, c14b1⟩ := zc c14
     clear c14
     by_cases c15 : ((rd_T52 l0 Aa).f1) < ((rd_T52 l0 (ji11)).f1)
     ·rw [if_pos c15] at H
      have c15b0 := decide_eq_true c15
      clear c15
      obtain rfl := Option.some.inj H
      have p128 : 0 ≤ (Aa : Int) := of_decide_eq_true pS
      have q128 : Aa < (l0.length : Int) := of_decide_eq_true pS
      obtain ⟨Bc, Bv, c128_5, e128, Bk, Bl, Bm, Bn, Bo, Bp, Bq, Br, Bs, Bt, Ba, Bb⟩ := at_T52u HR0.out Aa p128 q128 HB.out
      cases e128
      have As := Am Bb
      have At := Am Ba
      clear Bb Ba
      replace p128 := eq_true p128
      replace q128 := eq_true q128
      go_wp2_with (first | ((with_reducible refine zD 4 rfl ?_); (try (refine gate_guard (by rfl) ?_; dsimp only)); refine zE 4 #[.int .i64 0, .int .i64 0, .int .i64 0, .string (⟨#[]⟩ : ByteArray), .bool false, .slice none 0 0, .int .i64 0, .int .i64 0, .int .i64 0, .int .u32 0] 52 ?_; intro Ae hg w16 hbox hb; have Ab := Am (hbox); have Au := zA hg HB; replace HB := zB HB hb; have Ad := Au; clear hb hbox hg; obtain ⟨Bx, By, Bz, B0, B1, B2, B3, B4, B5, B6⟩ := bc10 Ab.out; obtain ⟨B7, B8, B9, Ca, Cb, Cc, Cd, Ce, Cf, Cg⟩ := bf10 Ab.out) | (go_at_call 55; (with_reducible refine (entry_Check.calls k2 ((rd_T52 l0 Aa).f0) ((rd_T52 l0 Aa).f1) ((rd_T52 l0 Aa).f2) ((rd_T52 l0 Aa).f3) ((rd_T52 l0 Aa).f4.f0) _ _ ((rd_T52 l0 Aa).f4.f1) ((rd_T52 l0 Aa).f4.f2.f0) ((rd_T52 l0 Aa).f4.f2.f1) ((rd_T52 l0 Aa).f4.f2.f2) ((rd_T52 l0 Aa).f4.f2.f3) t130 _ ?Av ?Aw A8.out).mono ?_); (case Av => exact Kd.C_below As.out (pE HB.out Ad.out)); (case Aw => exact At.out); rintro e w18 ⟨rfl, hb⟩; replace Ab := Am (blk_below (g := Ae) (kX0 Ab.out) hb); replace HB := zX1 HB Ad.out hb; (try clear hb); obtain ⟨Ch, Ci, Cj, Ck, Cl, Cm, Cn, Co, Cp, Cq⟩ := bc10 Ab.out; obtain ⟨Cr, Cs, Ct, Cu, Cv, Cw, Cx, Cy, Cz, C0⟩ := bf10 Ab.out; have p131 : 0 ≤ ((ji11) : Int) := of_decide_eq_true pS; have q131 : (ji11) < (l0.length : Int) := of_decide_eq_true pS; obtain ⟨Bd, Bh, c131_5, e131, Af, Ag, Ah, Ai, Aj, Ac, Ak, Al, An, Ao, Ap, Aq⟩ := at_T52 HR0.out (ji11) p131 q131; obtain rfl : Bc = Bd := (by injection e131); replace Af := cU HB.out Af; replace Ag := cU HB.out Ag; replace Ah := cU HB.out Ah; replace Ai := cU HB.out Ai; replace Aj := cU HB.out Aj; replace Ac := cU HB.out Ac; replace Ak := cU HB.out Ak; replace Al := cU HB.out Al; replace An := cU HB.out An; replace Ao := cU HB.out Ao; have Be := Am Aq; have Bf := Am Ap; clear Aq Ap; replace p131 := eq_true p131; replace q131 := eq_true q131; have p132 : 0 ≤ ((ji11) : Int) := of_decide_eq_true pS; have q132 : (ji11) < (l0.length : Int) := of_decide_eq_true pS; obtain ⟨Bg, Bu, c132_5, e132, Ax, Ay, Az, A1, A2, Ar, A3, A4, A5, A6, A7, A9⟩ := at_T52 HR0.out (ji11) p132 q132; obtain rfl : Bc = Bg := (by injection e132); replace Ax := cU HB.out Ax; replace Ay := cU HB.out Ay; replace Az := cU HB.out Az; replace A1 := cU HB.out A1; replace A2 := cU HB.out A2; replace Ar := cU HB.out Ar; replace A3 := cU HB.out A3; replace A4 := cU HB.out A4; replace A5 := cU HB.out A5; replace A6 := cU HB.out A6; have Bi := Am A9; have Bj := Am A7; clear A9 A7; replace p132 := eq_true p132; replace q132 := eq_true q132; have ea_ := Option.some.inj (Ac.symm.trans Ar); injection ea_ with ea_ en_ ec_; subst ea_; subst ec_; clear en_))
      repeat (go_quiet (first | ((with_reducible refine zD 4 rfl ?_); (try (refine gate_guard (by rfl) ?_; dsimp only)); refine zE 4 #[.int .i64 0, .int .i64 0, .int .i64 0, .string (⟨#[]⟩ : ByteArray), .bool false, .slice none 0 0, .int .i64 0, .int .i64 0, .int .i64 0, .int .u32 0] 52 ?_; intro Ae hg w16 hbox hb; have Ab := Am (hbox); have Au := zA hg HB; replace HB := zB HB hb; have Ad := Au; clear hb hbox hg; obtain ⟨Bx, By, Bz, B0, B1, B2, B3, B4, B5, B6⟩ := bc10 Ab.out; obtain ⟨B7, B8, B9, Ca, Cb, Cc, Cd, Ce, Cf, Cg⟩ := bf10 Ab.out) | (go_at_call 55; (with_reducible refine (entry_Check.calls k2 ((rd_T52 l0 Aa).f0) ((rd_T52 l0 Aa).f1) ((rd_T52 l0 Aa).f2) ((rd_T52 l0 Aa).f3) ((rd_T52 l0 Aa).f4.f0) _ _ ((rd_T52 l0 Aa).f4.f1) ((rd_T52 l0 Aa).f4.f2.f0) ((rd_T52 l0 Aa).f4.f2.f1) ((rd_T52 l0 Aa).f4.f2.f2) ((rd_T52 l0 Aa).f4.f2.f3) t130 _ ?Av ?Aw A8.out).mono ?_); (case Av => exact Kd.C_below As.out (pE HB.out Ad.out)); (case Aw => exact At.out); rintro e w18 ⟨rfl, hb⟩; replace Ab := Am (blk_below (g := Ae) (kX0 Ab.out) hb); replace HB := zX1 HB Ad.out hb; (try clear hb); obtain ⟨Ch, Ci, Cj, Ck, Cl, Cm, Cn, Co, Cp, Cq⟩ := bc10 Ab.out; obtain ⟨Cr, Cs, Ct, Cu, Cv, Cw, Cx, Cy, Cz, C0⟩ := bf10 Ab.out; have p131 : 0 ≤ ((ji11) : Int) := of_decide_eq_true pS; have q131 : (ji11) < (l0.length : Int) := of_decide_eq_true pS; obtain ⟨Bd, Bh, c131_5, e131, Af, Ag, Ah, Ai, Aj, Ac, Ak, Al, An, Ao, Ap, Aq⟩ := at_T52 HR0.out (ji11) p131 q131; obtain rfl : Bc = Bd := (by injection e131); replace Af := cU HB.out Af; replace Ag := cU HB.out Ag; replace Ah := cU HB.out Ah; replace Ai := cU HB.out Ai; replace Aj := cU HB.out Aj; replace Ac := cU HB.out Ac; replace Ak := cU HB.out Ak; replace Al := cU HB.out Al; replace An := cU HB.out An; replace Ao := cU HB.out Ao; have Be := Am Aq; have Bf := Am Ap; clear Aq Ap; replace p131 := eq_true p131; replace q131 := eq_true q131; have p132 : 0 ≤ ((ji11) : Int) := of_decide_eq_true pS; have q132 : (ji11) < (l0.length : Int) := of_decide_eq_true pS; obtain ⟨Bg, Bu, c132_5, e132, Ax, Ay, Az, A1, A2, Ar, A3, A4, A5, A6, A7, A9⟩ := at_T52 HR0.out (ji11) p132 q132; obtain rfl : Bc = Bg := (by injection e132); replace Ax := cU HB.out Ax; replace Ay := cU HB.out Ay; replace Az := cU HB.out Az; replace A1 := cU HB.out A1; replace A2 := cU HB.out A2; replace Ar := cU HB.out Ar; replace A3 := cU HB.out A3; replace A4 := cU HB.out A4; replace A5 := cU HB.out A5; replace A6 := cU HB.out A6; have Bi := Am A9; have Bj := Am A7; clear A9 A7; replace p132 := eq_true p132; replace q132 := eq_true q132; have ea_ := Option.some.inj (Ac.symm.trans Ar); injection ea_ with ea_ en_ ec_; subst ea_; subst ec_; clear en_)); try go_wp2_with (first | ((with_reducible refine zD 4 rfl ?_); (try (refine gate_guard (by rfl) ?_; dsimp only)); refine zE 4 #[.int .i64 0, .int .i64 0, .int .i64 0, .string (⟨#[]⟩ : ByteArray), .bool false, .slice none 0 0, .int .i64 0, .int .i64 0, .int .i64 0, .int .u32 0] 52 ?_; intro Ae hg w16 hbox hb; have Ab := Am (hbox); have Au := zA hg HB; replace HB := zB HB hb; have Ad := Au; clear hb hbox hg; obtain ⟨Bx, By, Bz, B0, B1, B2, B3, B4, B5, B6⟩ := bc10 Ab.out; obtain ⟨B7, B8, B9, Ca, Cb, Cc, Cd, Ce, Cf, Cg⟩ := bf10 Ab.out) | (go_at_call 55; (with_reducible refine (entry_Check.calls k2 ((rd_T52 l0 Aa).f0) ((rd_T52 l0 Aa).f1) ((rd_T52 l0 Aa).f2) ((rd_T52 l0 Aa).f3) ((rd_T52 l0 Aa).f4.f0) _ _ ((rd_T52 l0 Aa).f4.f1) ((rd_T52 l0 Aa).f4.f2.f0) ((rd_T52 l0 Aa).f4.f2.f1) ((rd_T52 l0 Aa).f4.f2.f2) ((rd_T52 l0 Aa).f4.f2.f3) t130 _ ?Av ?Aw A8.out).mono ?_); (case Av => exact Kd.C_below As.out (pE HB.out Ad.out)); (case Aw => exact At.out); rintro e w18 ⟨rfl, hb⟩; replace Ab := Am (blk_below (g := Ae) (kX0 Ab.out) hb); replace HB := zX1 HB Ad.out hb; (try clear hb); obtain ⟨Ch, Ci, Cj, Ck, Cl, Cm, Cn, Co, Cp, Cq⟩ := bc10 Ab.out; obtain ⟨Cr, Cs, Ct, Cu, Cv, Cw, Cx, Cy, Cz, C0⟩ := bf10 Ab.out; have p131 : 0 ≤ ((ji11) : Int) := of_decide_eq_true pS; have q131 : (ji11) < (l0.length : Int) := of_decide_eq_true pS; obtain ⟨Bd, Bh, c131_5, e131, Af, Ag, Ah, Ai, Aj, Ac, Ak, Al, An, Ao, Ap, Aq⟩ := at_T52 HR0.out (ji11) p131 q131; obtain rfl : Bc = Bd := (by injection e131); replace Af := cU HB.out Af; replace Ag := cU HB.out Ag; replace Ah := cU HB.out Ah; replace Ai := cU HB.out Ai; replace Aj := cU HB.out Aj; replace Ac := cU HB.out Ac; replace Ak := cU HB.out Ak; replace Al := cU HB.out Al; replace An := cU HB.out An; replace Ao := cU HB.out Ao; have Be := Am Aq; have Bf := Am Ap; clear Aq Ap; replace p131 := eq_true p131; replace q131 := eq_true q131; have p132 : 0 ≤ ((ji11) : Int) := of_decide_eq_true pS; have q132 : (ji11) < (l0.length : Int) := of_decide_eq_true pS; obtain ⟨Bg, Bu, c132_5, e132, Ax, Ay, Az, A1, A2, Ar, A3, A4, A5, A6, A7, A9⟩ := at_T52 HR0.out (ji11) p132 q132; obtain rfl : Bc = Bg := (by injection e132); replace Ax := cU HB.out Ax; replace Ay := cU HB.out Ay; replace Az := cU HB.out Az; replace A1 := cU HB.out A1; replace A2 := cU HB.out A2; replace Ar := cU HB.out Ar; replace A3 := cU HB.out A3; replace A4 := cU HB.out A4; replace A5 := cU HB.out A5; replace A6 := cU HB.out A6; have Bi := Am A9; have Bj := Am A7; clear A9 A7; replace p132 := eq_true p132; replace q132 := eq_true q132; have ea_ := Option.some.inj (Ac.symm.trans Ar); injection ea_ with ea_ en_ ec_; subst ea_; subst ec_; clear en_)))
      go_ret
      exact ⟨by first | rfl | (simp [errW_none, errW_some] <;> rfl) | (simp only [← hji11]; first | rfl | (simp [errW_none, errW_some] <;> rfl)) | (simp [*, errW_none, errW_some] <;> rfl), pE HB.out Ad.out⟩
     rw [if_neg c15] at H
     have c15b0 := decide_eq_false c15
     clear c15
     have H' := Am H
     clear H
     have p128 : 0 ≤ (Aa : Int) := of_decide_eq_true pS
     have q128 : Aa < (l0.length : Int) := of_decide_eq_true pS
     obtain ⟨Bc, Bv, c128_5, e128, Bk, Bl, Bm, Bn, Bo, Bp, Bq, Br, Bs, Bt, Ba, Bb⟩ := at_T52u HR0.out Aa p128 q128 HB.out
     cases e128
     have As := Am Bb
     have At := Am Ba
     clear Bb Ba
     replace p128 := eq_true p128
     replace q128 := eq_true q128
     go_wp2_with (first | ((with_reducible refine zD 4 rfl ?_); (try (refine gate_guard (by rfl) ?_; dsimp only)); refine zE 4 #[.int .i64 0, .int .i64 0, .int .i64 0, .string (⟨#[]⟩ : ByteArray), .bool false, .slice none 0 0, .int .i64 0, .int .i64 0, .int .i64 0, .int .u32 0] 52 ?_; intro Ae hg w20 hbox hb; have Ab := Am (hbox); have Au := zA hg HB; replace HB := zB HB hb; have Ad := Au; clear hb hbox hg; obtain ⟨C1, C2, C3, C4, C5, C6, C7, C8, C9, Da⟩ := bc10 Ab.out; obtain ⟨Db, Dc, Dd, De, Df, Dg, Dh, Di, Dj, Dk⟩ := bf10 Ab.out) | (go_at_call 55; (with_reducible refine (entry_Check.calls k2 ((rd_T52 l0 Aa).f0) ((rd_T52 l0 Aa).f1) ((rd_T52 l0 Aa).f2) ((rd_T52 l0 Aa).f3) ((rd_T52 l0 Aa).f4.f0) _ _ ((rd_T52 l0 Aa).f4.f1) ((rd_T52 l0 Aa).f4.f2.f0) ((rd_T52 l0 Aa).f4.f2.f1) ((rd_T52 l0 Aa).f4.f2.f2) ((rd_T52 l0 Aa).f4.f2.f3) t130 _ ?Av ?Aw A8.out).mono ?_); (case Av => exact Kd.C_below As.out (pE HB.out Ad.out)); (case Aw => exact At.out); rintro e w22 ⟨rfl, hb⟩; replace Ab := Am (blk_below (g := Ae) (kX0 Ab.out) hb); replace HB := zX1 HB Ad.out hb; (try clear hb); obtain ⟨Dl, Dm, Dn, Do, Dp, Dq, Dr, Ds, Dt, Du⟩ := bc10 Ab.out; obtain ⟨Dv, Dw, Dx, Dy, Dz, D0, D1, D2, D3, D4⟩ := bf10 Ab.out; have p131 : 0 ≤ ((ji11) : Int) := of_decide_eq_true pS; have q131 : (ji11) < (l0.length : Int) := of_decide_eq_true pS; obtain ⟨Bd, Bh, c131_5, e131, Af, Ag, Ah, Ai, Aj, Ac, Ak, Al, An, Ao, Ap, Aq⟩ := at_T52 HR0.out (ji11) p131 q131; obtain rfl : Bc = Bd := (by injection e131); replace Af := cU HB.out Af; replace Ag := cU HB.out Ag; replace Ah := cU HB.out Ah; replace Ai := cU HB.out Ai; replace Aj := cU HB.out Aj; replace Ac := cU HB.out Ac; replace Ak := cU HB.out Ak; replace Al := cU HB.out Al; replace An := cU HB.out An; replace Ao := cU HB.out Ao; have Be := Am Aq; have Bf := Am Ap; clear Aq Ap; replace p131 := eq_true p131; replace q131 := eq_true q131; have p132 : 0 ≤ ((ji11) : Int) := of_decide_eq_true pS; have q132 : (ji11) < (l0.length : Int) := of_decide_eq_true pS; obtain ⟨Bg, Bu, c132_5, e132, Ax, Ay, Az, A1, A2, Ar, A3, A4, A5, A6, A7, A9⟩ := at_T52 HR0.out (ji11) p132 q132; obtain rfl : Bc = Bg := (by injection e132); replace Ax := cU HB.out Ax; replace Ay := cU HB.out Ay; replace Az := cU HB.out Az; replace A1 := cU HB.out A1; replace A2 := cU HB.out A2; replace Ar := cU HB.out Ar; replace A3 := cU HB.out A3; replace A4 := cU HB.out A4; replace A5 := cU HB.out A5; replace A6 := cU HB.out A6; have Bi := Am A9; have Bj := Am A7; clear A9 A7; replace p132 := eq_true p132; replace q132 := eq_true q132; have ea_ := Option.some.inj (Ac.symm.trans Ar); injection ea_ with ea_ en_ ec_; subst ea_; subst ec_; clear en_))
     repeat (go_quiet (first | ((with_reducible refine zD 4 rfl ?_); (try (refine gate_guard (by rfl) ?_; dsimp only)); refine zE 4 #[.int .i64 0, .int .i64 0, .int .i64 0, .string (⟨#[]⟩ : ByteArray), .bool false, .slice none 0 0, .int .i64 0, .int .i64 0, .int .i64 0, .int .u32 0] 52 ?_; intro Ae hg w20 hbox hb; have Ab := Am (hbox); have Au := zA hg HB; replace HB := zB HB hb; have Ad := Au; clear hb hbox hg; obtain ⟨C1, C2, C3, C4, C5, C6, C7, C8, C9, Da⟩ := bc10 Ab.out; obtain ⟨Db, Dc, Dd, De, Df, Dg, Dh, Di, Dj, Dk⟩ := bf10 Ab.out) | (go_at_call 55; (with_reducible refine (entry_Check.calls k2 ((rd_T52 l0 Aa).f0) ((rd_T52 l0 Aa).f1) ((rd_T52 l0 Aa).f2) ((rd_T52 l0 Aa).f3) ((rd_T52 l0 Aa).f4.f0) _ _ ((rd_T52 l0 Aa).f4.f1) ((rd_T52 l0 Aa).f4.f2.f0) ((rd_T52 l0 Aa).f4.f2.f1) ((rd_T52 l0 Aa).f4.f2.f2) ((rd_T52 l0 Aa).f4.f2.f3) t130 _ ?Av ?Aw A8.out).mono ?_); (case Av => exact Kd.C_below As.out (pE HB.out Ad.out)); (case Aw => exact At.out); rintro e w22 ⟨rfl, hb⟩; replace Ab := Am (blk_below (g := Ae) (kX0 Ab.out) hb); replace HB := zX1 HB Ad.out hb; (try clear hb); obtain ⟨Dl, Dm, Dn, Do, Dp, Dq, Dr, Ds, Dt, Du⟩ := bc10 Ab.out; obtain ⟨Dv, Dw, Dx, Dy, Dz, D0, D1, D2, D3, D4⟩ := bf10 Ab.out; have p131 : 0 ≤ ((ji11) : Int) := of_decide_eq_true pS; have q131 : (ji11) < (l0.length : Int) := of_decide_eq_true pS; obtain ⟨Bd, Bh, c131_5, e131, Af, Ag, Ah, Ai, Aj, Ac, Ak, Al, An, Ao, Ap, Aq⟩ := at_T52 HR0.out (ji11) p131 q131; obtain rfl : Bc = Bd := (by injection e131); replace Af := cU HB.out Af; replace Ag := cU HB.out Ag; replace Ah := cU HB.out Ah; replace Ai := cU HB.out Ai; replace Aj := cU HB.out Aj; replace Ac := cU HB.out Ac; replace Ak := cU HB.out Ak; replace Al := cU HB.out Al; replace An := cU HB.out An; replace Ao := cU HB.out Ao; have Be := Am Aq; have Bf := Am Ap; clear Aq Ap; replace p131 := eq_true p131; replace q131 := eq_true q131; have p132 : 0 ≤ ((ji11) : Int) := of_decide_eq_true pS; have q132 : (ji11) < (l0.length : Int) := of_decide_eq_true pS; obtain ⟨Bg, Bu, c132_5, e132, Ax, Ay, Az, A1, A2, Ar, A3, A4, A5, A6, A7, A9⟩ := at_T52 HR0.out (ji11) p132 q132; obtain rfl : Bc = Bg := (by injection e132); replace Ax := cU HB.out Ax; replace Ay := cU HB.out Ay; replace Az := cU HB.out Az; replace A1 := cU HB.out A1; replace A2 := cU HB.out A2; replace Ar := cU HB.out Ar; replace A3 := cU HB.out A3; replace A4 := cU HB.out A4; replace A5 := cU HB.out A5; replace A6 := cU HB.out A6; have Bi := Am A9; have Bj := Am A7; clear A9 A7; replace p132 := eq_true p132; replace q132 := eq_true q132; have ea_ := Option.some.inj (Ac.symm.trans Ar); injection ea_ with ea_ en_ ec_; subst ea_; subst ec_; clear en_)); try go_wp2_with (first | ((with_reducible refine zD 4 rfl ?_); (try (refine gate_guard (by rfl) ?_; dsimp only)); refine zE 4 #[.int .i64 0, .int .i64 0, .int .i64 0, .string (⟨#[]⟩ : ByteArray), .bool false, .slice none 0 0, .int .i64 0, .int .i64 0, .int .i64 0, .int .u32 0] 52 ?_; intro Ae hg w20 hbox hb; have Ab := Am (hbox); have Au := zA hg HB; replace HB := zB HB hb; have Ad := Au; clear hb hbox hg; obtain ⟨C1, C2, C3, C4, C5, C6, C7, C8, C9, Da⟩ := bc10 Ab.out; obtain ⟨Db, Dc, Dd, De, Df, Dg, Dh, Di, Dj, Dk⟩ := bf10 Ab.out) | (go_at_call 55; (with_reducible refine (entry_Check.calls k2 ((rd_T52 l0 Aa).f0) ((rd_T52 l0 Aa).f1) ((rd_T52 l0 Aa).f2) ((rd_T52 l0 Aa).f3) ((rd_T52 l0 Aa).f4.f0) _ _ ((rd_T52 l0 Aa).f4.f1) ((rd_T52 l0 Aa).f4.f2.f0) ((rd_T52 l0 Aa).f4.f2.f1) ((rd_T52 l0 Aa).f4.f2.f2) ((rd_T52 l0 Aa).f4.f2.f3) t130 _ ?Av ?Aw A8.out).mono ?_); (case Av => exact Kd.C_below As.out (pE HB.out Ad.out)); (case Aw => exact At.out); rintro e w22 ⟨rfl, hb⟩; replace Ab := Am (blk_below (g := Ae) (kX0 Ab.out) hb); replace HB := zX1 HB Ad.out hb; (try clear hb); obtain ⟨Dl, Dm, Dn, Do, Dp, Dq, Dr, Ds, Dt, Du⟩ := bc10 Ab.out; obtain ⟨Dv, Dw, Dx, Dy, Dz, D0, D1, D2, D3, D4⟩ := bf10 Ab.out; have p131 : 0 ≤ ((ji11) : Int) := of_decide_eq_true pS; have q131 : (ji11) < (l0.length : Int) := of_decide_eq_true pS; obtain ⟨Bd, Bh, c131_5, e131, Af, Ag, Ah, Ai, Aj, Ac, Ak, Al, An, Ao, Ap, Aq⟩ := at_T52 HR0.out (ji11) p131 q131; obtain rfl : Bc = Bd := (by injection e131); replace Af := cU HB.out Af; replace Ag := cU HB.out Ag; replace Ah := cU HB.out Ah; replace Ai := cU HB.out Ai; replace Aj := cU HB.out Aj; replace Ac := cU HB.out Ac; replace Ak := cU HB.out Ak; replace Al := cU HB.out Al; replace An := cU HB.out An; replace Ao := cU HB.out Ao; have Be := Am Aq; have Bf := Am Ap; clear Aq Ap; replace p131 := eq_true p131; replace q131 := eq_true q131; have p132 : 0 ≤ ((ji11) : Int) := of_decide_eq_true pS; have q132 : (ji11) < (l0.length : Int) := of_decide_eq_true pS; obtain ⟨Bg, Bu, c132_5, e132, Ax, Ay, Az, A1, A2, Ar, A3, A4, A5, A6, A7, A9⟩ := at_T52 HR0.out (ji11) p132 q132; obtain rfl : Bc = Bg := (by injection e132); replace Ax := cU HB.out Ax; replace Ay := cU HB.out Ay; replace Az := cU HB.out Az; replace A1 := cU HB.out A1; replace A2 := cU HB.out A2; replace Ar := cU HB.out Ar; replace A3 := cU HB.out A3; replace A4 := cU HB.out A4; replace A5 := cU HB.out A5; replace A6 := cU HB.out A6; have Bi := Am A9; have Bj := Am A7; clear A9 A7; replace p132 := eq_true p132; replace q132 := eq_true q132; have ea_ := Option.some.inj (Ac.symm.trans Ar); injection ea_ with ea_ en_ ec_; subst ea_; subst ec_; clear en_)))
     go_roundg k2
     case measure => have := HJ1.out; have := HK2.out; omega
     case rel => exact ⟨(wrap64 (Aa + 1)), zr, H', ⟨by have := HJ1.out; have := HK2.out; omega⟩, ⟨pE HB.out Ad.out⟩⟩
mutual
def wal_Check.j0 : Nat → Bool → Bool → Bool → Bool → Int → List (S52) → Int → Int → Int → Int → Option (Int)
 | 0, _, _, _, _, _, _, _, _, _, _ => none
 | k + 1, x3, x4, x5, x15, x134000, x134001, x134002, x134003, x134004, x134005 => if x15 = true then (wal_Check.j2 k x3 x4 x15 x134000 x134001 x134002 x134003 x134004 x134005) else (if x3 = true then (wal_Check.j1 k x3 x4 x5 false x134000 x134001 x134002 x134003 x134004 x134005) else (wal_Check.j1 k x3 x4 x5 (decide ((x134001.length : Int) > 0)) x134000 x134001 x134002 x134003 x134004 x134005))
def wal_Check.j2 : Nat → Bool → Bool → Bool → Int → List (S52) → Int → Int → Int → Int → Option (Int)
 | 0, _, _, _, _, _, _, _, _, _ => none
 | k + 1, x3, x4, x15, x134000, x134001, x134002, x134003, x134004, x134005 => if x15 = true then (some 1) else (if x3 = true then ((entry_Batch.f k x134001).bind fun t134 => (some t134)) else (if x4 = true then ((hard_Check.f x134002 x134003 x134004).bind fun t135 => (some t135)) else (if x134005 < 1 then (some 1) else (if x134005 > 2147483647 then (some 1) else (some 0)))))
def wal_Check.j1 : Nat → Bool → Bool → Bool → Bool → Int → List (S52) → Int → Int → Int → Int → Option (Int)
 | 0, _, _, _, _, _, _, _, _, _, _ => none
 | k + 1, x3, x4, x5, x15, x134000, x134001, x134002, x134003, x134004, x134005 => if x15 = true then (wal_Check.j2 k x3 x4 x15 x134000 x134001 x134002 x134003 x134004 x134005) else (if x4 = true then (if x5 = true then (wal_Check.j2 k x3 x4 false x134000 x134001 x134002 x134003 x134004 x134005) else (wal_Check.j2 k x3 x4 (x134005 != 0) x134000 x134001 x134002 x134003 x134004 x134005)) else (if (!(x134002 == 0) || (!(x134003 == 0) || (!(x134004 == 0)))) = true then (wal_Check.j2 k x3 x4 (!(x134002 == 0) || (!(x134003 == 0) || (!(x134004 == 0)))) x134000 x134001 x134002 x134003 x134004 x134005) else (if x5 = true then (wal_Check.j2 k x3 x4 false x134000 x134001 x134002 x134003 x134004 x134005) else (wal_Check.j2 k x3 x4 (x134005 != 0) x134000 x134001 x134002 x134003 x134004 x134005))))
end
def wal_Check.f (k : Nat) (a0_0 : Int) (l0_1 : List (S52)) (a0_2 : Int) (a0_3 : Int) (a0_4 : Int) (a0_5 : Int) : Option (Int) := if a0_0 = 1 then (wal_Check.j0 k (a0_0 == 1) (a0_0 == 2) (a0_0 == 3) false a0_0 l0_1 a0_2 a0_3 a0_4 a0_5) else (if a0_0 = 2 then (wal_Check.j0 k (a0_0 == 1) (a0_0 == 2) (a0_0 == 3) false a0_0 l0_1 a0_2 a0_3 a0_4 a0_5) else (wal_Check.j0 k (a0_0 == 1) (a0_0 == 2) (a0_0 == 3) (!(a0_0 == 3)) a0_0 l0_1 a0_2 a0_3 a0_4 a0_5))
theorem wal_Check.mono_l : ∀ k, (∀ y0 y1 y2 y3 y4 y5 y6 y7 y8 y9, LeO (wal_Check.j0 k y0 y1 y2 y3 y4 y5 y6 y7 y8 y9) (wal_Check.j0 (k + 1) y0 y1 y2 y3 y4 y5 y6 y7 y8 y9)) ∧ (∀ y0 y1 y2 y3 y4 y5 y6 y7 y8, LeO (wal_Check.j2 k y0 y1 y2 y3 y4 y5 y6 y7 y8) (wal_Check.j2 (k + 1) y0 y1 y2 y3 y4 y5 y6 y7 y8)) ∧ (∀ y0 y1 y2 y3 y4 y5 y6 y7 y8 y9, LeO (wal_Check.j1 k y0 y1 y2 y3 y4 y5 y6 y7 y8 y9) (wal_Check.j1 (k + 1) y0 y1 y2 y3 y4 y5 y6 y7 y8 y9))
 | 0 => ⟨fun _ _ _ _ _ _ _ _ _ _ r h => by simp [wal_Check.j0] at h, fun _ _ _ _ _ _ _ _ _ r h => by simp [wal_Check.j2] at h, fun _ _ _ _ _ _ _ _ _ _ r h => by simp [wal_Check.j1] at h⟩
 | k + 1 => by
  obtain ⟨ih0, ih1, ih2⟩ := wal_Check.mono_l k
  refine ⟨?_, ?_, ?_⟩
  ·intro y0 y1 y2 y3 y4 y5 y6 y7 y8 y9
   unfold wal_Check.j0
   repeat' (with_reducible first | exact ih0 .. | exact ih1 .. | exact ih2 .. | exact entry_Batch.mono .. | exact LeO.refl .. | exact LeO.none .. | refine LeO.ite ?_ ?_ | refine LeO.bind ?_ (fun _ => ?_))
  ·intro y0 y1 y2 y3 y4 y5 y6 y7 y8
   unfold wal_Check.j2
   repeat' (with_reducible first | exact ih0 .. | exact ih1 .. | exact ih2 .. | exact entry_Batch.mono .. | exact LeO.refl .. | exact LeO.none .. | refine LeO.ite ?_ ?_ | refine LeO.bind ?_ (fun _ => ?_))
  ·intro y0 y1 y2 y3 y4 y5 y6 y7 y8 y9
   unfold wal_Check.j1
   repeat' (with_reducible first | exact ih0 .. | exact ih1 .. | exact ih2 .. | exact entry_Batch.mono .. | exact LeO.refl .. | exact LeO.none .. | refine LeO.ite ?_ ?_ | refine LeO.bind ?_ (fun _ => ?_))
theorem wal_Check.mono : ∀ a0 a1 a2 a3 a4 a5 k, LeO (wal_Check.f k a0 a1 a2 a3 a4 a5) (wal_Check.f (k + 1) a0 a1 a2 a3 a4 a5) := by
 intro a0 a1 a2 a3 a4 a5 k
 obtain ⟨ih0, ih1, ih2⟩ := wal_Check.mono_l k
 unfold wal_Check.f
 repeat' (with_reducible first | exact ih0 .. | exact ih1 .. | exact ih2 .. | exact entry_Batch.mono .. | exact LeO.refl .. | exact LeO.none .. | refine LeO.ite ?_ ?_ | refine LeO.bind ?_ (fun _ => ?_))
set_option maxRecDepth 100000 in
theorem wal_Check.calls (k : Nat) (a0_0 : Int) (A0_1 : Option Addr) (c0_1 : Nat) (l0_1 : List (S52)) (a0_2 : Int) (a0_3 : Int) (a0_4 : Int) (a0_5 : Int) (r : Int) (w : World) (hr0_1 : Kd.C k52 w A0_1 l0_1.length l0_1) (hc0_1 : l0_1.length ≤ c0_1) (h : wal_Check.f k a0_0 l0_1 a0_2 a0_3 a0_4 a0_5 = some r) :
 Calls Try.prog 13 #[.agg #[.int .i64 a0_0, .slice A0_1 l0_1.length c0_1, .int .i64 a0_2, .int .i64 a0_3, .int .i64 a0_4, .int .i64 a0_5]] w fun e w' => e = .returned (.int .i64 r) ∧ Below w.heap.size w w' := by
 have hu30 := Try.underlying30
 have hu28 := Try.underlying28
 have A8 := Am hr0_1
 have A9 := Am hc0_1
 clear hr0_1 hc0_1
 have HB := Am (Below.refl w.heap.size w)
 unfold wal_Check.f at h
 have H := h
 clear h
 have HC2 := Am H
 clear H
 go_enter Try.func13, Try.ntmps13
 go_upto_region 2 with (first | ((with_reducible refine zD 1 rfl ?_); (try (refine gate_guard (by rfl) ?_; dsimp only)); refine zE 1 #[.int .i64 a0_0, .slice A0_1 l0_1.length c0_1, .int .i64 a0_2, .int .i64 a0_3, .int .i64 a0_4, .int .i64 a0_5] 30 ?_; intro Ac hg w3 hbox hb; have Aa := Am (hbox); have Aq := zA hg HB; replace HB := zB HB hb; have Ab := Aq; clear hb hbox hg; obtain ⟨Ad, Ae, Af, Ag, Ah, Ai⟩ := bc6 Aa.out; obtain ⟨Aj, Ak, Al, An, Ao, Ap⟩ := bf6 Aa.out))
 repeat (go_quiet (first | ((with_reducible refine zD 1 rfl ?_); (try (refine gate_guard (by rfl) ?_; dsimp only)); refine zE 1 #[.int .i64 a0_0, .slice A0_1 l0_1.length c0_1, .int .i64 a0_2, .int .i64 a0_3, .int .i64 a0_4, .int .i64 a0_5] 30 ?_; intro Ac hg w3 hbox hb; have Aa := Am (hbox); have Aq := zA hg HB; replace HB := zB HB hb; have Ab := Aq; clear hb hbox hg; obtain ⟨Ad, Ae, Af, Ag, Ah, Ai⟩ := bc6 Aa.out; obtain ⟨Aj, Ak, Al, An, Ao, Ap⟩ := bf6 Aa.out)); go_upto_region 2 with (first | ((with_reducible refine zD 1 rfl ?_); (try (refine gate_guard (by rfl) ?_; dsimp only)); refine zE 1 #[.int .i64 a0_0, .slice A0_1 l0_1.length c0_1, .int .i64 a0_2, .int .i64 a0_3, .int .i64 a0_4, .int .i64 a0_5] 30 ?_; intro Ac hg w3 hbox hb; have Aa := Am (hbox); have Aq := zA hg HB; replace HB := zB HB hb; have Ab := Aq; clear hb hbox hg; obtain ⟨Ad, Ae, Af, Ag, Ah, Ai⟩ := bc6 Aa.out; obtain ⟨Aj, Ak, Al, An, Ao, Ap⟩ := bf6 Aa.out)))
 (try simp only [Act.put, List.setIfInBounds_toArray, List.set_cons_zero, List.set_cons_succ])
 go_cut [15] (fun v15 wc => ∃ (kq : Nat) (At : Bool), v15 = .bool At ∧ Aside0 (wal_Check.j0 kq (a0_0 == 1) (a0_0 == 2) (a0_0 == 3) At a0_0 l0_1 a0_2 a0_3 a0_4 a0_5 = some r) ∧ Aside0 (kq ≤ k) ∧ Aside0 (wc.heap[Ac]? = some (.cells #[.int .i64 a0_0, (.slice A0_1 l0_1.length c0_1), .int .i64 a0_2, .int .i64 a0_3, .int .i64 a0_4, .int .i64 a0_5] 30 (0, 0))) ∧ Aside0 (Below w.heap.size w wc))
 case first =>
  have H := HC2.out
  clear HC2
  by_cases c5 : a0_0 = 1
  ·rw [if_pos c5] at H
   obtain ⟨c5b0, c5b1⟩ := zc c5
   clear c5
   (first | rw [c5b0] | (simp only [i64_w, i32_w]; rw [c5b0]) | skip)
   have H' := Am H
   clear H
   go_wp2
   repeat (go_quiet (fail); try go_wp2)
   (refine Met.intro ?_; go_step; (repeat apply Exists.intro); refine ⟨?rel, ?eq_⟩; (case eq_ => first | rfl | (simp only [c5b0]; rfl)))
   case rel => exact ⟨_, (false), zr, H', ⟨zo⟩, ⟨pK Aa.out⟩, ⟨pE HB.out Ab.out⟩⟩
  rw [if_neg c5] at H
  obtain ⟨c5b0, c5b1⟩ := zk c5
  (first | rw [c5b0] | (simp only [i64_w, i32_w]; rw [c5b0]) | skip)
  by_cases c6 : a0_0 = 2
  rotate_left
  ·rw [if_neg c6] at H
   obtain ⟨c6b0, c6b1⟩ := zk c6
   have H' := Am H
   clear H
   go_wp2
   repeat (go_quiet (fail); try go_wp2)
   (refine Met.intro ?_; go_step; (repeat apply Exists.intro); refine ⟨?rel, ?eq_⟩; (case eq_ => first | rfl | (simp only [c5b0, c6b0]; rfl)))
   case rel => exact ⟨_, (!(a0_0 == 3)), zr, H', ⟨zo⟩, ⟨pK Aa.out⟩, ⟨pE HB.out Ab.out⟩⟩
  rw [if_pos c6] at H
  obtain ⟨c6b0, c6b1⟩ := zc c6
  clear c6
  have H' := Am H
  clear H
  go_wp2
  repeat (go_quiet (fail); try go_wp2)
  (refine Met.intro ?_; go_step; (repeat apply Exists.intro); refine ⟨?rel, ?eq_⟩; (case eq_ => first | rfl | (simp only [c5b0, c6b0]; rfl)))
  case rel => exact ⟨_, (false), zr, H', ⟨zo⟩, ⟨pK Aa.out⟩, ⟨pE HB.out Ab.out⟩⟩
 case rest =>
  clear HC2
  try clear c1
  try clear p2
  try clear c5
  try clear c5b0
  try clear c5b1
  try clear c6
  try clear c6b0
  try clear c6b1
  try clear Ad Ae Af Ag Ah Ai
  try clear Aj Ak Al An Ao Ap
  obtain ⟨kq, At, rfl, HA, HJ1, Aa, HB⟩ := hcut
  cases kq with
  | zero => exact absurd HA.out (by simp [wal_Check.j0])
  | succ kj1 =>
   have H := HA.out
   clear HA
   simp only [wal_Check.j0] at H
   have HC7 := Am H
   clear H
   go_upto_if 15 with (fail)
   repeat (go_quiet (fail); go_upto_if 15 with (fail))
   go_cut [15] (fun v15 wc => ∃ (kq : Nat) (Au : Bool), v15 = .bool Au ∧ Aside0 (wal_Check.j2 kq (a0_0 == 1) (a0_0 == 2) Au a0_0 l0_1 a0_2 a0_3 a0_4 a0_5 = some r) ∧ Aside0 (kq ≤ kj1) ∧ Aside0 (wc.heap[Ac]? = some (.cells #[.int .i64 a0_0, (.slice A0_1 l0_1.length c0_1), .int .i64 a0_2, .int .i64 a0_3, .int .i64 a0_4, .int .i64 a0_5] 30 (0, 0))) ∧ Aside0 (Below w.heap.size w wc))
   case first =>
    have H := HC7.out
    clear HC7
    by_cases c8 : At = true
    ·subst c8
     rw [if_pos rfl] at H
     have H' := Am H
     clear H
     go_wp2
     repeat (go_quiet (fail); try go_wp2)
     go_meet
     case rel => exact ⟨_, (true), zr, H', ⟨by have := HJ1.out; first | omega | exact Nat.le_refl _⟩, ⟨pK Aa.out⟩, ⟨pE HB.out Ab.out⟩⟩
    replace c8 := Bool.eq_false_iff.mpr c8
    subst c8
    rw [if_neg zF] at H
    have HC9 := Am H
    clear H
    go_upto_region 3 with (fail)
    repeat (go_quiet (fail); go_upto_region 3 with (fail))
    go_cut [15] (fun v15 wc => ∃ (kq : Nat) (Av : Bool), v15 = .bool Av ∧ Aside0 (wal_Check.j1 kq (a0_0 == 1) (a0_0 == 2) (a0_0 == 3) Av a0_0 l0_1 a0_2 a0_3 a0_4 a0_5 = some r) ∧ Aside0 (kq ≤ kj1) ∧ Aside0 (wc.heap[Ac]? = some (.cells #[.int .i64 a0_0, (.slice A0_1 l0_1.length c0_1), .int .i64 a0_2, .int .i64 a0_3, .int .i64 a0_4, .int .i64 a0_5] 30 (0, 0))) ∧ Aside0 (Below w.heap.size w wc))
    case first =>
     have H := HC9.out
     clear HC9
     by_cases c10 : (a0_0 == 1) = true
     ·rw [if_pos c10] at H
      have c10b0 : (a0_0 == 1) = true := c10
      (try (have c10b1 : decide (a0_0 = 1) = true := by simpa using c10))
      (try (have c10b2 : (a0_0 == 1) = true := by simpa using c10))
      clear c10
      (first | rw [c10b0] | (simp only [i64_w, i32_w]; rw [c10b0]) | skip)
      have H' := Am H
      clear H
      go_wp2
      repeat (go_quiet (fail); try go_wp2)
      (refine Met.intro ?_; go_step; (repeat apply Exists.intro); refine ⟨?rel, ?eq_⟩; (case eq_ => first | rfl | (simp only [c10b0]; rfl)))
      case rel => exact ⟨_, (false), zr, H', ⟨by have := HJ1.out; first | omega | exact Nat.le_refl _⟩, ⟨pK Aa.out⟩, ⟨pE HB.out Ab.out⟩⟩
     rw [if_neg c10] at H
     have c10b0 : (a0_0 == 1) = false := by simpa using c10
     (try (have c10b1 : decide (a0_0 = 1) = false := by simpa using c10))
     (try (have c10b2 : (a0_0 == 1) = false := by simpa using c10))
     (try (have c10b3 : ¬ (a0_0 = 1) := by simpa using c10))
     clear c10
     (first | rw [c10b0] | (simp only [i64_w, i32_w]; rw [c10b0]) | skip)
     have H' := Am H
     clear H
     obtain ⟨Aw, Ax, Ay, Az, A0, A1⟩ := bc6 Aa.out
     obtain ⟨A2, A3, A4, A5, A6, A7⟩ := bf6 Aa.out
     go_wp2
     repeat (go_quiet (fail); try go_wp2)
     (refine Met.intro ?_; go_step; (repeat apply Exists.intro); refine ⟨?rel, ?eq_⟩; (case eq_ => first | rfl | (simp only [c10b0]; rfl)))
     case rel => exact ⟨_, (decide ((l0_1.length : Int) > 0)), zr, H', ⟨by have := HJ1.out; first | omega | exact Nat.le_refl _⟩, ⟨pK Aa.out⟩, ⟨pE HB.out Ab.out⟩⟩
    case rest =>
     clear HC9
     try clear c1
     try clear p2
     try clear c5
     try clear c5b0
     try clear c5b1
     try clear c6
     try clear c6b0
     try clear c6b1
     try clear c8
     try clear c10
     try clear c10b0
     try clear c10b1
     try clear c10b2
     try clear Aw Ax Ay Az A0 A1
     try clear Ad Ae Af Ag Ah Ai
     try clear A2 A3 A4 A5 A6 A7
     try clear Aj Ak Al An Ao Ap
     try clear p2
     obtain ⟨kq, Av, rfl, HA, HJ8, Aa, HB⟩ := hcut
     cases kq with
     | zero => exact absurd HA.out (by simp [wal_Check.j1])
     | succ kj8 =>
      have H := HA.out
      clear HA
      simp only [wal_Check.j1] at H
      by_cases c12 : Av = true
      ·subst c12
       rw [if_pos rfl] at H
       have H' := Am H
       clear H
       go_wp2
       repeat (go_quiet (fail); try go_wp2)
       go_meet
       case rel => exact ⟨_, (true), zr, H', ⟨by have := HJ1.out; have := HJ8.out; first | omega | exact Nat.le_refl _⟩, ⟨pK Aa.out⟩, ⟨pE HB.out Ab.out⟩⟩
      replace c12 := Bool.eq_false_iff.mpr c12
      subst c12
      rw [if_neg zF] at H
      by_cases c13 : (a0_0 == 2) = true
      ·rw [if_pos c13] at H
       have c13b0 : (a0_0 == 2) = true := c13
       (try (have c13b1 : decide (a0_0 = 2) = true := by simpa using c13))
       (try (have c13b2 : (a0_0 == 2) = true := by simpa using c13))
       clear c13
       by_cases c14 : (a0_0 == 3) = true
       ·rw [if_pos c14] at H
        have c14b0 : (a0_0 == 3) = true := c14
        (try (have c14b1 : decide (a0_0 = 3) = true := by simpa using c14))
        (try (have c14b2 : (a0_0 == 3) = true := by simpa using c14))
        clear c14
        have H' := Am H
        clear H
        go_wp2
        repeat (go_quiet (fail); try go_wp2)
        (refine Met.intro ?_; go_step; (repeat apply Exists.intro); refine ⟨?rel, ?eq_⟩; (case eq_ => first | rfl | (simp only [c13b0, c14b0]; rfl)))
        case rel => exact ⟨_, (false), zr, H', ⟨by have := HJ1.out; have := HJ8.out; first | omega | exact Nat.le_refl _⟩, ⟨pK Aa.out⟩, ⟨pE HB.out Ab.out⟩⟩
       rw [if_neg c14] at H
       have c14b0 : (a0_0 == 3) = false := by simpa using c14
       (try (have c14b1 : decide (a0_0 = 3) = false := by simpa using c14))
       (try (have c14b2 : (a0_0 == 3) = false := by simpa using c14))
       (try (have c14b3 : ¬ (a0_0 = 3) := by simpa using c14))
       clear c14
       have H' := Am H
       clear H
       obtain ⟨Ba, Bb, Bc, Bd, Be, Bf⟩ := bc6 Aa.out
       obtain ⟨Bg, Bh, Bi, Bj, Bk, Bl⟩ := bf6 Aa.out
       go_wp2
       repeat (go_quiet (fail); try go_wp2)
       (refine Met.intro ?_; go_step; (repeat apply Exists.intro); refine ⟨?rel, ?eq_⟩; (case eq_ => first | rfl | (simp only [c13b0, c14b0]; rfl)))
       case rel => exact ⟨_, ((a0_5 != 0)), zr, H', ⟨by have := HJ1.out; have := HJ8.out; first | omega | exact Nat.le_refl _⟩, ⟨pK Aa.out⟩, ⟨pE HB.out Ab.out⟩⟩
      rw [if_neg c13] at H
      have c13b0 : (a0_0 == 2) = false := by simpa using c13
      (try (have c13b1 : decide (a0_0 = 2) = false := by simpa using c13))
      (try (have c13b2 : (a0_0 == 2) = false := by simpa using c13))
      (try (have c13b3 : ¬ (a0_0 = 2) := by simpa using c13))
      clear c13
      by_cases c16 : (!(a0_2 == 0) || (!(a0_3 == 0) || (!(a0_4 == 0)))) = true
      ·rw [if_pos c16] at H
       have c16b0 : (!(a0_2 == 0) || (!(a0_3 == 0) || (!(a0_4 == 0)))) = true := c16
       clear c16
       have H' := Am H
       clear H
       obtain ⟨Bm, Bn, Bo, Bp, Bq, Br⟩ := bc6 Aa.out
       obtain ⟨Bs, Bt, Bu, Bv, Bw, Bx⟩ := bf6 Aa.out
       go_wp2
       repeat (go_quiet (fail); try go_wp2)
       (refine Met.intro ?_; go_step; (repeat apply Exists.intro); refine ⟨?rel, ?eq_⟩; (case eq_ => first | rfl | (simp only [c13b0, c16b0]; rfl)))
       case rel => exact ⟨_, ((!(a0_2 == 0) || (!(a0_3 == 0) || (!(a0_4 == 0))))), zr, H', ⟨by have := HJ1.out; have := HJ8.out; first | omega | exact Nat.le_refl _⟩, ⟨pK Aa.out⟩, ⟨pE HB.out Ab.out⟩⟩
      rw [if_neg c16] at H
      have c16b0 : (!(a0_2 == 0) || (!(a0_3 == 0) || (!(a0_4 == 0)))) = false := by simpa using c16
      clear c16
      by_cases c18 : (a0_0 == 3) = true
      ·rw [if_pos c18] at H
       have c18b0 : (a0_0 == 3) = true := c18
       (try (have c18b1 : decide (a0_0 = 3) = true := by simpa using c18))
       (try (have c18b2 : (a0_0 == 3) = true := by simpa using c18))
       clear c18
       have H' := Am H
       clear H
       obtain ⟨By, Bz, B0, B1, B2, B3⟩ := bc6 Aa.out
       obtain ⟨B4, B5, B6, B7, B8, B9⟩ := bf6 Aa.out
       go_wp2
       repeat (go_quiet (fail); try go_wp2)
       (refine Met.intro ?_; go_step; (repeat apply Exists.intro); refine ⟨?rel, ?eq_⟩; (case eq_ => first | rfl | (simp only [c13b0, c16b0, c18b0]; rfl)))
       case rel => exact ⟨_, (false), zr, H', ⟨by have := HJ1.out; have := HJ8.out; first | omega | exact Nat.le_refl _⟩, ⟨pK Aa.out⟩, ⟨pE HB.out Ab.out⟩⟩
      rw [if_neg c18] at H
      have c18b0 : (a0_0 == 3) = false := by simpa using c18
      (try (have c18b1 : decide (a0_0 = 3) = false := by simpa using c18))
      (try (have c18b2 : (a0_0 == 3) = false := by simpa using c18))
      (try (have c18b3 : ¬ (a0_0 = 3) := by simpa using c18))
      clear c18
      have H' := Am H
      clear H
      obtain ⟨Ca, Cb, Cc, Cd, Ce, Cf⟩ := bc6 Aa.out
      obtain ⟨Cg, Ch, Ci, Cj, Ck, Cl⟩ := bf6 Aa.out
      go_wp2
      repeat (go_quiet (fail); try go_wp2)
      (refine Met.intro ?_; go_step; (repeat apply Exists.intro); refine ⟨?rel, ?eq_⟩; (case eq_ => first | rfl | (simp only [c13b0, c16b0, c18b0]; rfl)))
      case rel => exact ⟨_, ((a0_5 != 0)), zr, H', ⟨by have := HJ1.out; have := HJ8.out; first | omega | exact Nat.le_refl _⟩, ⟨pK Aa.out⟩, ⟨pE HB.out Ab.out⟩⟩
   case rest =>
    clear HC7
    try clear c1
    try clear p2
    try clear c5
    try clear c5b0
    try clear c5b1
    try clear c6
    try clear c6b0
    try clear c6b1
    try clear c8
    try clear c10
    try clear c10b0
    try clear c10b1
    try clear c10b2
    try clear c12
    try clear c13
    try clear c13b0
    try clear c13b1
    try clear c13b2
    try clear c14
    try clear c14b0
    try clear c14b1
    try clear c14b2
    try clear c16
    try clear c16b0
    try clear c18
    try clear c18b0
    try clear c18b1
    try clear c18b2
    try clear Aw Ax Ay Az A0 A1
    try clear Ba Bb Bc Bd Be Bf
    try clear Bm Bn Bo Bp Bq Br
    try clear By Bz B0 B1 B2 B3
    try clear Ca Cb Cc Cd Ce Cf
    try clear Ad Ae Af Ag Ah Ai
    try clear A2 A3 A4 A5 A6 A7
    try clear Bg Bh Bi Bj Bk Bl
    try clear Bs Bt Bu Bv Bw Bx
    try clear B4 B5 B6 B7 B8 B9
    try clear Cg Ch Ci Cj Ck Cl
    try clear Aj Ak Al An Ao Ap
    try clear p2
    obtain ⟨kq, Au, rfl, HA, HJ6, Aa, HB⟩ := hcut
    cases kq with
    | zero => exact absurd HA.out (by simp [wal_Check.j2])
    | succ kj6 =>
     have H := HA.out
     clear HA
     simp only [wal_Check.j2] at H
     by_cases c21 : Au = true
     ·subst c21
      rw [if_pos rfl] at H
      obtain rfl := Option.some.inj H
      go_wp2
      repeat (go_quiet (fail); try go_wp2)
      go_ret
      exact ⟨pX, pE HB.out Ab.out⟩
     replace c21 := Bool.eq_false_iff.mpr c21
     subst c21
     rw [if_neg zF] at H
     by_cases c22 : (a0_0 == 1) = true
     ·rw [if_pos c22] at H
      have c22b0 : (a0_0 == 1) = true := c22
      (try (have c22b1 : decide (a0_0 = 1) = true := by simpa using c22))
      (try (have c22b2 : (a0_0 == 1) = true := by simpa using c22))
      clear c22
      obtain ⟨t134, A23, H⟩ := zb H
      obtain rfl := Option.some.inj H
      obtain ⟨_, _, _, _, _, _⟩ := bc6 Aa.out
      obtain ⟨_, _, _, _, _, _⟩ := bf6 Aa.out
      go_wp2_with (first | (go_at_call 31; (with_reducible refine (entry_Batch.calls kj6 _ _ l0_1 t134 _ ?Ar ?As A23.out).mono ?_); (case Ar => exact pC (Kd.C_below A8.out HB.out)); (case As => exact A9.out); rintro e w25 ⟨rfl, hb⟩; replace Aa := kBa Aa hb; replace HB := zX1 HB Ab.out hb; (try clear hb)))
      repeat (go_quiet (first | (go_at_call 31; (with_reducible refine (entry_Batch.calls kj6 _ _ l0_1 t134 _ ?Ar ?As A23.out).mono ?_); (case Ar => exact pC (Kd.C_below A8.out HB.out)); (case As => exact A9.out); rintro e w25 ⟨rfl, hb⟩; replace Aa := kBa Aa hb; replace HB := zX1 HB Ab.out hb; (try clear hb))); try go_wp2_with (first | (go_at_call 31; (with_reducible refine (entry_Batch.calls kj6 _ _ l0_1 t134 _ ?Ar ?As A23.out).mono ?_); (case Ar => exact pC (Kd.C_below A8.out HB.out)); (case As => exact A9.out); rintro e w25 ⟨rfl, hb⟩; replace Aa := kBa Aa hb; replace HB := zX1 HB Ab.out hb; (try clear hb))))
      go_ret
      exact ⟨pX, pE HB.out Ab.out⟩
     rw [if_neg c22] at H
     have c22b0 : (a0_0 == 1) = false := by simpa using c22
     (try (have c22b1 : decide (a0_0 = 1) = false := by simpa using c22))
     (try (have c22b2 : (a0_0 == 1) = false := by simpa using c22))
     (try (have c22b3 : ¬ (a0_0 = 1) := by simpa using c22))
     clear c22
     by_cases c26 : (a0_0 == 2) = true
     ·rw [if_pos c26] at H
      have c26b0 : (a0_0 == 2) = true := c26
      (try (have c26b1 : decide (a0_0 = 2) = true := by simpa using c26))
      (try (have c26b2 : (a0_0 == 2) = true := by simpa using c26))
      clear c26
      obtain ⟨t135, A27, H⟩ := zb H
      obtain rfl := Option.some.inj H
      obtain ⟨_, _, _, _, _, _⟩ := bc6 Aa.out
      obtain ⟨_, _, _, _, _, _⟩ := bf6 Aa.out
      go_wp2_with (first | (go_at_call 32; (with_reducible refine (hard_Check.calls a0_2 a0_3 a0_4 t135 _ A27.out).mono ?_); rintro e w29 ⟨rfl, hb⟩; replace Aa := kBa Aa hb; replace HB := zX1 HB Ab.out hb; (try clear hb)))
      repeat (go_quiet (first | (go_at_call 32; (with_reducible refine (hard_Check.calls a0_2 a0_3 a0_4 t135 _ A27.out).mono ?_); rintro e w29 ⟨rfl, hb⟩; replace Aa := kBa Aa hb; replace HB := zX1 HB Ab.out hb; (try clear hb))); try go_wp2_with (first | (go_at_call 32; (with_reducible refine (hard_Check.calls a0_2 a0_3 a0_4 t135 _ A27.out).mono ?_); rintro e w29 ⟨rfl, hb⟩; replace Aa := kBa Aa hb; replace HB := zX1 HB Ab.out hb; (try clear hb))))
      go_ret
      exact ⟨pX, pE HB.out Ab.out⟩
     rw [if_neg c26] at H
     have c26b0 : (a0_0 == 2) = false := by simpa using c26
     (try (have c26b1 : decide (a0_0 = 2) = false := by simpa using c26))
     (try (have c26b2 : (a0_0 == 2) = false := by simpa using c26))
     (try (have c26b3 : ¬ (a0_0 = 2) := by simpa using c26))
     clear c26
     by_cases c30 : a0_5 < 1
     ·rw [if_pos c30] at H
      have c30b0 := decide_eq_true c30
      clear c30
      obtain rfl := Option.some.inj H
      obtain ⟨_, _, _, _, _, _⟩ := bc6 Aa.out
      obtain ⟨_, _, _, _, _, _⟩ := bf6 Aa.out
      go_wp2
      repeat (go_quiet (fail); try go_wp2)
      go_ret
      exact ⟨pX, pE HB.out Ab.out⟩
     rw [if_neg c30] at H
     have c30b0 := decide_eq_false c30
     clear c30
     by_cases c32 : a0_5 > 2147483647
     ·rw [if_pos c32] at H
      have c32b0 : decide (2147483647 < a0_5) = true := decide_eq_true c32
      clear c32
      obtain rfl := Option.some.inj H
      obtain ⟨_, _, _, _, _, _⟩ := bc6 Aa.out
      obtain ⟨_, _, _, _, _, _⟩ := bf6 Aa.out
      go_wp2
      repeat (go_quiet (fail); try go_wp2)
      go_ret
      exact ⟨pX, pE HB.out Ab.out⟩
     rw [if_neg c32] at H
     have c32b0 : decide (2147483647 < a0_5) = false := decide_eq_false c32
     clear c32
     obtain rfl := Option.some.inj H
     obtain ⟨_, _, _, _, _, _⟩ := bc6 Aa.out
     obtain ⟨_, _, _, _, _, _⟩ := bf6 Aa.out
     go_wp2
     repeat (go_quiet (fail); try go_wp2)
     go_ret
     exact ⟨pX, pE HB.out Ab.out⟩
def wal_Make_1.f (k : Nat) (a0_0 : Int) (l0_1 : List (S52)) (a0_2 : Int) (a0_3 : Int) (a0_4 : Int) (a0_5 : Int) : Option (Bool) := (wal_Check.f k a0_0 l0_1 a0_2 a0_3 a0_4 a0_5).bind fun t137 => (some (t137 != 0))
theorem wal_Make_1.mono : ∀ a0 a1 a2 a3 a4 a5 k, LeO (wal_Make_1.f k a0 a1 a2 a3 a4 a5) (wal_Make_1.f (k + 1) a0 a1 a2 a3 a4 a5) := by
 intro a0 a1 a2 a3 a4 a5 k
 unfold wal_Make_1.f
 repeat' (with_reducible first | exact wal_Check.mono .. | exact LeO.refl .. | exact LeO.none .. | refine LeO.ite ?_ ?_ | refine LeO.bind ?_ (fun _ => ?_))
set_option maxRecDepth 100000 in
theorem wal_Make_1.calls (k : Nat) (a0_0 : Int) (A0_1 : Option Addr) (c0_1 : Nat) (l0_1 : List (S52)) (a0_2 : Int) (a0_3 : Int) (a0_4 : Int) (a0_5 : Int) (r : Bool) (w : World) (hr0_1 : Kd.C k52 w A0_1 l0_1.length l0_1) (hc0_1 : l0_1.length ≤ c0_1) (h : wal_Make_1.f k a0_0 l0_1 a0_2 a0_3 a0_4 a0_5 = some r) :
 Calls Try.prog 39 #[.agg #[.int .i64 a0_0, .slice A0_1 l0_1.length c0_1, .int .i64 a0_2, .int .i64 a0_3, .int .i64 a0_4, .int .i64 a0_5]] w fun e w' => e = .returned (.bool r) ∧ Below w.heap.size w w' := by
 have hu30 := Try.underlying30
 have HR0_1 := Am hr0_1
 have HC0_1 := Am hc0_1
 clear hr0_1 hc0_1
 have HB := Am (Below.refl w.heap.size w)
 unfold wal_Make_1.f at h
 have H := h
 clear h
 obtain ⟨t137, A2, H⟩ := zb H
 obtain rfl := Option.some.inj H
 go_enter Try.func39, Try.ntmps39
 go_wp2_with (first | ((with_reducible refine zD 1 rfl ?_); refine zE 1 #[.int .i64 a0_0, .slice A0_1 l0_1.length c0_1, .int .i64 a0_2, .int .i64 a0_3, .int .i64 a0_4, .int .i64 a0_5] 30 ?_; intro gb136 hg w3 hbox hb; have BK136 := Am (hbox); have GW136 := zA hg HB; replace HB := zB HB hb; have GE136 := GW136; clear hb hbox hg; obtain ⟨hcz4_0, hcz4_1, hcz4_2, hcz4_3, hcz4_4, hcz4_5⟩ := bc6 BK136.out; obtain ⟨hfz4_0, hfz4_1, hfz4_2, hfz4_3, hfz4_4, hfz4_5⟩ := bf6 BK136.out) | ((with_reducible refine zC 13 rfl ?_); refine zL (some 4) Try.func13 #[.agg #[.int .i64 a0_0, .slice A0_1 l0_1.length c0_1, .int .i64 a0_2, .int .i64 a0_3, .int .i64 a0_4, .int .i64 a0_5]] ?_; (with_reducible refine (wal_Check.calls k a0_0 _ _ l0_1 a0_2 a0_3 a0_4 a0_5 t137 _ ?side1 ?side2 A2.out).mono ?_); (case side1 => exact pC (Kd.C_below HR0_1.out HB.out)); (case side2 => exact HC0_1.out); rintro e w5 ⟨rfl, hb⟩; refine ⟨_, rfl, ?_⟩; replace BK136 := kBa BK136 hb; replace HB := zX1 HB GE136.out hb; (try clear hb)))
 go_ret
 exact ⟨pX, pE HB.out GE136.out⟩
end
end Go.Proofs.Ytdanmjfkocjgjaa.PWalPuts
