/- What the law reaches, as plain Lean functions, and that the machine's calls answer just that. -/
import Derived.Test.YtklpoeaoojgljaaPRelayDropsx0
import Derived.Test.YtklpoeaoojgljaaPRelayDropsx7
namespace Go.Proofs.Ytklpoeaoojgljaa.PRelayDrops
open Go.RowKit Go.Proofs.YtklpoeaoojgljaaW.PrintWords Go.Proofs.YtklpoeaoojgljaaW.PrintLast Go.Proofs.YtklpoeaoojgljaaW.PrintMore
set_option linter.unusedVariables false
set_option linter.unusedSimpArgs false
section
attribute [local go_sem] max2_int min2_int max_two min_two max_three min_three max_four min_four
attribute [local go_sem] wrap64_l1 wrap64_l2 wrap64_l3 wrap64_l4 wrap64_l5
def garnerref21_May.l0 : Nat → Int → Int → List (S37) → Option (Bool)
 | 0, _, _, _ => none
 | k + 1, x3, x129000, x129001 => if x3 < (x129001.length : Int) then (if 0 ≤ x3 then (if ((rd_T37 x129001 x3).f0) < 0 then (some false) else (if ((rd_T37 x129001 x3).f0) > 2147483647 then (some false) else ((garnerref04_May.f ((rd_T37 x129001 x3).f1.f0) ((rd_T37 x129001 x3).f1.f1) ((rd_T37 x129001 x3).f1.f2) ((rd_T37 x129001 x3).f1.f3)).bind fun t131 => (if t131 = true then (if ((rd_T37 x129001 x3).f1.f0) ≤ x129000 then (some false) else (if x3 > 0 then (if 0 ≤ (wrap64 (x3 - 1)) then (if (wrap64 (x3 - 1)) < (x129001.length : Int) then (if ((rd_T37 x129001 x3).f0) ≤ ((rd_T37 x129001 (wrap64 (x3 - 1))).f0) then (some false) else (garnerref21_May.l0 k (wrap64 (x3 + 1)) x129000 x129001)) else (none)) else (none)) else (garnerref21_May.l0 k (wrap64 (x3 + 1)) x129000 x129001))) else (some false))))) else (none)) else (if x129000 ≥ 1 then (if x129000 ≤ 2147483647 then (some (decide ((x129001.length : Int) ≤ 16384))) else (some false)) else (some false))
def garnerref21_May.f (k : Nat) (a0_0 : Int) (l0_1 : List (S37)) : Option (Bool) := garnerref21_May.l0 k 0 a0_0 l0_1
theorem garnerref21_May.mono_l : ∀ k, (∀ y0 y1 y2, LeO (garnerref21_May.l0 k y0 y1 y2) (garnerref21_May.l0 (k + 1) y0 y1 y2))
 | 0 => fun _ _ _ r h => by simp [garnerref21_May.l0] at h
 | k + 1 => by
  have ih0 := garnerref21_May.mono_l k
  ·intro y0 y1 y2
   unfold garnerref21_May.l0
   repeat' first
   | (with_reducible exact ih0 _ _ _)
   | (with_reducible exact LeO.refl _)
   | (with_reducible exact LeO.none _)
   | (with_reducible refine LeO.ite ?_ ?_)
   | (with_reducible refine LeO.bind ?_ (fun _ => ?_))
   | exact ih0 _ _ _
   | exact LeO.none _
   | refine LeO.ite ?_ ?_
   | refine LeO.bind ?_ (fun _ => ?_)
theorem garnerref21_May.mono : ∀ a0 a1 k, LeO (garnerref21_May.f k a0 a1) (garnerref21_May.f (k + 1) a0 a1) := by
 intro a0 a1 k
 have ih0 := garnerref21_May.mono_l k
 unfold garnerref21_May.f
 repeat' first
   | (with_reducible exact ih0 _ _ _)
   | (with_reducible exact LeO.refl _)
   | (with_reducible exact LeO.none _)
   | (with_reducible refine LeO.ite ?_ ?_)
   | (with_reducible refine LeO.bind ?_ (fun _ => ?_))
   | exact ih0 _ _ _
   | exact LeO.none _
   | refine LeO.ite ?_ ?_
   | refine LeO.bind ?_ (fun _ => ?_)
def garnerref21_May.T5 : Bool × List (List Nat × List Nat) := (true, [([], []), ([0], [0]), ([1], [1]), ([2], [2]), ([3], [3]), ([4, 3], [3, 4]), ([5, 3], [3, 5]), ([3, 6], [3, 6]), ([7, 3], [7]), ([8], [8]), ([9, 8], [8, 9]), ([10, 8, 8], [8, 10]), ([11, 8], [8, 11]), ([8, 12], [8, 12]), ([13, 11], [13]), ([14], [14]), ([15, 14], [14, 15]), ([16, 14], [14, 16]), ([14], [14]), ([18, 14], [14, 18]), ([17, 19, 14], [14, 17, 19]), ([14, 20], [14, 20]), ([21, 14], [21]), ([22], [22]), ([23, 22], [22, 23]), ([24, 22, 22], [22, 24]), ([25], [25]), ([26, 25], [25, 26]), ([25], [25]), ([28, 25], [25, 28]), ([25], [25]), ([30, 25], [25, 30]), ([29, 31, 25], [25, 29, 31]), ([32, 25], [25, 32]), ([33, 25], [25, 33]), ([27, 34, 25], [25, 27, 34]), ([25, 35, 22], [22, 25, 35]), ([22, 36], [22, 36])])
def garnerref21_May.B5 : List Nat := [0, 1, 3, 7, 15, 31, 63, 127, 255, 511, 1023, 2047, 4095, 8191, 16383, 32767, 65535, 131071, 32767, 294911, 1048575, 2097151, 4194303, 8388607, 16777215, 33554431, 67108863, 134217727, 67108863, 335544319, 67108863, 1140850687, 4093640703, 8388607999, 16978542591, 34359738367, 68719476735, 137438953471]
theorem garnerref21_May.tab5 : rtab .any (opsOf Try.f17 5) = garnerref21_May.T5 := by kernel_rfl
theorem garnerref21_May.bits5 : waitsOk garnerref21_May.T5.2 garnerref21_May.B5 = true := by kernel_rfl
set_option maxHeartbeats 8000000 in
set_option maxRecDepth 100000 in
theorem garnerref21_May.calls (k : Nat) (a0_0 : Int) (A0_1 : Option Addr) (c0_1 : Nat) (l0_1 : List (S37)) (r : Bool) (w : World) (hr0_1 : Kd.C k37 w A0_1 l0_1.length l0_1) (hc0_1 : l0_1.length ≤ c0_1) (h : garnerref21_May.f k a0_0 l0_1 = some r) :
  Calls Try.prog 17 #[.agg #[.int .i64 a0_0, .slice A0_1 l0_1.length c0_1]] w fun e w' => e = .returned (.bool r) ∧ Below w.heap.size w w' := by
 have hu35 := Try.underlying35
 have hu37 := Try.underlying37
 have hu25 := Try.underlying25
 have Ar := Am hr0_1
 have HC0_1 := Am hc0_1
 clear hr0_1 hc0_1
 have HB := Am (Below.refl w.heap.size w)
 have H : (garnerref21_May.l0 k 0 a0_0 l0_1) = some r := h
 clear h
 have H' := Am H
 clear H
 go_enter Try.func17, Try.ntmps17
 go_wp2_with (first | ((with_reducible refine gate_dst (N := 1) rfl ?_); (try (refine gate_guard (by rfl) ?_; dsimp only)); refine box_event ?hg (N := 1) ?hd (cs := #[.int .i64 a0_0, .slice A0_1 l0_1.length c0_1]) (t := 35) ?hr ?_; (case hd => rfl); (case hg => rfl); (case hr => first | (go_simp; done) | (go_simp; rfl)); intro Ai hg w2 hbox hb; have Ad := Am (hbox); have A3 := Am ((by rw [hg]; exact (below_size (pB HB.out)) : w.heap.size ≤ Ai)); replace HB := Am (below_step (pB HB.out) hb); have Af := A3; clear hb hbox hg))
 go_loopg [3] k (fun kq v3 w' => ∃ (Aa : Int), v3 = .int .i64 Aa ∧ Aside0 (garnerref21_May.l0 kq Aa a0_0 l0_1 = some r) ∧ Aside0 (kq ≤ k) ∧ Aside0 (w'.heap[Ai]? = some (.cells #[.int .i64 a0_0, (.slice A0_1 l0_1.length c0_1)] 35 (0, 0))) ∧ Aside0 (Below w.heap.size w w'))
 case atStart => exact ⟨(0), (by first | rfl | (simp; done) | (simp [*]; done)), H', ⟨Nat.le_refl _⟩, ⟨pK Ad.out⟩, ⟨pE HB.out Af.out⟩⟩
 case round =>
  clear H'
  try clear c1
  try clear p2
  obtain ⟨Aa, rfl, HA, HK1, Ad, HB⟩ := hrel
  cases gk with
  | zero => exact absurd HA.out (by simp [garnerref21_May.l0])
  | succ k1 =>
   have H := HA.out
   clear HA
   simp only [garnerref21_May.l0] at H
   by_cases c3 : Aa < (l0_1.length : Int)
   rotate_left
   ·rw [if_neg c3] at H
    have c3b0 : decide (Aa < (l0_1.length : Int)) = false := decide_eq_false c3
    clear c3
    by_cases c62 : a0_0 ≥ 1
    rotate_left
    ·rw [if_neg c62] at H
     have c62b0 : decide (1 ≤ a0_0) = false := decide_eq_false c62
     clear c62
     obtain rfl := Option.some.inj H
     obtain ⟨_, _⟩ := bc2 Ad.out
     obtain ⟨_, _⟩ := bf2 Ad.out
     go_wp2
     go_ret
     exact ⟨pX, pE HB.out Af.out⟩
    rw [if_pos c62] at H
    have c62b0 : decide (1 ≤ a0_0) = true := decide_eq_true c62
    clear c62
    by_cases c63 : a0_0 ≤ 2147483647
    ·rw [if_pos c63] at H
     have c63b0 : decide (a0_0 ≤ 2147483647) = true := decide_eq_true c63
     clear c63
     obtain rfl := Option.some.inj H
     obtain ⟨_, _⟩ := bc2 Ad.out
     obtain ⟨_, _⟩ := bf2 Ad.out
     go_wp2
     go_ret
     exact ⟨pX, pE HB.out Af.out⟩
    rw [if_neg c63] at H
    have c63b0 : decide (a0_0 ≤ 2147483647) = false := decide_eq_false c63
    clear c63
    obtain rfl := Option.some.inj H
    obtain ⟨_, _⟩ := bc2 Ad.out
    obtain ⟨_, _⟩ := bf2 Ad.out
    go_wp2
    go_ret
    exact ⟨pX, pE HB.out Af.out⟩
   rw [if_pos c3] at H
   have c3b0 : decide (Aa < (l0_1.length : Int)) = true := decide_eq_true c3
   clear c3
   by_cases c4 : 0 ≤ Aa
   rotate_left
   ·rw [if_neg c4] at H
    exact absurd H (by simp)
   rw [if_pos c4] at H
   have c4b0 : decide (0 ≤ Aa) = true := decide_eq_true c4
   clear c4
   by_cases c5 : ((rd_T37 l0_1 Aa).f0) < 0
   ·rw [if_pos c5] at H
    have c5b0 : decide (((rd_T37 l0_1 Aa).f0) < 0) = true := decide_eq_true c5
    clear c5
    obtain rfl := Option.some.inj H
    obtain ⟨_, _⟩ := bc2 Ad.out
    obtain ⟨_, _⟩ := bf2 Ad.out
    have p129 : 0 ≤ (Aa : Int) := of_decide_eq_true pS
    have q129 : Aa < (l0_1.length : Int) := of_decide_eq_true pS
    obtain ⟨Ag, e129, Al, An, Ao, Ap, Aq⟩ := at_T37u Ar.out Aa p129 q129 HB.out
    cases e129
    replace p129 := eq_true p129
    replace q129 := eq_true q129
    try go_wp2_with (first | ((with_reducible refine gate_dst (N := 4) rfl ?_); (try (refine gate_guard (by rfl) ?_; dsimp only)); refine box_event ?hg (N := 4) ?hd (cs := #[.int .i64 0, .int .i64 0, .int .i64 0, .int .i64 0, .int .u32 0]) (t := 37) ?hr ?_; (case hd => rfl); (case hg => rfl); (case hr => first | (go_simp; done) | (go_simp; rfl)); intro Ab hg w7 hbox hb; have Ac := Am (hbox); have Ak := Am ((by rw [hg]; exact (below_size (pE HB.out Af.out)) : w.heap.size ≤ Ab)); replace HB := Am (below_step (pE HB.out Af.out) hb); have Aj := Ak; have Ae := Am ((by rw [hg]; exact Nat.ne_of_lt (kL Ad.out) : Ai ≠ Ab)); have Ah := Am ((by rw [hg]; exact Nat.ne_of_gt (kL Ad.out) : Ab ≠ Ai)); replace Ad := kBa Ad hb; clear hb hbox hg; have hnb8 := Ah.out; have hnc8 := Ae.out; obtain ⟨_, _, _, _, _⟩ := bc5 Ac.out; obtain ⟨_, _, _, _, _⟩ := bf5 Ac.out))
    have n0_ : Aside0 ((((((w7.setCell ⟨Ab, 0, none⟩ (.int .i64 ((rd_T37 l0_1 Aa).f0))).setCell ⟨Ab, 1, none⟩ (.int .i64 ((rd_T37 l0_1 Aa).f1.f0))).setCell ⟨Ab, 2, none⟩ (.int .i64 ((rd_T37 l0_1 Aa).f1.f1))).setCell ⟨Ab, 3, none⟩ (.int .i64 ((rd_T37 l0_1 Aa).f1.f2))).setCell ⟨Ab, 4, none⟩ (.int .u32 ((rd_T37 l0_1 Aa).f1.f3))).heap[Ai]? = some (.cells #[.int .i64 a0_0, .slice (some Ag) l0_1.length c0_1] 35 (0, 0))) := ⟨kX1 Ad.out Ae.out⟩
    have n1_ : Aside0 ((((((w7.setCell ⟨Ab, 0, none⟩ (.int .i64 ((rd_T37 l0_1 Aa).f0))).setCell ⟨Ab, 1, none⟩ (.int .i64 ((rd_T37 l0_1 Aa).f1.f0))).setCell ⟨Ab, 2, none⟩ (.int .i64 ((rd_T37 l0_1 Aa).f1.f1))).setCell ⟨Ab, 3, none⟩ (.int .i64 ((rd_T37 l0_1 Aa).f1.f2))).setCell ⟨Ab, 4, none⟩ (.int .u32 ((rd_T37 l0_1 Aa).f1.f3))).heap[Ab]? = some (.cells #[.int .i64 ((rd_T37 l0_1 Aa).f0), .int .i64 ((rd_T37 l0_1 Aa).f1.f0), .int .i64 ((rd_T37 l0_1 Aa).f1.f1), .int .i64 ((rd_T37 l0_1 Aa).f1.f2), .int .u32 ((rd_T37 l0_1 Aa).f1.f3)] 37 (0, 0))) := ⟨kX0 Ac.out⟩
    have n2_ : Aside0 (Below w.heap.size w (((((w7.setCell ⟨Ab, 0, none⟩ (.int .i64 ((rd_T37 l0_1 Aa).f0))).setCell ⟨Ab, 1, none⟩ (.int .i64 ((rd_T37 l0_1 Aa).f1.f0))).setCell ⟨Ab, 2, none⟩ (.int .i64 ((rd_T37 l0_1 Aa).f1.f1))).setCell ⟨Ab, 3, none⟩ (.int .i64 ((rd_T37 l0_1 Aa).f1.f2))).setCell ⟨Ab, 4, none⟩ (.int .u32 ((rd_T37 l0_1 Aa).f1.f3)))) := ⟨pE2 HB.out Af.out Aj.out⟩
    (try clear Ad)
    (try clear Ac)
    (try clear HB)
    generalize (((((w7.setCell ⟨Ab, 0, none⟩ (.int .i64 ((rd_T37 l0_1 Aa).f0))).setCell ⟨Ab, 1, none⟩ (.int .i64 ((rd_T37 l0_1 Aa).f1.f0))).setCell ⟨Ab, 2, none⟩ (.int .i64 ((rd_T37 l0_1 Aa).f1.f1))).setCell ⟨Ab, 3, none⟩ (.int .i64 ((rd_T37 l0_1 Aa).f1.f2))).setCell ⟨Ab, 4, none⟩ (.int .u32 ((rd_T37 l0_1 Aa).f1.f3))) = w10 at n0_ n1_ n2_ ⊢
    have Ad := n0_
    have Ac := n1_
    have HB := n2_
    clear n0_ n1_ n2_
    replace Ad := kDa Ad
    replace Ac := kDa Ac
    replace HB := bDa HB
    refine start_ (n := 38) (S := fun w' => cG w' Ab 0 (.int .i64 ((rd_T37 l0_1 Aa).f0)) ∧ cG w' Ab 1 (.int .i64 ((rd_T37 l0_1 Aa).f1.f0)) ∧ cG w' Ab 2 (.int .i64 ((rd_T37 l0_1 Aa).f1.f1)) ∧ cG w' Ab 3 (.int .i64 ((rd_T37 l0_1 Aa).f1.f2)) ∧ cG w' Ab 4 (.int .u32 ((rd_T37 l0_1 Aa).f1.f3))) (ds := []) #[false, false, false, false, false, false, false, false, false, false, false, false, false, false, false, false, false, false, false, false, false, false, false, false, false, false, false, false, false, false, false, false, false, false, false, false, false, false] (by kernel_rfl) rfl rfl ⟨(blk_cell Ac.out 0).trans rfl, (blk_cell Ac.out 1).trans rfl, (blk_cell Ac.out 2).trans rfl, (blk_cell Ac.out 3).trans rfl, (blk_cell Ac.out 4).trans rfl⟩ (fun hHeld => ?_); refine with_tabW garnerref21_May.tab5 garnerref21_May.bits5 (fun HT_ HW_ => ?_)
    generalize w10.drew = w11 at Ad Ac HB hHeld ⊢
    refine pui 0 17 38 1 HT_ ?_
    refine tki 1 18 38 3 HT_ HW_ hHeld ?_
    refine pui 2 19 38 7 HT_ ?_
    refine pui 3 20 38 15 HT_ ?_
    refine pdi 4 21 38 31 HT_ ?_
    refine pdi 5 22 38 63 HT_ ?_
    refine pdi 6 23 38 127 HT_ ?_
    refine pui 7 24 38 255 HT_ ?_
    refine pui 8 25 38 511 HT_ ?_
    refine pdi 9 26 38 1023 HT_ ?_
    refine pdi 10 27 38 2047 HT_ ?_
    refine pdi 11 28 38 4095 HT_ ?_
    refine pdi 12 29 38 8191 HT_ ?_
    refine pui 13 30 38 16383 HT_ ?_
    refine pui 14 31 38 32767 HT_ ?_
    refine pdi 15 32 38 65535 HT_ ?_
    refine pdi 16 33 38 131071 HT_ ?_
    refine pdi 17 34 38 262143 HT_ ?_
    refine pdi 18 35 38 524287 HT_ ?_
    refine pdi 19 36 38 1048575 HT_ ?_
    refine pdi 20 37 38 2097151 HT_ ?_
    refine pui 21 38 38 4194303 HT_ ?_
    refine pui 22 39 38 8388607 HT_ ?_
    refine pdi 23 40 38 16777215 HT_ ?_
    refine pdi 24 41 38 33554431 HT_ ?_
    refine pdi 25 42 38 67108863 HT_ ?_
    refine pdi 26 43 38 134217727 HT_ ?_
    refine pdi 27 44 38 268435455 HT_ ?_
    refine pdi 28 45 38 536870911 HT_ ?_
    refine pdi 29 46 38 1073741823 HT_ ?_
    refine pdi 30 47 38 2147483647 HT_ ?_
    refine pdi 31 48 38 4294967295 HT_ ?_
    refine pdi 32 49 38 8589934591 HT_ ?_
    refine pdi 33 50 38 17179869183 HT_ ?_
    refine pdi 34 51 38 34359738367 HT_ ?_
    refine pdi 35 52 38 68719476735 HT_ ?_
    refine pdi 36 53 38 137438953471 HT_ ?_
    refine pui 37 54 38 274877906943 HT_ ?_
    refine done_ (done_of HT_.out (by kernel_rfl)) ?_
    try go_wp2
    go_ret
    exact ⟨pX, pE2 HB.out Af.out Aj.out⟩
   rw [if_neg c5] at H
   have c5b0 : decide (((rd_T37 l0_1 Aa).f0) < 0) = false := decide_eq_false c5
   clear c5
   by_cases c12 : ((rd_T37 l0_1 Aa).f0) > 2147483647
   ·rw [if_pos c12] at H
    have c12b0 : decide (2147483647 < ((rd_T37 l0_1 Aa).f0)) = true := decide_eq_true c12
    clear c12
    obtain rfl := Option.some.inj H
    obtain ⟨_, _⟩ := bc2 Ad.out
    obtain ⟨_, _⟩ := bf2 Ad.out
    have p129 : 0 ≤ (Aa : Int) := of_decide_eq_true pS
    have q129 : Aa < (l0_1.length : Int) := of_decide_eq_true pS
    obtain ⟨Ag, e129, Al, An, Ao, Ap, Aq⟩ := at_T37u Ar.out Aa p129 q129 HB.out
    cases e129
    replace p129 := eq_true p129
    replace q129 := eq_true q129
    try go_wp2_with (first | ((with_reducible refine gate_dst (N := 4) rfl ?_); (try (refine gate_guard (by rfl) ?_; dsimp only)); refine box_event ?hg (N := 4) ?hd (cs := #[.int .i64 0, .int .i64 0, .int .i64 0, .int .i64 0, .int .u32 0]) (t := 37) ?hr ?_; (case hd => rfl); (case hg => rfl); (case hr => first | (go_simp; done) | (go_simp; rfl)); intro Ab hg w14 hbox hb; have Ac := Am (hbox); have Ak := Am ((by rw [hg]; exact (below_size (pE HB.out Af.out)) : w.heap.size ≤ Ab)); replace HB := Am (below_step (pE HB.out Af.out) hb); have Aj := Ak; have Ae := Am ((by rw [hg]; exact Nat.ne_of_lt (kL Ad.out) : Ai ≠ Ab)); have Ah := Am ((by rw [hg]; exact Nat.ne_of_gt (kL Ad.out) : Ab ≠ Ai)); replace Ad := kBa Ad hb; clear hb hbox hg; have hnb15 := Ah.out; have hnc15 := Ae.out; obtain ⟨_, _, _, _, _⟩ := bc5 Ac.out; obtain ⟨_, _, _, _, _⟩ := bf5 Ac.out))
    have n0_ : Aside0 ((((((w14.setCell ⟨Ab, 0, none⟩ (.int .i64 ((rd_T37 l0_1 Aa).f0))).setCell ⟨Ab, 1, none⟩ (.int .i64 ((rd_T37 l0_1 Aa).f1.f0))).setCell ⟨Ab, 2, none⟩ (.int .i64 ((rd_T37 l0_1 Aa).f1.f1))).setCell ⟨Ab, 3, none⟩ (.int .i64 ((rd_T37 l0_1 Aa).f1.f2))).setCell ⟨Ab, 4, none⟩ (.int .u32 ((rd_T37 l0_1 Aa).f1.f3))).heap[Ai]? = some (.cells #[.int .i64 a0_0, .slice (some Ag) l0_1.length c0_1] 35 (0, 0))) := ⟨kX1 Ad.out Ae.out⟩
    have n1_ : Aside0 ((((((w14.setCell ⟨Ab, 0, none⟩ (.int .i64 ((rd_T37 l0_1 Aa).f0))).setCell ⟨Ab, 1, none⟩ (.int .i64 ((rd_T37 l0_1 Aa).f1.f0))).setCell ⟨Ab, 2, none⟩ (.int .i64 ((rd_T37 l0_1 Aa).f1.f1))).setCell ⟨Ab, 3, none⟩ (.int .i64 ((rd_T37 l0_1 Aa).f1.f2))).setCell ⟨Ab, 4, none⟩ (.int .u32 ((rd_T37 l0_1 Aa).f1.f3))).heap[Ab]? = some (.cells #[.int .i64 ((rd_T37 l0_1 Aa).f0), .int .i64 ((rd_T37 l0_1 Aa).f1.f0), .int .i64 ((rd_T37 l0_1 Aa).f1.f1), .int .i64 ((rd_T37 l0_1 Aa).f1.f2), .int .u32 ((rd_T37 l0_1 Aa).f1.f3)] 37 (0, 0))) := ⟨kX0 Ac.out⟩
    have n2_ : Aside0 (Below w.heap.size w (((((w14.setCell ⟨Ab, 0, none⟩ (.int .i64 ((rd_T37 l0_1 Aa).f0))).setCell ⟨Ab, 1, none⟩ (.int .i64 ((rd_T37 l0_1 Aa).f1.f0))).setCell ⟨Ab, 2, none⟩ (.int .i64 ((rd_T37 l0_1 Aa).f1.f1))).setCell ⟨Ab, 3, none⟩ (.int .i64 ((rd_T37 l0_1 Aa).f1.f2))).setCell ⟨Ab, 4, none⟩ (.int .u32 ((rd_T37 l0_1 Aa).f1.f3)))) := ⟨pE2 HB.out Af.out Aj.out⟩
    (try clear Ad)
    (try clear Ac)
    (try clear HB)
    generalize (((((w14.setCell ⟨Ab, 0, none⟩ (.int .i64 ((rd_T37 l0_1 Aa).f0))).setCell ⟨Ab, 1, none⟩ (.int .i64 ((rd_T37 l0_1 Aa).f1.f0))).setCell ⟨Ab, 2, none⟩ (.int .i64 ((rd_T37 l0_1 Aa).f1.f1))).setCell ⟨Ab, 3, none⟩ (.int .i64 ((rd_T37 l0_1 Aa).f1.f2))).setCell ⟨Ab, 4, none⟩ (.int .u32 ((rd_T37 l0_1 Aa).f1.f3))) = w17 at n0_ n1_ n2_ ⊢
    have Ad := n0_
    have Ac := n1_
    have HB := n2_
    clear n0_ n1_ n2_
    replace Ad := kDa Ad
    replace Ac := kDa Ac
    replace HB := bDa HB
    refine start_ (n := 38) (S := fun w' => cG w' Ab 0 (.int .i64 ((rd_T37 l0_1 Aa).f0)) ∧ cG w' Ab 1 (.int .i64 ((rd_T37 l0_1 Aa).f1.f0)) ∧ cG w' Ab 2 (.int .i64 ((rd_T37 l0_1 Aa).f1.f1)) ∧ cG w' Ab 3 (.int .i64 ((rd_T37 l0_1 Aa).f1.f2)) ∧ cG w' Ab 4 (.int .u32 ((rd_T37 l0_1 Aa).f1.f3))) (ds := []) #[false, false, false, false, false, false, false, false, false, false, false, false, false, false, false, false, false, false, false, false, false, false, false, false, false, false, false, false, false, false, false, false, false, false, false, false, false, false] (by kernel_rfl) rfl rfl ⟨(blk_cell Ac.out 0).trans rfl, (blk_cell Ac.out 1).trans rfl, (blk_cell Ac.out 2).trans rfl, (blk_cell Ac.out 3).trans rfl, (blk_cell Ac.out 4).trans rfl⟩ (fun hHeld => ?_); refine with_tabW garnerref21_May.tab5 garnerref21_May.bits5 (fun HT_ HW_ => ?_)
    generalize w17.drew = w18 at Ad Ac HB hHeld ⊢
    refine pui 0 17 38 1 HT_ ?_
    refine tki 1 18 38 3 HT_ HW_ hHeld ?_
    refine pui 2 19 38 7 HT_ ?_
    refine pui 3 20 38 15 HT_ ?_
    refine pui 4 21 38 31 HT_ ?_
    refine tki 5 22 38 63 HT_ HW_ hHeld ?_
    refine pui 6 23 38 127 HT_ ?_
    refine pui 7 24 38 255 HT_ ?_
    refine pui 8 25 38 511 HT_ ?_
    refine pdi 9 26 38 1023 HT_ ?_
    refine pdi 10 27 38 2047 HT_ ?_
    refine pdi 11 28 38 4095 HT_ ?_
    refine pdi 12 29 38 8191 HT_ ?_
    refine pui 13 30 38 16383 HT_ ?_
    refine pui 14 31 38 32767 HT_ ?_
    refine pdi 15 32 38 65535 HT_ ?_
    refine pdi 16 33 38 131071 HT_ ?_
    refine pdi 17 34 38 262143 HT_ ?_
    refine pdi 18 35 38 524287 HT_ ?_
    refine pdi 19 36 38 1048575 HT_ ?_
    refine pdi 20 37 38 2097151 HT_ ?_
    refine pui 21 38 38 4194303 HT_ ?_
    refine pui 22 39 38 8388607 HT_ ?_
    refine pdi 23 40 38 16777215 HT_ ?_
    refine pdi 24 41 38 33554431 HT_ ?_
    refine pdi 25 42 38 67108863 HT_ ?_
    refine pdi 26 43 38 134217727 HT_ ?_
    refine pdi 27 44 38 268435455 HT_ ?_
    refine pdi 28 45 38 536870911 HT_ ?_
    refine pdi 29 46 38 1073741823 HT_ ?_
    refine pdi 30 47 38 2147483647 HT_ ?_
    refine pdi 31 48 38 4294967295 HT_ ?_
    refine pdi 32 49 38 8589934591 HT_ ?_
    refine pdi 33 50 38 17179869183 HT_ ?_
    refine pdi 34 51 38 34359738367 HT_ ?_
    refine pdi 35 52 38 68719476735 HT_ ?_
    refine pdi 36 53 38 137438953471 HT_ ?_
    refine pui 37 54 38 274877906943 HT_ ?_
    refine done_ (done_of HT_.out (by kernel_rfl)) ?_
    try go_wp2
    go_ret
    exact ⟨pX, pE2 HB.out Af.out Aj.out⟩
   rw [if_neg c12] at H
   have c12b0 : decide (2147483647 < ((rd_T37 l0_1 Aa).f0)) = false := decide_eq_false c12
   clear c12
   replace H := Option.bind_eq_some_iff.mp H
   obtain ⟨t131, A190, H⟩ := H
   replace H : (if t131 = true then (if ((rd_T37 l0_1 Aa).f1.f0) ≤ a0_0 then (some false) else (if Aa > 0 then (if 0 ≤ (wrap64 (Aa - 1)) then (if (wrap64 (Aa - 1)) < (l0_1.length : Int) then (if ((rd_T37 l0_1 Aa).f0) ≤ ((rd_T37 l0_1 (wrap64 (Aa - 1))).f0) then (some false) else (garnerref21_May.l0 k1 (wrap64 (Aa + 1)) a0_0 l0_1)) else (none)) else (none)) else (garnerref21_May.l0 k1 (wrap64 (Aa + 1)) a0_0 l0_1))) else (some false)) = some r := H
   have A19 := Am A190
   clear A190
   by_cases c20 : t131 = true
   rotate_left
   ·replace c20 := Bool.eq_false_iff.mpr c20
    subst c20
    have H1 : (some false) = some r := by rw [if_neg (show ¬ (false = true) by decide)] at H; exact H
    clear H
    have H := H1
    clear H1
    obtain rfl := Option.some.inj H
    obtain ⟨_, _⟩ := bc2 Ad.out
    obtain ⟨_, _⟩ := bf2 Ad.out
    have p129 : 0 ≤ (Aa : Int) := of_decide_eq_true pS
    have q129 : Aa < (l0_1.length : Int) := of_decide_eq_true pS
    obtain ⟨Ag, e129, Al, An, Ao, Ap, Aq⟩ := at_T37u Ar.out Aa p129 q129 HB.out
    cases e129
    replace p129 := eq_true p129
    replace q129 := eq_true q129
    try go_wp2_with (first | ((with_reducible refine gate_dst (N := 4) rfl ?_); (try (refine gate_guard (by rfl) ?_; dsimp only)); refine box_event ?hg (N := 4) ?hd (cs := #[.int .i64 0, .int .i64 0, .int .i64 0, .int .i64 0, .int .u32 0]) (t := 37) ?hr ?_; (case hd => rfl); (case hg => rfl); (case hr => first | (go_simp; done) | (go_simp; rfl)); intro Ab hg w56 hbox hb; have Ac := Am (hbox); have Ak := Am ((by rw [hg]; exact (below_size (pE HB.out Af.out)) : w.heap.size ≤ Ab)); replace HB := Am (below_step (pE HB.out Af.out) hb); have Aj := Ak; have Ae := Am ((by rw [hg]; exact Nat.ne_of_lt (kL Ad.out) : Ai ≠ Ab)); have Ah := Am ((by rw [hg]; exact Nat.ne_of_gt (kL Ad.out) : Ab ≠ Ai)); replace Ad := kBa Ad hb; clear hb hbox hg; have hnb57 := Ah.out; have hnc57 := Ae.out; obtain ⟨_, _, _, _, _⟩ := bc5 Ac.out; obtain ⟨_, _, _, _, _⟩ := bf5 Ac.out))
    have n0_ : Aside0 ((((((w56.setCell ⟨Ab, 0, none⟩ (.int .i64 ((rd_T37 l0_1 Aa).f0))).setCell ⟨Ab, 1, none⟩ (.int .i64 ((rd_T37 l0_1 Aa).f1.f0))).setCell ⟨Ab, 2, none⟩ (.int .i64 ((rd_T37 l0_1 Aa).f1.f1))).setCell ⟨Ab, 3, none⟩ (.int .i64 ((rd_T37 l0_1 Aa).f1.f2))).setCell ⟨Ab, 4, none⟩ (.int .u32 ((rd_T37 l0_1 Aa).f1.f3))).heap[Ai]? = some (.cells #[.int .i64 a0_0, .slice (some Ag) l0_1.length c0_1] 35 (0, 0))) := ⟨kX1 Ad.out Ae.out⟩
    have n1_ : Aside0 ((((((w56.setCell ⟨Ab, 0, none⟩ (.int .i64 ((rd_T37 l0_1 Aa).f0))).setCell ⟨Ab, 1, none⟩ (.int .i64 ((rd_T37 l0_1 Aa).f1.f0))).setCell ⟨Ab, 2, none⟩ (.int .i64 ((rd_T37 l0_1 Aa).f1.f1))).setCell ⟨Ab, 3, none⟩ (.int .i64 ((rd_T37 l0_1 Aa).f1.f2))).setCell ⟨Ab, 4, none⟩ (.int .u32 ((rd_T37 l0_1 Aa).f1.f3))).heap[Ab]? = some (.cells #[.int .i64 ((rd_T37 l0_1 Aa).f0), .int .i64 ((rd_T37 l0_1 Aa).f1.f0), .int .i64 ((rd_T37 l0_1 Aa).f1.f1), .int .i64 ((rd_T37 l0_1 Aa).f1.f2), .int .u32 ((rd_T37 l0_1 Aa).f1.f3)] 37 (0, 0))) := ⟨kX0 Ac.out⟩
    have n2_ : Aside0 (Below w.heap.size w (((((w56.setCell ⟨Ab, 0, none⟩ (.int .i64 ((rd_T37 l0_1 Aa).f0))).setCell ⟨Ab, 1, none⟩ (.int .i64 ((rd_T37 l0_1 Aa).f1.f0))).setCell ⟨Ab, 2, none⟩ (.int .i64 ((rd_T37 l0_1 Aa).f1.f1))).setCell ⟨Ab, 3, none⟩ (.int .i64 ((rd_T37 l0_1 Aa).f1.f2))).setCell ⟨Ab, 4, none⟩ (.int .u32 ((rd_T37 l0_1 Aa).f1.f3)))) := ⟨pE2 HB.out Af.out Aj.out⟩
    (try clear Ad)
    (try clear Ac)
    (try clear HB)
    generalize (((((w56.setCell ⟨Ab, 0, none⟩ (.int .i64 ((rd_T37 l0_1 Aa).f0))).setCell ⟨Ab, 1, none⟩ (.int .i64 ((rd_T37 l0_1 Aa).f1.f0))).setCell ⟨Ab, 2, none⟩ (.int .i64 ((rd_T37 l0_1 Aa).f1.f1))).setCell ⟨Ab, 3, none⟩ (.int .i64 ((rd_T37 l0_1 Aa).f1.f2))).setCell ⟨Ab, 4, none⟩ (.int .u32 ((rd_T37 l0_1 Aa).f1.f3))) = w59 at n0_ n1_ n2_ ⊢
    have Ad := n0_
    have Ac := n1_
    have HB := n2_
    clear n0_ n1_ n2_
    replace Ad := kDa Ad
    replace Ac := kDa Ac
    replace HB := bDa HB
    refine start_ (n := 38) (S := fun w' => cG w' Ab 0 (.int .i64 ((rd_T37 l0_1 Aa).f0)) ∧ cG w' Ab 1 (.int .i64 ((rd_T37 l0_1 Aa).f1.f0)) ∧ cG w' Ab 2 (.int .i64 ((rd_T37 l0_1 Aa).f1.f1)) ∧ cG w' Ab 3 (.int .i64 ((rd_T37 l0_1 Aa).f1.f2)) ∧ cG w' Ab 4 (.int .u32 ((rd_T37 l0_1 Aa).f1.f3))) (ds := []) #[false, false, false, false, false, false, false, false, false, false, false, false, false, false, false, false, false, false, false, false, false, false, false, false, false, false, false, false, false, false, false, false, false, false, false, false, false, false] (by kernel_rfl) rfl rfl ⟨(blk_cell Ac.out 0).trans rfl, (blk_cell Ac.out 1).trans rfl, (blk_cell Ac.out 2).trans rfl, (blk_cell Ac.out 3).trans rfl, (blk_cell Ac.out 4).trans rfl⟩ (fun hHeld => ?_); refine with_tabW garnerref21_May.tab5 garnerref21_May.bits5 (fun HT_ HW_ => ?_)
    generalize w59.drew = w60 at Ad Ac HB hHeld ⊢
    refine pui 0 17 38 1 HT_ ?_
    refine tki 1 18 38 3 HT_ HW_ hHeld ?_
    refine pui 2 19 38 7 HT_ ?_
    refine pui 3 20 38 15 HT_ ?_
    refine pui 4 21 38 31 HT_ ?_
    refine tki 5 22 38 63 HT_ HW_ hHeld ?_
    refine pui 6 23 38 127 HT_ ?_
    refine pui 7 24 38 255 HT_ ?_
    refine pui 8 25 38 511 HT_ ?_
    refine pui 9 26 38 1023 HT_ ?_
    refine tki 10 27 38 2047 HT_ HW_ hHeld ?_
    refine onei 11 28 38 4095 HT_ (fun K hK => ?_)
    refine goes_ Try.func6 (by kernel_rfl) rfl #[.agg #[.int .i64 ((rd_T37 l0_1 Aa).f1.f0), .int .i64 ((rd_T37 l0_1 Aa).f1.f1), .int .i64 ((rd_T37 l0_1 Aa).f1.f2), .int .u32 ((rd_T37 l0_1 Aa).f1.f3)]] (by rfl) rfl rfl pL ?_
    with_reducible refine (garnerref04_May.calls ((rd_T37 l0_1 Aa).f1.f0) ((rd_T37 l0_1 Aa).f1.f1) ((rd_T37 l0_1 Aa).f1.f2) ((rd_T37 l0_1 Aa).f1.f3) false _ A19.out).mono ?_
    rintro e w61 ⟨rfl, hb⟩
    refine ⟨_, rfl, ?_⟩
    replace Ad := kBa Ad hb
    replace Ac := kBa Ac hb
    replace HB := Am (below_step (pE2 HB.out Af.out Aj.out) hb)
    (try clear hb)
    (try clear hb2)
    (try clear hk)
    (try clear hi)
    refine hK.out _ _ ⟨(blk_cell Ac.out 0).trans rfl, (blk_cell Ac.out 1).trans rfl, (blk_cell Ac.out 2).trans rfl, (blk_cell Ac.out 3).trans rfl, (blk_cell Ac.out 4).trans rfl⟩ (fun hHeld => ?_)
    clear hK K
    refine norm_ (a' := ?_) ?_ ?_
    rotate_left
    ·show Act.put _ (some 28) _ = _
     simp only [Act.put, List.setIfInBounds_toArray, List.set_cons_zero, List.set_cons_succ, i64_w, i32_w]
     rfl
    refine pui 12 29 38 8191 HT_ ?_
    refine pui 13 30 38 16383 HT_ ?_
    refine pui 14 31 38 32767 HT_ ?_
    refine pdi 15 32 38 65535 HT_ ?_
    refine pdi 16 33 38 131071 HT_ ?_
    refine pdi 17 34 38 262143 HT_ ?_
    refine pdi 18 35 38 524287 HT_ ?_
    refine pdi 19 36 38 1048575 HT_ ?_
    refine pdi 20 37 38 2097151 HT_ ?_
    refine pui 21 38 38 4194303 HT_ ?_
    refine pui 22 39 38 8388607 HT_ ?_
    refine pdi 23 40 38 16777215 HT_ ?_
    refine pdi 24 41 38 33554431 HT_ ?_
    refine pdi 25 42 38 67108863 HT_ ?_
    refine pdi 26 43 38 134217727 HT_ ?_
    refine pdi 27 44 38 268435455 HT_ ?_
    refine pdi 28 45 38 536870911 HT_ ?_
    refine pdi 29 46 38 1073741823 HT_ ?_
    refine pdi 30 47 38 2147483647 HT_ ?_
    refine pdi 31 48 38 4294967295 HT_ ?_
    refine pdi 32 49 38 8589934591 HT_ ?_
    refine pdi 33 50 38 17179869183 HT_ ?_
    refine pdi 34 51 38 34359738367 HT_ ?_
    refine pdi 35 52 38 68719476735 HT_ ?_
    refine pdi 36 53 38 137438953471 HT_ ?_
    refine pui 37 54 38 274877906943 HT_ ?_
    refine done_ (done_of HT_.out (by kernel_rfl)) ?_
    try go_wp2
    go_ret
    exact ⟨pX, pE2 HB.out Af.out Aj.out⟩
   subst c20
   have H1 : (if ((rd_T37 l0_1 Aa).f1.f0) ≤ a0_0 then (some false) else (if Aa > 0 then (if 0 ≤ (wrap64 (Aa - 1)) then (if (wrap64 (Aa - 1)) < (l0_1.length : Int) then (if ((rd_T37 l0_1 Aa).f0) ≤ ((rd_T37 l0_1 (wrap64 (Aa - 1))).f0) then (some false) else (garnerref21_May.l0 k1 (wrap64 (Aa + 1)) a0_0 l0_1)) else (none)) else (none)) else (garnerref21_May.l0 k1 (wrap64 (Aa + 1)) a0_0 l0_1))) = some r := by rw [if_pos rfl] at H; exact H
   clear H
   have H := H1
   clear H1
   by_cases c21 : ((rd_T37 l0_1 Aa).f1.f0) ≤ a0_0
   ·rw [if_pos c21] at H
    have c21b0 : decide (((rd_T37 l0_1 Aa).f1.f0) ≤ a0_0) = true := decide_eq_true c21
    clear c21
    obtain rfl := Option.some.inj H
    obtain ⟨_, _⟩ := bc2 Ad.out
    obtain ⟨_, _⟩ := bf2 Ad.out
    have p129 : 0 ≤ (Aa : Int) := of_decide_eq_true pS
    have q129 : Aa < (l0_1.length : Int) := of_decide_eq_true pS
    obtain ⟨Ag, e129, Al, An, Ao, Ap, Aq⟩ := at_T37u Ar.out Aa p129 q129 HB.out
    cases e129
    replace p129 := eq_true p129
    replace q129 := eq_true q129
    try go_wp2_with (first | ((with_reducible refine gate_dst (N := 4) rfl ?_); (try (refine gate_guard (by rfl) ?_; dsimp only)); refine box_event ?hg (N := 4) ?hd (cs := #[.int .i64 0, .int .i64 0, .int .i64 0, .int .i64 0, .int .u32 0]) (t := 37) ?hr ?_; (case hd => rfl); (case hg => rfl); (case hr => first | (go_simp; done) | (go_simp; rfl)); intro Ab hg w23 hbox hb; have Ac := Am (hbox); have Ak := Am ((by rw [hg]; exact (below_size (pE HB.out Af.out)) : w.heap.size ≤ Ab)); replace HB := Am (below_step (pE HB.out Af.out) hb); have Aj := Ak; have Ae := Am ((by rw [hg]; exact Nat.ne_of_lt (kL Ad.out) : Ai ≠ Ab)); have Ah := Am ((by rw [hg]; exact Nat.ne_of_gt (kL Ad.out) : Ab ≠ Ai)); replace Ad := kBa Ad hb; clear hb hbox hg; have hnb24 := Ah.out; have hnc24 := Ae.out; obtain ⟨_, _, _, _, _⟩ := bc5 Ac.out; obtain ⟨_, _, _, _, _⟩ := bf5 Ac.out))
    have n0_ : Aside0 ((((((w23.setCell ⟨Ab, 0, none⟩ (.int .i64 ((rd_T37 l0_1 Aa).f0))).setCell ⟨Ab, 1, none⟩ (.int .i64 ((rd_T37 l0_1 Aa).f1.f0))).setCell ⟨Ab, 2, none⟩ (.int .i64 ((rd_T37 l0_1 Aa).f1.f1))).setCell ⟨Ab, 3, none⟩ (.int .i64 ((rd_T37 l0_1 Aa).f1.f2))).setCell ⟨Ab, 4, none⟩ (.int .u32 ((rd_T37 l0_1 Aa).f1.f3))).heap[Ai]? = some (.cells #[.int .i64 a0_0, .slice (some Ag) l0_1.length c0_1] 35 (0, 0))) := ⟨kX1 Ad.out Ae.out⟩
    have n1_ : Aside0 ((((((w23.setCell ⟨Ab, 0, none⟩ (.int .i64 ((rd_T37 l0_1 Aa).f0))).setCell ⟨Ab, 1, none⟩ (.int .i64 ((rd_T37 l0_1 Aa).f1.f0))).setCell ⟨Ab, 2, none⟩ (.int .i64 ((rd_T37 l0_1 Aa).f1.f1))).setCell ⟨Ab, 3, none⟩ (.int .i64 ((rd_T37 l0_1 Aa).f1.f2))).setCell ⟨Ab, 4, none⟩ (.int .u32 ((rd_T37 l0_1 Aa).f1.f3))).heap[Ab]? = some (.cells #[.int .i64 ((rd_T37 l0_1 Aa).f0), .int .i64 ((rd_T37 l0_1 Aa).f1.f0), .int .i64 ((rd_T37 l0_1 Aa).f1.f1), .int .i64 ((rd_T37 l0_1 Aa).f1.f2), .int .u32 ((rd_T37 l0_1 Aa).f1.f3)] 37 (0, 0))) := ⟨kX0 Ac.out⟩
    have n2_ : Aside0 (Below w.heap.size w (((((w23.setCell ⟨Ab, 0, none⟩ (.int .i64 ((rd_T37 l0_1 Aa).f0))).setCell ⟨Ab, 1, none⟩ (.int .i64 ((rd_T37 l0_1 Aa).f1.f0))).setCell ⟨Ab, 2, none⟩ (.int .i64 ((rd_T37 l0_1 Aa).f1.f1))).setCell ⟨Ab, 3, none⟩ (.int .i64 ((rd_T37 l0_1 Aa).f1.f2))).setCell ⟨Ab, 4, none⟩ (.int .u32 ((rd_T37 l0_1 Aa).f1.f3)))) := ⟨pE2 HB.out Af.out Aj.out⟩
    (try clear Ad)
    (try clear Ac)
    (try clear HB)
    generalize (((((w23.setCell ⟨Ab, 0, none⟩ (.int .i64 ((rd_T37 l0_1 Aa).f0))).setCell ⟨Ab, 1, none⟩ (.int .i64 ((rd_T37 l0_1 Aa).f1.f0))).setCell ⟨Ab, 2, none⟩ (.int .i64 ((rd_T37 l0_1 Aa).f1.f1))).setCell ⟨Ab, 3, none⟩ (.int .i64 ((rd_T37 l0_1 Aa).f1.f2))).setCell ⟨Ab, 4, none⟩ (.int .u32 ((rd_T37 l0_1 Aa).f1.f3))) = w26 at n0_ n1_ n2_ ⊢
    have Ad := n0_
    have Ac := n1_
    have HB := n2_
    clear n0_ n1_ n2_
    replace Ad := kDa Ad
    replace Ac := kDa Ac
    replace HB := bDa HB
    refine start_ (n := 38) (S := fun w' => cG w' Ab 0 (.int .i64 ((rd_T37 l0_1 Aa).f0)) ∧ cG w' Ab 1 (.int .i64 ((rd_T37 l0_1 Aa).f1.f0)) ∧ cG w' Ab 2 (.int .i64 ((rd_T37 l0_1 Aa).f1.f1)) ∧ cG w' Ab 3 (.int .i64 ((rd_T37 l0_1 Aa).f1.f2)) ∧ cG w' Ab 4 (.int .u32 ((rd_T37 l0_1 Aa).f1.f3)) ∧ cG w' Ai 0 (.int .i64 a0_0) ∧ cG w' Ai 1 (.slice (some Ag) l0_1.length c0_1)) (ds := []) #[false, false, false, false, false, false, false, false, false, false, false, false, false, false, false, false, false, false, false, false, false, false, false, false, false, false, false, false, false, false, false, false, false, false, false, false, false, false] (by kernel_rfl) rfl rfl ⟨(blk_cell Ac.out 0).trans rfl, (blk_cell Ac.out 1).trans rfl, (blk_cell Ac.out 2).trans rfl, (blk_cell Ac.out 3).trans rfl, (blk_cell Ac.out 4).trans rfl, (blk_cell Ad.out 0).trans rfl, (blk_cell Ad.out 1).trans rfl⟩ (fun hHeld => ?_); refine with_tabW garnerref21_May.tab5 garnerref21_May.bits5 (fun HT_ HW_ => ?_)
    generalize w26.drew = w27 at Ad Ac HB hHeld ⊢
    refine pui 0 17 38 1 HT_ ?_
    refine tki 1 18 38 3 HT_ HW_ hHeld ?_
    refine pui 2 19 38 7 HT_ ?_
    refine pui 3 20 38 15 HT_ ?_
    refine pui 4 21 38 31 HT_ ?_
    refine tki 5 22 38 63 HT_ HW_ hHeld ?_
    refine pui 6 23 38 127 HT_ ?_
    refine pui 7 24 38 255 HT_ ?_
    refine pui 8 25 38 511 HT_ ?_
    refine pui 9 26 38 1023 HT_ ?_
    refine tki 10 27 38 2047 HT_ HW_ hHeld ?_
    refine onei 11 28 38 4095 HT_ (fun K hK => ?_)
    refine goes_ Try.func6 (by kernel_rfl) rfl #[.agg #[.int .i64 ((rd_T37 l0_1 Aa).f1.f0), .int .i64 ((rd_T37 l0_1 Aa).f1.f1), .int .i64 ((rd_T37 l0_1 Aa).f1.f2), .int .u32 ((rd_T37 l0_1 Aa).f1.f3)]] (by rfl) rfl rfl pL ?_
    with_reducible refine (garnerref04_May.calls ((rd_T37 l0_1 Aa).f1.f0) ((rd_T37 l0_1 Aa).f1.f1) ((rd_T37 l0_1 Aa).f1.f2) ((rd_T37 l0_1 Aa).f1.f3) true _ A19.out).mono ?_
    rintro e w28 ⟨rfl, hb⟩
    refine ⟨_, rfl, ?_⟩
    replace Ad := kBa Ad hb
    replace Ac := kBa Ac hb
    replace HB := Am (below_step (pE2 HB.out Af.out Aj.out) hb)
    (try clear hb)
    (try clear hb2)
    (try clear hk)
    (try clear hi)
    refine hK.out _ _ ⟨(blk_cell Ac.out 0).trans rfl, (blk_cell Ac.out 1).trans rfl, (blk_cell Ac.out 2).trans rfl, (blk_cell Ac.out 3).trans rfl, (blk_cell Ac.out 4).trans rfl, (blk_cell Ad.out 0).trans rfl, (blk_cell Ad.out 1).trans rfl⟩ (fun hHeld => ?_)
    clear hK K
    refine norm_ (a' := ?_) ?_ ?_
    rotate_left
    ·show Act.put _ (some 28) _ = _
     simp only [Act.put, List.setIfInBounds_toArray, List.set_cons_zero, List.set_cons_succ, i64_w, i32_w]
     rfl
    refine pui 12 29 38 8191 HT_ ?_
    refine pui 13 30 38 16383 HT_ ?_
    refine pui 14 31 38 32767 HT_ ?_
    refine pui 15 32 38 65535 HT_ ?_
    refine pui 16 33 38 131071 HT_ ?_
    refine pui 18 35 38 393215 HT_ ?_
    refine tki 17 34 38 524287 HT_ HW_ hHeld ?_
    refine tki 19 36 38 1048575 HT_ HW_ hHeld ?_
    refine pui 20 37 38 2097151 HT_ ?_
    refine pui 21 38 38 4194303 HT_ ?_
    refine pui 22 39 38 8388607 HT_ ?_
    refine pdi 23 40 38 16777215 HT_ ?_
    refine pdi 24 41 38 33554431 HT_ ?_
    refine pdi 25 42 38 67108863 HT_ ?_
    refine pdi 26 43 38 134217727 HT_ ?_
    refine pdi 27 44 38 268435455 HT_ ?_
    refine pdi 28 45 38 536870911 HT_ ?_
    refine pdi 29 46 38 1073741823 HT_ ?_
    refine pdi 30 47 38 2147483647 HT_ ?_
    refine pdi 31 48 38 4294967295 HT_ ?_
    refine pdi 32 49 38 8589934591 HT_ ?_
    refine pdi 33 50 38 17179869183 HT_ ?_
    refine pdi 34 51 38 34359738367 HT_ ?_
    refine pdi 35 52 38 68719476735 HT_ ?_
    refine pdi 36 53 38 137438953471 HT_ ?_
    refine pui 37 54 38 274877906943 HT_ ?_
    refine done_ (done_of HT_.out (by kernel_rfl)) ?_
    try go_wp2
    go_ret
    exact ⟨pX, pE2 HB.out Af.out Aj.out⟩
   rw [if_neg c21] at H
   have c21b0 : decide (((rd_T37 l0_1 Aa).f1.f0) ≤ a0_0) = false := decide_eq_false c21
   clear c21
   by_cases c29 : Aa > 0
   rotate_left
   ·rw [if_neg c29] at H
    have c29b0 : decide (0 < Aa) = false := decide_eq_false c29
    clear c29
    have H' := Am H
    clear H
    obtain ⟨_, _⟩ := bc2 Ad.out
    obtain ⟨_, _⟩ := bf2 Ad.out
    have p129 : 0 ≤ (Aa : Int) := of_decide_eq_true pS
    have q129 : Aa < (l0_1.length : Int) := of_decide_eq_true pS
    obtain ⟨Ag, e129, Al, An, Ao, Ap, Aq⟩ := at_T37u Ar.out Aa p129 q129 HB.out
    cases e129
    replace p129 := eq_true p129
    replace q129 := eq_true q129
    try go_wp2_with (first | ((with_reducible refine gate_dst (N := 4) rfl ?_); (try (refine gate_guard (by rfl) ?_; dsimp only)); refine box_event ?hg (N := 4) ?hd (cs := #[.int .i64 0, .int .i64 0, .int .i64 0, .int .i64 0, .int .u32 0]) (t := 37) ?hr ?_; (case hd => rfl); (case hg => rfl); (case hr => first | (go_simp; done) | (go_simp; rfl)); intro Ab hg w49 hbox hb; have Ac := Am (hbox); have Ak := Am ((by rw [hg]; exact (below_size (pE HB.out Af.out)) : w.heap.size ≤ Ab)); replace HB := Am (below_step (pE HB.out Af.out) hb); have Aj := Ak; have Ae := Am ((by rw [hg]; exact Nat.ne_of_lt (kL Ad.out) : Ai ≠ Ab)); have Ah := Am ((by rw [hg]; exact Nat.ne_of_gt (kL Ad.out) : Ab ≠ Ai)); replace Ad := kBa Ad hb; clear hb hbox hg; have hnb50 := Ah.out; have hnc50 := Ae.out; obtain ⟨_, _, _, _, _⟩ := bc5 Ac.out; obtain ⟨_, _, _, _, _⟩ := bf5 Ac.out))
    have n0_ : Aside0 ((((((w49.setCell ⟨Ab, 0, none⟩ (.int .i64 ((rd_T37 l0_1 Aa).f0))).setCell ⟨Ab, 1, none⟩ (.int .i64 ((rd_T37 l0_1 Aa).f1.f0))).setCell ⟨Ab, 2, none⟩ (.int .i64 ((rd_T37 l0_1 Aa).f1.f1))).setCell ⟨Ab, 3, none⟩ (.int .i64 ((rd_T37 l0_1 Aa).f1.f2))).setCell ⟨Ab, 4, none⟩ (.int .u32 ((rd_T37 l0_1 Aa).f1.f3))).heap[Ai]? = some (.cells #[.int .i64 a0_0, .slice (some Ag) l0_1.length c0_1] 35 (0, 0))) := ⟨kX1 Ad.out Ae.out⟩
    have n1_ : Aside0 ((((((w49.setCell ⟨Ab, 0, none⟩ (.int .i64 ((rd_T37 l0_1 Aa).f0))).setCell ⟨Ab, 1, none⟩ (.int .i64 ((rd_T37 l0_1 Aa).f1.f0))).setCell ⟨Ab, 2, none⟩ (.int .i64 ((rd_T37 l0_1 Aa).f1.f1))).setCell ⟨Ab, 3, none⟩ (.int .i64 ((rd_T37 l0_1 Aa).f1.f2))).setCell ⟨Ab, 4, none⟩ (.int .u32 ((rd_T37 l0_1 Aa).f1.f3))).heap[Ab]? = some (.cells #[.int .i64 ((rd_T37 l0_1 Aa).f0), .int .i64 ((rd_T37 l0_1 Aa).f1.f0), .int .i64 ((rd_T37 l0_1 Aa).f1.f1), .int .i64 ((rd_T37 l0_1 Aa).f1.f2), .int .u32 ((rd_T37 l0_1 Aa).f1.f3)] 37 (0, 0))) := ⟨kX0 Ac.out⟩
    have n2_ : Aside0 (Below w.heap.size w (((((w49.setCell ⟨Ab, 0, none⟩ (.int .i64 ((rd_T37 l0_1 Aa).f0))).setCell ⟨Ab, 1, none⟩ (.int .i64 ((rd_T37 l0_1 Aa).f1.f0))).setCell ⟨Ab, 2, none⟩ (.int .i64 ((rd_T37 l0_1 Aa).f1.f1))).setCell ⟨Ab, 3, none⟩ (.int .i64 ((rd_T37 l0_1 Aa).f1.f2))).setCell ⟨Ab, 4, none⟩ (.int .u32 ((rd_T37 l0_1 Aa).f1.f3)))) := ⟨pE2 HB.out Af.out Aj.out⟩
    (try clear Ad)
    (try clear Ac)
    (try clear HB)
    generalize (((((w49.setCell ⟨Ab, 0, none⟩ (.int .i64 ((rd_T37 l0_1 Aa).f0))).setCell ⟨Ab, 1, none⟩ (.int .i64 ((rd_T37 l0_1 Aa).f1.f0))).setCell ⟨Ab, 2, none⟩ (.int .i64 ((rd_T37 l0_1 Aa).f1.f1))).setCell ⟨Ab, 3, none⟩ (.int .i64 ((rd_T37 l0_1 Aa).f1.f2))).setCell ⟨Ab, 4, none⟩ (.int .u32 ((rd_T37 l0_1 Aa).f1.f3))) = w52 at n0_ n1_ n2_ ⊢
    have Ad := n0_
    have Ac := n1_
    have HB := n2_
    clear n0_ n1_ n2_
    replace Ad := kDa Ad
    replace Ac := kDa Ac
    replace HB := bDa HB
    refine start_ (n := 38) (S := fun w' => cG w' Ab 0 (.int .i64 ((rd_T37 l0_1 Aa).f0)) ∧ cG w' Ab 1 (.int .i64 ((rd_T37 l0_1 Aa).f1.f0)) ∧ cG w' Ab 2 (.int .i64 ((rd_T37 l0_1 Aa).f1.f1)) ∧ cG w' Ab 3 (.int .i64 ((rd_T37 l0_1 Aa).f1.f2)) ∧ cG w' Ab 4 (.int .u32 ((rd_T37 l0_1 Aa).f1.f3)) ∧ cG w' Ai 0 (.int .i64 a0_0) ∧ cG w' Ai 1 (.slice (some Ag) l0_1.length c0_1)) (ds := []) #[false, false, false, false, false, false, false, false, false, false, false, false, false, false, false, false, false, false, false, false, false, false, false, false, false, false, false, false, false, false, false, false, false, false, false, false, false, false] (by kernel_rfl) rfl rfl ⟨(blk_cell Ac.out 0).trans rfl, (blk_cell Ac.out 1).trans rfl, (blk_cell Ac.out 2).trans rfl, (blk_cell Ac.out 3).trans rfl, (blk_cell Ac.out 4).trans rfl, (blk_cell Ad.out 0).trans rfl, (blk_cell Ad.out 1).trans rfl⟩ (fun hHeld => ?_); refine with_tabW garnerref21_May.tab5 garnerref21_May.bits5 (fun HT_ HW_ => ?_)
    generalize w52.drew = w53 at Ad Ac HB hHeld ⊢
    refine pui 0 17 38 1 HT_ ?_
    refine tki 1 18 38 3 HT_ HW_ hHeld ?_
    refine pui 2 19 38 7 HT_ ?_
    refine pui 3 20 38 15 HT_ ?_
    refine pui 4 21 38 31 HT_ ?_
    refine tki 5 22 38 63 HT_ HW_ hHeld ?_
    refine pui 6 23 38 127 HT_ ?_
    refine pui 7 24 38 255 HT_ ?_
    refine pui 8 25 38 511 HT_ ?_
    refine pui 9 26 38 1023 HT_ ?_
    refine tki 10 27 38 2047 HT_ HW_ hHeld ?_
    refine onei 11 28 38 4095 HT_ (fun K hK => ?_)
    refine goes_ Try.func6 (by kernel_rfl) rfl #[.agg #[.int .i64 ((rd_T37 l0_1 Aa).f1.f0), .int .i64 ((rd_T37 l0_1 Aa).f1.f1), .int .i64 ((rd_T37 l0_1 Aa).f1.f2), .int .u32 ((rd_T37 l0_1 Aa).f1.f3)]] (by rfl) rfl rfl pL ?_
    with_reducible refine (garnerref04_May.calls ((rd_T37 l0_1 Aa).f1.f0) ((rd_T37 l0_1 Aa).f1.f1) ((rd_T37 l0_1 Aa).f1.f2) ((rd_T37 l0_1 Aa).f1.f3) true _ A19.out).mono ?_
    rintro e w54 ⟨rfl, hb⟩
    refine ⟨_, rfl, ?_⟩
    replace Ad := kBa Ad hb
    replace Ac := kBa Ac hb
    replace HB := Am (below_step (pE2 HB.out Af.out Aj.out) hb)
    (try clear hb)
    (try clear hb2)
    (try clear hk)
    (try clear hi)
    refine hK.out _ _ ⟨(blk_cell Ac.out 0).trans rfl, (blk_cell Ac.out 1).trans rfl, (blk_cell Ac.out 2).trans rfl, (blk_cell Ac.out 3).trans rfl, (blk_cell Ac.out 4).trans rfl, (blk_cell Ad.out 0).trans rfl, (blk_cell Ad.out 1).trans rfl⟩ (fun hHeld => ?_)
    clear hK K
    refine norm_ (a' := ?_) ?_ ?_
    rotate_left
    ·show Act.put _ (some 28) _ = _
     simp only [Act.put, List.setIfInBounds_toArray, List.set_cons_zero, List.set_cons_succ, i64_w, i32_w]
     rfl
    refine pui 12 29 38 8191 HT_ ?_
    refine pui 13 30 38 16383 HT_ ?_
    refine pui 14 31 38 32767 HT_ ?_
    refine pui 15 32 38 65535 HT_ ?_
    refine pui 16 33 38 131071 HT_ ?_
    refine pui 18 35 38 393215 HT_ ?_
    refine tki 17 34 38 524287 HT_ HW_ hHeld ?_
    refine tki 19 36 38 1048575 HT_ HW_ hHeld ?_
    refine pui 20 37 38 2097151 HT_ ?_
    refine pui 21 38 38 4194303 HT_ ?_
    refine pui 22 39 38 8388607 HT_ ?_
    refine pui 23 40 38 16777215 HT_ ?_
    refine pui 24 41 38 33554431 HT_ ?_
    refine pui 25 42 38 67108863 HT_ ?_
    refine pdi 26 43 38 134217727 HT_ ?_
    refine pdi 27 44 38 268435455 HT_ ?_
    refine pdi 28 45 38 536870911 HT_ ?_
    refine pdi 29 46 38 1073741823 HT_ ?_
    refine pdi 30 47 38 2147483647 HT_ ?_
    refine pdi 31 48 38 4294967295 HT_ ?_
    refine pdi 32 49 38 8589934591 HT_ ?_
    refine pdi 33 50 38 17179869183 HT_ ?_
    refine pdi 34 51 38 34359738367 HT_ ?_
    refine pdi 35 52 38 68719476735 HT_ ?_
    refine pui 36 53 38 137438953471 HT_ ?_
    refine pui 37 54 38 274877906943 HT_ ?_
    refine done_ (done_of HT_.out (by kernel_rfl)) ?_
    try go_wp2
    go_roundg k1
    case measure => have := HK1.out; omega
    case rel => exact ⟨(wrap64 (Aa + 1)), (by first | rfl | (simp; done) | (simp [*]; done)), H', ⟨by have := HK1.out; omega⟩, ⟨pK Ad.out⟩, ⟨pE2 HB.out Af.out Aj.out⟩⟩
   rw [if_pos c29] at H
   have c29b0 : decide (0 < Aa) = true := decide_eq_true c29
   clear c29
   obtain ⟨ji30, hji30⟩ : ∃ j_ : Int, (wrap64 (Aa - 1)) = j_ := ⟨_, rfl⟩
   replace H : (if 0 ≤ (ji30) then (if (ji30) < (l0_1.length : Int) then (if ((rd_T37 l0_1 Aa).f0) ≤ ((rd_T37 l0_1 (ji30)).f0) then (some false) else (garnerref21_May.l0 k1 (wrap64 (Aa + 1)) a0_0 l0_1)) else (none)) else (none)) = some r := by first | (rw [hji30] at H; exact H) | (simp only [hji30] at H ⊢; exact H)
   (try rw [hji30] at A19)
   have hji30w : (IntKind.i64.wrap (Aa - 1)) = ji30 := (i64_w _).trans hji30
   by_cases c31 : 0 ≤ (ji30)
   rotate_left
   ·rw [if_neg c31] at H
    exact absurd H (by simp)
   rw [if_pos c31] at H
   have c31b0 : decide (0 ≤ (ji30)) = true := decide_eq_true c31
   clear c31
   by_cases c32 : (ji30) < (l0_1.length : Int)
   rotate_left
   ·rw [if_neg c32] at H
    exact absurd H (by simp)
   rw [if_pos c32] at H
   have c32b0 : decide ((ji30) < (l0_1.length : Int)) = true := decide_eq_true c32
   clear c32
   by_cases c33 : ((rd_T37 l0_1 Aa).f0) ≤ ((rd_T37 l0_1 (ji30)).f0)
   ·rw [if_pos c33] at H
    have c33b0 : decide (((rd_T37 l0_1 Aa).f0) ≤ ((rd_T37 l0_1 (ji30)).f0)) = true := decide_eq_true c33
    clear c33
    obtain rfl := Option.some.inj H
    obtain ⟨_, _⟩ := bc2 Ad.out
    obtain ⟨_, _⟩ := bf2 Ad.out
    have p129 : 0 ≤ (Aa : Int) := of_decide_eq_true pS
    have q129 : Aa < (l0_1.length : Int) := of_decide_eq_true pS
    obtain ⟨Ag, e129, Al, An, Ao, Ap, Aq⟩ := at_T37u Ar.out Aa p129 q129 HB.out
    cases e129
    replace p129 := eq_true p129
    replace q129 := eq_true q129
    try go_wp2_with (first | ((with_reducible refine gate_dst (N := 4) rfl ?_); (try (refine gate_guard (by rfl) ?_; dsimp only)); refine box_event ?hg (N := 4) ?hd (cs := #[.int .i64 0, .int .i64 0, .int .i64 0, .int .i64 0, .int .u32 0]) (t := 37) ?hr ?_; (case hd => rfl); (case hg => rfl); (case hr => first | (go_simp; done) | (go_simp; rfl)); intro Ab hg w35 hbox hb; have Ac := Am (hbox); have Ak := Am ((by rw [hg]; exact (below_size (pE HB.out Af.out)) : w.heap.size ≤ Ab)); replace HB := Am (below_step (pE HB.out Af.out) hb); have Aj := Ak; have Ae := Am ((by rw [hg]; exact Nat.ne_of_lt (kL Ad.out) : Ai ≠ Ab)); have Ah := Am ((by rw [hg]; exact Nat.ne_of_gt (kL Ad.out) : Ab ≠ Ai)); replace Ad := kBa Ad hb; clear hb hbox hg; have hnb36 := Ah.out; have hnc36 := Ae.out; obtain ⟨_, _, _, _, _⟩ := bc5 Ac.out; obtain ⟨_, _, _, _, _⟩ := bf5 Ac.out))
    have n0_ : Aside0 ((((((w35.setCell ⟨Ab, 0, none⟩ (.int .i64 ((rd_T37 l0_1 Aa).f0))).setCell ⟨Ab, 1, none⟩ (.int .i64 ((rd_T37 l0_1 Aa).f1.f0))).setCell ⟨Ab, 2, none⟩ (.int .i64 ((rd_T37 l0_1 Aa).f1.f1))).setCell ⟨Ab, 3, none⟩ (.int .i64 ((rd_T37 l0_1 Aa).f1.f2))).setCell ⟨Ab, 4, none⟩ (.int .u32 ((rd_T37 l0_1 Aa).f1.f3))).heap[Ai]? = some (.cells #[.int .i64 a0_0, .slice (some Ag) l0_1.length c0_1] 35 (0, 0))) := ⟨kX1 Ad.out Ae.out⟩
    have n1_ : Aside0 ((((((w35.setCell ⟨Ab, 0, none⟩ (.int .i64 ((rd_T37 l0_1 Aa).f0))).setCell ⟨Ab, 1, none⟩ (.int .i64 ((rd_T37 l0_1 Aa).f1.f0))).setCell ⟨Ab, 2, none⟩ (.int .i64 ((rd_T37 l0_1 Aa).f1.f1))).setCell ⟨Ab, 3, none⟩ (.int .i64 ((rd_T37 l0_1 Aa).f1.f2))).setCell ⟨Ab, 4, none⟩ (.int .u32 ((rd_T37 l0_1 Aa).f1.f3))).heap[Ab]? = some (.cells #[.int .i64 ((rd_T37 l0_1 Aa).f0), .int .i64 ((rd_T37 l0_1 Aa).f1.f0), .int .i64 ((rd_T37 l0_1 Aa).f1.f1), .int .i64 ((rd_T37 l0_1 Aa).f1.f2), .int .u32 ((rd_T37 l0_1 Aa).f1.f3)] 37 (0, 0))) := ⟨kX0 Ac.out⟩
    have n2_ : Aside0 (Below w.heap.size w (((((w35.setCell ⟨Ab, 0, none⟩ (.int .i64 ((rd_T37 l0_1 Aa).f0))).setCell ⟨Ab, 1, none⟩ (.int .i64 ((rd_T37 l0_1 Aa).f1.f0))).setCell ⟨Ab, 2, none⟩ (.int .i64 ((rd_T37 l0_1 Aa).f1.f1))).setCell ⟨Ab, 3, none⟩ (.int .i64 ((rd_T37 l0_1 Aa).f1.f2))).setCell ⟨Ab, 4, none⟩ (.int .u32 ((rd_T37 l0_1 Aa).f1.f3)))) := ⟨pE2 HB.out Af.out Aj.out⟩
    (try clear Ad)
    (try clear Ac)
    (try clear HB)
    generalize (((((w35.setCell ⟨Ab, 0, none⟩ (.int .i64 ((rd_T37 l0_1 Aa).f0))).setCell ⟨Ab, 1, none⟩ (.int .i64 ((rd_T37 l0_1 Aa).f1.f0))).setCell ⟨Ab, 2, none⟩ (.int .i64 ((rd_T37 l0_1 Aa).f1.f1))).setCell ⟨Ab, 3, none⟩ (.int .i64 ((rd_T37 l0_1 Aa).f1.f2))).setCell ⟨Ab, 4, none⟩ (.int .u32 ((rd_T37 l0_1 Aa).f1.f3))) = w38 at n0_ n1_ n2_ ⊢
    have Ad := n0_
    have Ac := n1_
    have HB := n2_
    clear n0_ n1_ n2_
    replace Ad := kDa Ad
    replace Ac := kDa Ac
    replace HB := bDa HB
    have p132 : 0 ≤ ((ji30) : Int) := of_decide_eq_true pS
    have q132 : (ji30) < (l0_1.length : Int) := of_decide_eq_true pS
    obtain ⟨A2, e132, Ax, Ay, Az, A0, A1, As, At, Au, Av, Aw⟩ := at_T37w Ar.out (ji30) p132 q132 HB.out
    obtain rfl : Ag = A2 := (by injection e132)
    replace p132 := eq_true p132
    replace q132 := eq_true q132
    refine start_ (n := 38) (S := fun w' => cG w' Ab 0 (.int .i64 ((rd_T37 l0_1 Aa).f0)) ∧ cG w' Ab 1 (.int .i64 ((rd_T37 l0_1 Aa).f1.f0)) ∧ cG w' Ab 2 (.int .i64 ((rd_T37 l0_1 Aa).f1.f1)) ∧ cG w' Ab 3 (.int .i64 ((rd_T37 l0_1 Aa).f1.f2)) ∧ cG w' Ab 4 (.int .u32 ((rd_T37 l0_1 Aa).f1.f3)) ∧ cG w' Ai 0 (.int .i64 a0_0) ∧ cG w' Ai 1 (.slice (some Ag) l0_1.length c0_1) ∧ w'.cell? (Ag.add (((ji30)).toNat * 5)) = some (.int .i64 ((rd_T37 l0_1 (ji30)).f0)) ∧ w'.cell? ⟨(Ag.add (((ji30)).toNat * 5)).block, (Ag.add (((ji30)).toNat * 5)).off + 1, none⟩ = some (.int .i64 ((rd_T37 l0_1 (ji30)).f1.f0)) ∧ w'.cell? ⟨(Ag.add (((ji30)).toNat * 5)).block, (Ag.add (((ji30)).toNat * 5)).off + 2, none⟩ = some (.int .i64 ((rd_T37 l0_1 (ji30)).f1.f1)) ∧ w'.cell? ⟨(Ag.add (((ji30)).toNat * 5)).block, (Ag.add (((ji30)).toNat * 5)).off + 3, none⟩ = some (.int .i64 ((rd_T37 l0_1 (ji30)).f1.f2)) ∧ w'.cell? ⟨(Ag.add (((ji30)).toNat * 5)).block, (Ag.add (((ji30)).toNat * 5)).off + 4, none⟩ = some (.int .u32 ((rd_T37 l0_1 (ji30)).f1.f3))) (ds := []) #[false, false, false, false, false, false, false, false, false, false, false, false, false, false, false, false, false, false, false, false, false, false, false, false, false, false, false, false, false, false, false, false, false, false, false, false, false, false] (by kernel_rfl) rfl rfl ⟨(blk_cell Ac.out 0).trans rfl, (blk_cell Ac.out 1).trans rfl, (blk_cell Ac.out 2).trans rfl, (blk_cell Ac.out 3).trans rfl, (blk_cell Ac.out 4).trans rfl, (blk_cell Ad.out 0).trans rfl, (blk_cell Ad.out 1).trans rfl, (cT HB.out As), (cT HB.out At), (cT HB.out Au), (cT HB.out Av), (cT HB.out Aw)⟩ (fun hHeld => ?_); refine with_tabW garnerref21_May.tab5 garnerref21_May.bits5 (fun HT_ HW_ => ?_)
    generalize w38.drew = w39 at Ad Ac HB Ax Ay Az A0 A1 hHeld ⊢
    refine pui 0 17 38 1 HT_ ?_
    refine tki 1 18 38 3 HT_ HW_ hHeld ?_
    refine pui 2 19 38 7 HT_ ?_
    refine pui 3 20 38 15 HT_ ?_
    refine pui 4 21 38 31 HT_ ?_
    refine tki 5 22 38 63 HT_ HW_ hHeld ?_
    refine pui 6 23 38 127 HT_ ?_
    refine pui 7 24 38 255 HT_ ?_
    refine pui 8 25 38 511 HT_ ?_
    refine pui 9 26 38 1023 HT_ ?_
    refine tki 10 27 38 2047 HT_ HW_ hHeld ?_
    refine onei 11 28 38 4095 HT_ (fun K hK => ?_)
    refine goes_ Try.func6 (by kernel_rfl) rfl #[.agg #[.int .i64 ((rd_T37 l0_1 Aa).f1.f0), .int .i64 ((rd_T37 l0_1 Aa).f1.f1), .int .i64 ((rd_T37 l0_1 Aa).f1.f2), .int .u32 ((rd_T37 l0_1 Aa).f1.f3)]] (by rfl) rfl rfl pL ?_
    with_reducible refine (garnerref04_May.calls ((rd_T37 l0_1 Aa).f1.f0) ((rd_T37 l0_1 Aa).f1.f1) ((rd_T37 l0_1 Aa).f1.f2) ((rd_T37 l0_1 Aa).f1.f3) true _ A19.out).mono ?_
    rintro e w40 ⟨rfl, hb⟩
    refine ⟨_, rfl, ?_⟩
    replace Ad := kBa Ad hb
    replace Ac := kBa Ac hb
    replace HB := Am (below_step (pE2 HB.out Af.out Aj.out) hb)
    (try clear hb)
    (try clear hb2)
    (try clear hk)
    (try clear hi)
    refine hK.out _ _ ⟨(blk_cell Ac.out 0).trans rfl, (blk_cell Ac.out 1).trans rfl, (blk_cell Ac.out 2).trans rfl, (blk_cell Ac.out 3).trans rfl, (blk_cell Ac.out 4).trans rfl, (blk_cell Ad.out 0).trans rfl, (blk_cell Ad.out 1).trans rfl, (cT HB.out As), (cT HB.out At), (cT HB.out Au), (cT HB.out Av), (cT HB.out Aw)⟩ (fun hHeld => ?_)
    clear hK K
    refine norm_ (a' := ?_) ?_ ?_
    rotate_left
    ·show Act.put _ (some 28) _ = _
     simp only [Act.put, List.setIfInBounds_toArray, List.set_cons_zero, List.set_cons_succ, i64_w, i32_w]
     rfl
    refine pui 12 29 38 8191 HT_ ?_
    refine pui 13 30 38 16383 HT_ ?_
    refine pui 14 31 38 32767 HT_ ?_
    refine pui 15 32 38 65535 HT_ ?_
    refine pui 16 33 38 131071 HT_ ?_
    refine pui 18 35 38 393215 HT_ ?_
    refine tki 17 34 38 524287 HT_ HW_ hHeld ?_
    refine tki 19 36 38 1048575 HT_ HW_ hHeld ?_
    refine pui 20 37 38 2097151 HT_ ?_
    refine pui 21 38 38 4194303 HT_ ?_
    refine pui 22 39 38 8388607 HT_ ?_
    refine pui 23 40 38 16777215 HT_ ?_
    refine pui 24 41 38 33554431 HT_ ?_
    refine pui 25 42 38 67108863 HT_ ?_
    refine pui 26 43 38 134217727 HT_ ?_
    refine pui 28 45 38 402653183 HT_ ?_
    refine pui 30 47 38 1476395007 HT_ ?_
    refine pui 31 48 38 3623878655 HT_ ?_
    refine tki 27 44 38 3758096383 HT_ HW_ hHeld ?_
    refine tki 29 46 38 4294967295 HT_ HW_ hHeld ?_
    refine pui 32 49 38 8589934591 HT_ ?_
    refine pui 33 50 38 17179869183 HT_ ?_
    refine tki 34 51 38 34359738367 HT_ HW_ hHeld ?_
    refine pui 35 52 38 68719476735 HT_ ?_
    refine pui 36 53 38 137438953471 HT_ ?_
    refine pui 37 54 38 274877906943 HT_ ?_
    refine done_ (done_of HT_.out (by kernel_rfl)) ?_
    try go_wp2
    go_ret
    exact ⟨by first | rfl | (simp [errW_none, errW_some] <;> rfl) | (simp only [← hji30]; first | rfl | (simp [errW_none, errW_some] <;> rfl)) | (simp [*, errW_none, errW_some] <;> rfl), pE2 HB.out Af.out Aj.out⟩
   rw [if_neg c33] at H
   have c33b0 : decide (((rd_T37 l0_1 Aa).f0) ≤ ((rd_T37 l0_1 (ji30)).f0)) = false := decide_eq_false c33
   clear c33
   have H' := Am H
   clear H
   obtain ⟨_, _⟩ := bc2 Ad.out
   obtain ⟨_, _⟩ := bf2 Ad.out
   have p129 : 0 ≤ (Aa : Int) := of_decide_eq_true pS
   have q129 : Aa < (l0_1.length : Int) := of_decide_eq_true pS
   obtain ⟨Ag, e129, Al, An, Ao, Ap, Aq⟩ := at_T37u Ar.out Aa p129 q129 HB.out
   cases e129
   replace p129 := eq_true p129
   replace q129 := eq_true q129
   try go_wp2_with (first | ((with_reducible refine gate_dst (N := 4) rfl ?_); (try (refine gate_guard (by rfl) ?_; dsimp only)); refine box_event ?hg (N := 4) ?hd (cs := #[.int .i64 0, .int .i64 0, .int .i64 0, .int .i64 0, .int .u32 0]) (t := 37) ?hr ?_; (case hd => rfl); (case hg => rfl); (case hr => first | (go_simp; done) | (go_simp; rfl)); intro Ab hg w42 hbox hb; have Ac := Am (hbox); have Ak := Am ((by rw [hg]; exact (below_size (pE HB.out Af.out)) : w.heap.size ≤ Ab)); replace HB := Am (below_step (pE HB.out Af.out) hb); have Aj := Ak; have Ae := Am ((by rw [hg]; exact Nat.ne_of_lt (kL Ad.out) : Ai ≠ Ab)); have Ah := Am ((by rw [hg]; exact Nat.ne_of_gt (kL Ad.out) : Ab ≠ Ai)); replace Ad := kBa Ad hb; clear hb hbox hg; have hnb43 := Ah.out; have hnc43 := Ae.out; obtain ⟨_, _, _, _, _⟩ := bc5 Ac.out; obtain ⟨_, _, _, _, _⟩ := bf5 Ac.out))
   have n0_ : Aside0 ((((((w42.setCell ⟨Ab, 0, none⟩ (.int .i64 ((rd_T37 l0_1 Aa).f0))).setCell ⟨Ab, 1, none⟩ (.int .i64 ((rd_T37 l0_1 Aa).f1.f0))).setCell ⟨Ab, 2, none⟩ (.int .i64 ((rd_T37 l0_1 Aa).f1.f1))).setCell ⟨Ab, 3, none⟩ (.int .i64 ((rd_T37 l0_1 Aa).f1.f2))).setCell ⟨Ab, 4, none⟩ (.int .u32 ((rd_T37 l0_1 Aa).f1.f3))).heap[Ai]? = some (.cells #[.int .i64 a0_0, .slice (some Ag) l0_1.length c0_1] 35 (0, 0))) := ⟨kX1 Ad.out Ae.out⟩
   have n1_ : Aside0 ((((((w42.setCell ⟨Ab, 0, none⟩ (.int .i64 ((rd_T37 l0_1 Aa).f0))).setCell ⟨Ab, 1, none⟩ (.int .i64 ((rd_T37 l0_1 Aa).f1.f0))).setCell ⟨Ab, 2, none⟩ (.int .i64 ((rd_T37 l0_1 Aa).f1.f1))).setCell ⟨Ab, 3, none⟩ (.int .i64 ((rd_T37 l0_1 Aa).f1.f2))).setCell ⟨Ab, 4, none⟩ (.int .u32 ((rd_T37 l0_1 Aa).f1.f3))).heap[Ab]? = some (.cells #[.int .i64 ((rd_T37 l0_1 Aa).f0), .int .i64 ((rd_T37 l0_1 Aa).f1.f0), .int .i64 ((rd_T37 l0_1 Aa).f1.f1), .int .i64 ((rd_T37 l0_1 Aa).f1.f2), .int .u32 ((rd_T37 l0_1 Aa).f1.f3)] 37 (0, 0))) := ⟨kX0 Ac.out⟩
   have n2_ : Aside0 (Below w.heap.size w (((((w42.setCell ⟨Ab, 0, none⟩ (.int .i64 ((rd_T37 l0_1 Aa).f0))).setCell ⟨Ab, 1, none⟩ (.int .i64 ((rd_T37 l0_1 Aa).f1.f0))).setCell ⟨Ab, 2, none⟩ (.int .i64 ((rd_T37 l0_1 Aa).f1.f1))).setCell ⟨Ab, 3, none⟩ (.int .i64 ((rd_T37 l0_1 Aa).f1.f2))).setCell ⟨Ab, 4, none⟩ (.int .u32 ((rd_T37 l0_1 Aa).f1.f3)))) := ⟨pE2 HB.out Af.out Aj.out⟩
   (try clear Ad)
   (try clear Ac)
   (try clear HB)
   generalize (((((w42.setCell ⟨Ab, 0, none⟩ (.int .i64 ((rd_T37 l0_1 Aa).f0))).setCell ⟨Ab, 1, none⟩ (.int .i64 ((rd_T37 l0_1 Aa).f1.f0))).setCell ⟨Ab, 2, none⟩ (.int .i64 ((rd_T37 l0_1 Aa).f1.f1))).setCell ⟨Ab, 3, none⟩ (.int .i64 ((rd_T37 l0_1 Aa).f1.f2))).setCell ⟨Ab, 4, none⟩ (.int .u32 ((rd_T37 l0_1 Aa).f1.f3))) = w45 at n0_ n1_ n2_ ⊢
   have Ad := n0_
   have Ac := n1_
   have HB := n2_
   clear n0_ n1_ n2_
   replace Ad := kDa Ad
   replace Ac := kDa Ac
   replace HB := bDa HB
   have p132 : 0 ≤ ((ji30) : Int) := of_decide_eq_true pS
   have q132 : (ji30) < (l0_1.length : Int) := of_decide_eq_true pS
   obtain ⟨A2, e132, Ax, Ay, Az, A0, A1, As, At, Au, Av, Aw⟩ := at_T37w Ar.out (ji30) p132 q132 HB.out
   obtain rfl : Ag = A2 := (by injection e132)
   replace p132 := eq_true p132
   replace q132 := eq_true q132
   refine start_ (n := 38) (S := fun w' => cG w' Ab 0 (.int .i64 ((rd_T37 l0_1 Aa).f0)) ∧ cG w' Ab 1 (.int .i64 ((rd_T37 l0_1 Aa).f1.f0)) ∧ cG w' Ab 2 (.int .i64 ((rd_T37 l0_1 Aa).f1.f1)) ∧ cG w' Ab 3 (.int .i64 ((rd_T37 l0_1 Aa).f1.f2)) ∧ cG w' Ab 4 (.int .u32 ((rd_T37 l0_1 Aa).f1.f3)) ∧ cG w' Ai 0 (.int .i64 a0_0) ∧ cG w' Ai 1 (.slice (some Ag) l0_1.length c0_1) ∧ w'.cell? (Ag.add (((ji30)).toNat * 5)) = some (.int .i64 ((rd_T37 l0_1 (ji30)).f0)) ∧ w'.cell? ⟨(Ag.add (((ji30)).toNat * 5)).block, (Ag.add (((ji30)).toNat * 5)).off + 1, none⟩ = some (.int .i64 ((rd_T37 l0_1 (ji30)).f1.f0)) ∧ w'.cell? ⟨(Ag.add (((ji30)).toNat * 5)).block, (Ag.add (((ji30)).toNat * 5)).off + 2, none⟩ = some (.int .i64 ((rd_T37 l0_1 (ji30)).f1.f1)) ∧ w'.cell? ⟨(Ag.add (((ji30)).toNat * 5)).block, (Ag.add (((ji30)).toNat * 5)).off + 3, none⟩ = some (.int .i64 ((rd_T37 l0_1 (ji30)).f1.f2)) ∧ w'.cell? ⟨(Ag.add (((ji30)).toNat * 5)).block, (Ag.add (((ji30)).toNat * 5)).off + 4, none⟩ = some (.int .u32 ((rd_T37 l0_1 (ji30)).f1.f3))) (ds := []) #[false, false, false, false, false, false, false, false, false, false, false, false, false, false, false, false, false, false, false, false, false, false, false, false, false, false, false, false, false, false, false, false, false, false, false, false, false, false] (by kernel_rfl) rfl rfl ⟨(blk_cell Ac.out 0).trans rfl, (blk_cell Ac.out 1).trans rfl, (blk_cell Ac.out 2).trans rfl, (blk_cell Ac.out 3).trans rfl, (blk_cell Ac.out 4).trans rfl, (blk_cell Ad.out 0).trans rfl, (blk_cell Ad.out 1).trans rfl, (cT HB.out As), (cT HB.out At), (cT HB.out Au), (cT HB.out Av), (cT HB.out Aw)⟩ (fun hHeld => ?_); refine with_tabW garnerref21_May.tab5 garnerref21_May.bits5 (fun HT_ HW_ => ?_)
   generalize w45.drew = w46 at Ad Ac HB Ax Ay Az A0 A1 hHeld ⊢
   refine pui 0 17 38 1 HT_ ?_
   refine tki 1 18 38 3 HT_ HW_ hHeld ?_
   refine pui 2 19 38 7 HT_ ?_
   refine pui 3 20 38 15 HT_ ?_
   refine pui 4 21 38 31 HT_ ?_
   refine tki 5 22 38 63 HT_ HW_ hHeld ?_
   refine pui 6 23 38 127 HT_ ?_
   refine pui 7 24 38 255 HT_ ?_
   refine pui 8 25 38 511 HT_ ?_
   refine pui 9 26 38 1023 HT_ ?_
   refine tki 10 27 38 2047 HT_ HW_ hHeld ?_
   refine onei 11 28 38 4095 HT_ (fun K hK => ?_)
   refine goes_ Try.func6 (by kernel_rfl) rfl #[.agg #[.int .i64 ((rd_T37 l0_1 Aa).f1.f0), .int .i64 ((rd_T37 l0_1 Aa).f1.f1), .int .i64 ((rd_T37 l0_1 Aa).f1.f2), .int .u32 ((rd_T37 l0_1 Aa).f1.f3)]] (by rfl) rfl rfl pL ?_
   with_reducible refine (garnerref04_May.calls ((rd_T37 l0_1 Aa).f1.f0) ((rd_T37 l0_1 Aa).f1.f1) ((rd_T37 l0_1 Aa).f1.f2) ((rd_T37 l0_1 Aa).f1.f3) true _ A19.out).mono ?_
   rintro e w47 ⟨rfl, hb⟩
   refine ⟨_, rfl, ?_⟩
   replace Ad := kBa Ad hb
   replace Ac := kBa Ac hb
   replace HB := Am (below_step (pE2 HB.out Af.out Aj.out) hb)
   (try clear hb)
   (try clear hb2)
   (try clear hk)
   (try clear hi)
   refine hK.out _ _ ⟨(blk_cell Ac.out 0).trans rfl, (blk_cell Ac.out 1).trans rfl, (blk_cell Ac.out 2).trans rfl, (blk_cell Ac.out 3).trans rfl, (blk_cell Ac.out 4).trans rfl, (blk_cell Ad.out 0).trans rfl, (blk_cell Ad.out 1).trans rfl, (cT HB.out As), (cT HB.out At), (cT HB.out Au), (cT HB.out Av), (cT HB.out Aw)⟩ (fun hHeld => ?_)
   clear hK K
   refine norm_ (a' := ?_) ?_ ?_
   rotate_left
   ·show Act.put _ (some 28) _ = _
    simp only [Act.put, List.setIfInBounds_toArray, List.set_cons_zero, List.set_cons_succ, i64_w, i32_w]
    rfl
   refine pui 12 29 38 8191 HT_ ?_
   refine pui 13 30 38 16383 HT_ ?_
   refine pui 14 31 38 32767 HT_ ?_
   refine pui 15 32 38 65535 HT_ ?_
   refine pui 16 33 38 131071 HT_ ?_
   refine pui 18 35 38 393215 HT_ ?_
   refine tki 17 34 38 524287 HT_ HW_ hHeld ?_
   refine tki 19 36 38 1048575 HT_ HW_ hHeld ?_
   refine pui 20 37 38 2097151 HT_ ?_
   refine pui 21 38 38 4194303 HT_ ?_
   refine pui 22 39 38 8388607 HT_ ?_
   refine pui 23 40 38 16777215 HT_ ?_
   refine pui 24 41 38 33554431 HT_ ?_
   refine pui 25 42 38 67108863 HT_ ?_
   refine pui 26 43 38 134217727 HT_ ?_
   refine pui 28 45 38 402653183 HT_ ?_
   refine pui 30 47 38 1476395007 HT_ ?_
   refine pui 31 48 38 3623878655 HT_ ?_
   refine tki 27 44 38 3758096383 HT_ HW_ hHeld ?_
   refine tki 29 46 38 4294967295 HT_ HW_ hHeld ?_
   refine pui 32 49 38 8589934591 HT_ ?_
   refine pui 33 50 38 17179869183 HT_ ?_
   refine tki 34 51 38 34359738367 HT_ HW_ hHeld ?_
   refine pui 35 52 38 68719476735 HT_ ?_
   refine pui 36 53 38 137438953471 HT_ ?_
   refine pui 37 54 38 274877906943 HT_ ?_
   refine done_ (done_of HT_.out (by kernel_rfl)) ?_
   try go_wp2
   go_roundg k1
   case measure => have := HK1.out; omega
   case rel => exact ⟨(wrap64 (Aa + 1)), (by first | rfl | (simp; done) | (simp [*]; done)), H', ⟨by have := HK1.out; omega⟩, ⟨pK Ad.out⟩, ⟨pE2 HB.out Af.out Aj.out⟩⟩
end
section
set_option maxHeartbeats 4000000 in
set_option maxRecDepth 100000 in
theorem awake_walk (w : World) : Calls Try.prog 7 #[] w fun e w' => e = .returned (.bool true) ∧ Below w.heap.size w w' := by
 have hu25 := Try.underlying25
 have hu37 := Try.underlying37
 have HB := Am (Below.refl w.heap.size w)
 have hmay : relay_may.f 3 1 [(⟨2, ⟨3, 9, 0, 0⟩⟩ : S37)] = some true := by decide +kernel
 have hfind : relay_Find.f 3 (gput 1 (relay_ofs [(⟨2, ⟨3, 9, 0, 0⟩⟩ : S37)]) []) ⟨1, 2, 0, 0⟩ = some (⟨3, 9, 0, 0⟩, 1, 0) := by
  simp [relay_Find.f, point_Check.f, relay_ofs, gput, relay_Find.l0, gat, wrap64_l1]
 have HM := Am hmay
 have HF := Am hfind
 clear hmay hfind
 go_enter Try.func7, Try.ntmps7
 go_wp2_with (first
  | (go_at_call 14; refine (relay_New _).mono ?_; rintro e w1 ⟨b, m, rfl, hR, hm, h1⟩; have HR := Am hR; have Hm := Am (Nat.le_trans (below_size HB.out) hm); replace HB := Am (below_step (pB HB.out) h1); clear h1 hR hm)
  | ((with_reducible refine gate_dst (N := 10) rfl ?_); refine Kd.R_lit k37 _ 37 ?hg (N := 10) ?hd (xs := ([(⟨2, ⟨3, 9, 0, 0⟩⟩ : S37)] : List (S37))) (inner := [.int .i64 2, .int .i64 3, .int .i64 9, .int .i64 0, .int .u32 0]) (ok := fun _ => True) (okp := fun _ => True) ?hr ?hp (fun _ hk => hk) trivial (Below.refl _ _) (Nat.le_refl _) (by simp) ?_; (case hd => rfl); (case hg => rfl); (case hr => first | (go_simp; done) | (go_simp; rfl)); (case hp => exact (Reps.c5 (show Kd.M k37 _ _ _ (⟨2, ⟨3, 9, 0, 0⟩⟩ : S37) [.int .i64 2, .int .i64 3, .int .i64 9, .int .i64 0, .int .u32 0] from (k37_mkM _ _ _ (⟨2, ⟨3, 9, 0, 0⟩⟩ : S37))) (Reps.none _ _))); intro v154 w17 ho18 hb hg_ hnew_; clear hg_ hnew_; replace HR := Am (HR.out.below hb); replace HB := Am (below_step (pB HB.out) hb); have Aa := Am ho18; clear hb ho18; obtain ⟨Ai, Aj, Ak⟩ := Kd.R_slice Aa.out; subst Ak)
  | (go_at_call 15; refine (relay_Set _ _ _ _ 1 _ _ [(⟨2, ⟨3, 9, 0, 0⟩⟩ : S37)] 3 true HR.out (Kd.R_reads' Aa.out).2.2 (Kd.R_reads' Aa.out).2.1 HM.out).mono ?_; rintro e w1 ⟨rfl, hR, hT⟩; replace HR := Am hR; replace HB := Am (Below.trans (pB HB.out) (hT.1 w.heap.size (below_size (pB HB.out)) Hm.out)); clear hR hT)
  | (go_at_call 9; refine (relay_Find.calls _ _ _ _ ⟨1, 2, 0, 0⟩ 3 (⟨3, 9, 0, 0⟩, 1, 0) HR.out HF.out).mono ?_; rintro e w1 ⟨rfl, h1⟩; replace HB := Am (below_step (pB HB.out) h1); clear h1))
 go_ret
 exact ⟨rfl, pB HB.out⟩
theorem k25_heap : Kd.Heap k25 := Kd.heap_iso _ (Kd.heap_pair (Kd.heap_int .i64) (Kd.heap_pair (Kd.heap_int .i64) (Kd.heap_pair (Kd.heap_int .i64) (Kd.heap_int .u32))))
theorem k37_heap : Kd.Heap k37 := Kd.heap_iso _ (Kd.heap_pair (Kd.heap_int .i64) k25_heap)
abbrev Mvs := List (Int × List (Int × S25))
/-- One act: the relay's moves and the document's, behind it; none where they would not agree. -/
def play_st (k : Nat) (a : S50) (ms : Mvs) (ws : List S35) : Option (Mvs × List S35) :=
 if a.f0 = true then (garnerref21_Drop.f k ws a.f1.f0).bind fun (x, ok) => if (gat a.f1.f0 ms).isSome = ok then some (gdel a.f1.f0 ms, x) else none
 else (relay_may.f k a.f1.f0 a.f1.f1).bind fun p => (garnerref21_May.f k a.f1.f0 a.f1.f1).bind fun q => if p = q then (if q = true then (garnerref21_Set.f k ws a.f1).bind fun x => some (gput a.f1.f0 (relay_ofs a.f1.f1) ms, x) else some (ms, ws)) else none
def play_l0 (k : Nat) : List S50 → Mvs → List S35 → Option (Mvs × List S35)
 | [], ms, ws => some (ms, ws)
 | a :: r, ms, ws => (play_st k a ms ws).bind fun (ms1, ws1) => play_l0 k r ms1 ws1
def play_f (k : Nat) (l : List S50) : Option (Mvs × List S35) := play_l0 k l [] []
def play_T12 : Bool × List (List Nat × List Nat) := (true,
 [([], []), ([], []), ([1], [1]), ([2], [2]), ([], []), ([4], [4]), ([5], [5]), ([0, 3, 6], [0, 3, 6]), ([7], [7]),
  ([], []), ([9], [9]), ([10, 7], [10]), ([8, 11], [8, 11])])
def play_B12 : List Nat := [0, 0, 2, 6, 0, 16, 48, 127, 255, 0, 512, 1791, 4095]
theorem play_tab12 : rtab .any (opsOf Try.f8 12) = play_T12 := by kernel_rfl
theorem play_bits12 : waitsOk play_T12.2 play_B12 = true := by kernel_rfl
theorem cells3 {w : World} {k : Nat} {v0 v1 v2 : Value} {E : TypeId} (h : w.heap[k]? = some (.cells #[v0, v1, v2] E (0, 0))) :
  w.cell? ⟨k, 0, none⟩ = some v0 ∧ w.cell? ⟨k, 1, none⟩ = some v1 ∧ w.cell? ⟨k, 2, none⟩ = some v2 := by
 refine ⟨?_, ?_, ?_⟩ <;> simp [World.cell?, h]
theorem relay_Drop_t (w : World) (b m : Nat) (ms : Mvs) (seg : Int) (hR : Rl w b m ms) (h : (gat seg ms).isSome = true) :
  Calls Try.prog 10 #[.pointer (some ⟨b, 0, none⟩), .int .i64 seg] w fun e w' => e = .returned (.int .i64 0) ∧ Rl w' b m (gdel seg ms) ∧ Tn w w' m := by
 have h1 := relay_Drop w b m ms seg hR
 rw [h] at h1
 exact h1
theorem relay_Drop_f (w : World) (b m : Nat) (ms : Mvs) (seg : Int) (hR : Rl w b m ms) (h : (gat seg ms).isSome = false) :
  Calls Try.prog 10 #[.pointer (some ⟨b, 0, none⟩), .int .i64 seg] w fun e w' => e = .returned (.int .i64 3) ∧ Rl w' b m (gdel seg ms) ∧ Tn w w' m := by
 have h1 := relay_Drop w b m ms seg hR
 rw [h] at h1
 exact h1
theorem Rl.alloc {w : World} {b m : Nat} {ms : Mvs} (h : Rl w b m ms) (o : Obj) : Rl (w.alloc o) b m ms := h.below ((Below.refl _ _).alloc (Nat.le_refl _) o)
theorem Rl.drew {w : World} {b m : Nat} {ms : Mvs} (h : Rl w b m ms) : Rl w.drew b m ms := h.below (below_drew1 (Below.refl _ _))
theorem Rl.drewN {w : World} {b m : Nat} {ms : Mvs} (h : Rl w b m ms) (n : Nat) : Rl (w.drewN n) b m ms := h.below (pB (Below.refl w.heap.size w))
set_option maxHeartbeats 8000000 in
set_option maxRecDepth 100000 in
theorem play_calls (k : Nat) (A0 : Option Addr) (c0 : Nat) (l0 : List S50) (msF : Mvs) (wsF : List S35) (w : World) (hr0 : Kd.C k50 w A0 l0.length l0) (hc0 : l0.length ≤ c0) (h : play_f k l0 = some (msF, wsF)) :
  Calls Try.prog 8 #[.slice A0 l0.length c0] w fun e w' => ∃ b m v, e = .returned (.tuple #[.pointer (some ⟨b, 0, none⟩), v, .bool true]) ∧ Rl w' b m msF ∧ w.heap.size ≤ m ∧ Kd.V k35 35 w' w.heap.size (fun k_ => k_ ≠ m) v wsF ∧ Below w.heap.size w w' := by
 have hu50 := Try.underlying50
 have hu35 := Try.underlying35
 have hu37 := Try.underlying37
 have HC := Am hr0
 have HCC := Am hc0
 have HH := Am h
 have HB := Am (Below.refl w.heap.size w)
 have hn : l0.length ≤ 9223372036854775807 := Kd.C_max hr0
 clear hr0 hc0 h
 go_enter Try.func8, Try.ntmps8
 go_wp2_with (first
  | (go_at_call 14; refine (relay_New _).mono ?_; rintro e w1 ⟨b, m, rfl, hR, hm, h1⟩; have HR := Am hR; have Hm := Am (Nat.le_trans (below_size HB.out) hm); replace HB := Am (below_step (pB HB.out) h1); clear h1 hR hm)
  | ((with_reducible refine gate_dst (N := 12) rfl ?_); refine Kd.N_lit k35 _ 35 ?hg (N' := 12) ?hd (xs := ([] : List S35)) (inner := []) (ok := fun k_ => k_ ≠ m) (okp := fun k_ => k_ ≠ m) ?hr ?hp (fun _ hk => hk) (fun e => by have := HR.out.m_lt; omega) (Below.refl _ _) (Nat.le_refl _) (by simp) ?_; (case hd => rfl); (case hg => rfl); (case hr => first | (go_simp; done) | (go_simp; rfl)); (case hp => exact (Reps.none _ _)); intro v12 w2 ho hb hg_ hnew_; replace HR := Am (HR.out.below hb); replace HB := Am (below_step (pB HB.out) hb); have V12 := Am (show Kd.V k35 35 w2 w.heap.size (fun k_ => k_ ≠ m) v12 [] from Kd.N_V ho); clear hg_ hnew_ hb ho))
 go_loopw [6, 7] (fun v6 v7 wr => ∃ (i : Nat) (ms : Mvs) (ws : List S35), i ≤ l0.length ∧ v7 = .int .i64 i ∧ Aside0 (play_l0 k (l0.drop i) ms ws = some (msF, wsF)) ∧ Aside0 (Rl wr b m ms) ∧ Aside0 (Kd.V k35 35 wr w.heap.size (fun k_ => k_ ≠ m) v6 ws) ∧ Aside0 (Below w.heap.size w wr)) (fun _ v7 _ => l0.length - (intOf v7).toNat)
 case atStart => exact ⟨0, [], [], Nat.zero_le _, rfl, HH, HR, V12, HB⟩
 case round =>
  clear HH HR V12 HB
  obtain ⟨i, ms, ws, hi, rfl, HH, HR, V6, HB⟩ := hrel
  by_cases hlt : i < l0.length
  ·obtain ⟨ad, A2, c2, e0, h0, h1, h2, hc2, hC2, _, _, _⟩ := at_T50w HC.out (i : Int) (by omega) (by omega) HB.out
   subst e0
   simp only [Int.toNat_natCast] at h0 h1 h2
   have hlt' : ((i : Int) < (l0.length : Int)) := by omega
   have hi0 : (0 : Int) ≤ (i : Int) := by omega
   have hiw : IntKind.i64.wrap ((i : Int) + 1) = ((i + 1 : Nat) : Int) := by
    have h3 := IntWalk.i64_in ((i : Int) + 1) (by omega)
    omega
   have H := HH.out
   rw [List.drop_eq_getElem_cons hlt] at H
   have ea : rd_T50 l0 (i : Int) = l0[i] := by simp [rd_T50, hlt]
   rw [← ea] at H
   obtain ⟨⟨f0, seg, hops⟩, hx⟩ : ∃ x, x = rd_T50 l0 (i : Int) := ⟨_, rfl⟩
   rw [← hx] at H h0 h1 h2 hc2 hC2
   clear ea hx HH
   rw [play_l0] at H
   replace H := Option.bind_eq_some_iff.mp H
   obtain ⟨⟨ms1, ws1⟩, hst, H⟩ := H
   simp only at hst H
   obtain ⟨Aw, cw, rfl⟩ := Kd.V_slice V6.out
   have HC2 := Am hC2
   have HCC2 := Am hc2
   have HN := Am H
   have HW := Am hiw
   have hsz := HB.out.size
   have hmle := Hm.out
   have HML := Am HR.out.m_lt
   have HFo := Am (show Kd.F k37 wr (fun k_ => k_ ≠ m) A2 hops.length hops from Kd.F_mono (Kd.F_below (Kd.C_F k37_heap HC2.out) HB.out) (fun k_ hk => by omega))
   have HLT := Am (show i + 1 ≤ l0.length from hlt)
   clear hC2 hc2 H hiw hlt hi
   cases f0 with
   | true =>
    rw [play_st, if_pos rfl] at hst
    replace hst := Option.bind_eq_some_iff.mp hst
    obtain ⟨⟨x, ok⟩, hD, hst⟩ := hst
    simp only at hD hst
    by_cases hok : (gat seg ms).isSome = ok
    rotate_left
    ·rw [if_neg hok] at hst; cases hst
    rw [if_pos hok] at hst
    simp only [Option.some.injEq, Prod.mk.injEq] at hst
    obtain ⟨rfl, rfl⟩ := hst
    have HD := Am hD
    have HOK := Am hok
    clear hD hok hsz hmle
    cases ok
    focus
     go_wp2_with (first
      | (go_at_call 16; refine (garnerref21_Drop.calls k (fun k_ => k_ ≠ m) Aw cw ws seg x false _ (show Kd.V k35 35 _ _ _ _ _ from Kd.V_alloc V6.out _) HD.out).mono ?_; rintro e w2 ⟨v, rfl, hv, hb⟩; obtain ⟨Ax, cx, rfl⟩ := Kd.V_slice hv; replace HR := Am ((HR.out.alloc _).below hb); have V7 := Am (show Kd.V k35 35 w2 w.heap.size (fun k_ => k_ ≠ m) (.slice Ax x.length cx) x from Kd.V_mono hv (fun k_ hk => hk.elim id (fun h => by have := HML.out; simp at h; omega))); have BK := Am (box_behind hb); obtain ⟨b0, b1, b2⟩ := cells3 BK.out; replace HB := Am (below_step (pB HB.out) hb); clear hv hb)
      | (go_at_call 10; refine (relay_Drop_f _ b m ms seg HR.out HOK.out).mono ?_; rintro e w3 ⟨rfl, hR, hT⟩; replace HR := Am hR; replace V7 := Am (Kd.V_step V7.out (fun k_ hk hlt => hT.2 k_ hlt hk)); replace HB := Am (Below.trans HB.out (hT.1 w.heap.size (below_size HB.out) Hm.out)); clear hR hT))
     go_roundw
     case rel => exact ⟨i + 1, _, x, HLT.out, by first | rfl | (rw [HW.out]) | (rw [← HW.out]; rfl), HN, HR, V7, HB⟩
     case measure => have := HLT.out; simp [intOf]; omega
    focus
     go_wp2_with (first
      | (go_at_call 16; refine (garnerref21_Drop.calls k (fun k_ => k_ ≠ m) Aw cw ws seg x true _ (show Kd.V k35 35 _ _ _ _ _ from Kd.V_alloc V6.out _) HD.out).mono ?_; rintro e w2 ⟨v, rfl, hv, hb⟩; obtain ⟨Ax, cx, rfl⟩ := Kd.V_slice hv; replace HR := Am ((HR.out.alloc _).below hb); have V7 := Am (show Kd.V k35 35 w2 w.heap.size (fun k_ => k_ ≠ m) (.slice Ax x.length cx) x from Kd.V_mono hv (fun k_ hk => hk.elim id (fun h => by have := HML.out; simp at h; omega))); have BK := Am (box_behind hb); obtain ⟨b0, b1, b2⟩ := cells3 BK.out; replace HB := Am (below_step (pB HB.out) hb); clear hv hb)
      | (go_at_call 10; refine (relay_Drop_t _ b m ms seg HR.out HOK.out).mono ?_; rintro e w3 ⟨rfl, hR, hT⟩; replace HR := Am hR; replace V7 := Am (Kd.V_step V7.out (fun k_ hk hlt => hT.2 k_ hlt hk)); replace HB := Am (Below.trans HB.out (hT.1 w.heap.size (below_size HB.out) Hm.out)); clear hR hT))
     go_roundw
     case rel => exact ⟨i + 1, _, x, HLT.out, by first | rfl | (rw [HW.out]) | (rw [← HW.out]; rfl), HN, HR, V7, HB⟩
     case measure => have := HLT.out; simp [intOf]; omega
   | false =>
    rw [play_st, if_neg (by simp)] at hst
    replace hst := Option.bind_eq_some_iff.mp hst
    obtain ⟨p, hP, hst⟩ := hst
    replace hst := Option.bind_eq_some_iff.mp hst
    obtain ⟨q, hQ, hst⟩ := hst
    by_cases hpq : p = q
    rotate_left
    ·rw [if_neg hpq] at hst; cases hst
    rw [if_pos hpq] at hst
    subst hpq
    simp only at hP hQ
    have HP := Am hP
    have HQ := Am hQ
    clear hP hQ
    cases p
    focus
     simp only [Bool.false_eq_true, if_false, if_true] at hst
     simp only [Option.some.injEq, Prod.mk.injEq] at hst
     obtain ⟨rfl, rfl⟩ := hst
     clear hsz hmle
     go_wp2
     have BK := Am (show (wr.alloc (.cells #[.bool false, .int .i64 seg, .slice A2 hops.length c2] 50)).heap[wr.heap.size]? = some (.cells #[.bool false, .int .i64 seg, .slice A2 hops.length c2] 50 (0, 0)) from (MapKept.heap_alloc wr _).1)
     replace HR := Am (HR.out.alloc (.cells #[.bool false, .int .i64 seg, .slice A2 hops.length c2] 50))
     have V7 := Am (Kd.V_alloc V6.out (.cells #[.bool false, .int .i64 seg, .slice A2 hops.length c2] 50))
     have HF2 := Am (Kd.F_alloc HFo.out (.cells #[.bool false, .int .i64 seg, .slice A2 hops.length c2] 50))
     replace HB := Am (show Below w.heap.size w (wr.alloc (.cells #[.bool false, .int .i64 seg, .slice A2 hops.length c2] 50)) from pB HB.out)
     clear h0 h1 h2 V6 HFo
     obtain ⟨B, hB⟩ : ∃ B, B = wr.heap.size := ⟨_, rfl⟩
     rw [← hB] at BK ⊢
     have HBm := Am (show B ≠ m from by have := HML.out; omega)
     clear hB
     refine start_ (n := 13) (S := fun w' => cG w' B 0 (.bool false) ∧ cG w' B 1 (.int .i64 seg) ∧ cG w' B 2 (.slice A2 hops.length c2)) (ds := []) #[false, false, false, false, false, false, false, false, false, false, false, false, false] (by kernel_rfl) rfl rfl (cells3 (kDa BK).out) (fun hHeld => ?_)
     refine with_tabW play_tab12 play_bits12 (fun HT_ HW_ => ?_)
     replace HR := Am HR.out.drew
     replace V7 := dVa V7
     replace HF2 := Am (Kd.F_drew HF2.out)
     replace BK := kDa BK
     replace HB := bDa HB
     generalize (wr.alloc (.cells #[.bool false, .int .i64 seg, .slice A2 hops.length c2] 50)).drew = w2 at HR V7 HF2 BK HB hHeld ⊢
     refine pui 0 44 13 1 HT_ ?_
     refine pui 1 45 13 3 HT_ ?_
     refine pui 2 46 13 7 HT_ ?_
     refine tki 3 47 13 15 HT_ HW_ hHeld ?_
     refine pui 4 48 13 31 HT_ ?_
     refine pui 5 49 13 63 HT_ ?_
     refine tki 6 50 13 127 HT_ HW_ hHeld ?_
     refine pui 9 53 13 639 HT_ ?_
     refine tki 10 54 13 1663 HT_ HW_ hHeld ?_
     refine onei 7 51 13 1791 HT_ (fun K hK => ?_)
     refine goes_ Try.func15 (by kernel_rfl) rfl #[.pointer (some ⟨b, 0, none⟩), .int .i64 seg, .slice A2 hops.length c2] (by rfl) rfl rfl pL ?_
     refine (relay_Set _ b m ms seg A2 c2 hops k false HR.out (Kd.F_now HF2.out) HCC2.out HP.out).mono ?_
     simp only [Bool.false_eq_true, if_false, if_true]
     rintro e w3 ⟨rfl, hR, hT⟩
     refine ⟨_, rfl, ?_⟩
     replace BK := Am ((hT.2 B (blk_lt BK.out) HBm.out).trans BK.out)
     replace V7 := Am (Kd.V_step V7.out (fun k_ hk hlt => hT.2 k_ hlt hk))
     replace HF2 := Am (Kd.F_step HF2.out (fun k_ hk hlt => hT.2 k_ hlt hk))
     replace HB := Am (Below.trans HB.out (hT.1 w.heap.size (below_size HB.out) Hm.out))
     replace HR := Am hR
     clear hR hT
     refine hK.out _ _ (cells3 BK.out) (fun hHeld => ?_)
     clear hK K
     refine norm_ (a' := ?_) ?_ ?_
     rotate_left
     ·show Act.put _ (some 51) _ = _
      simp only [Act.put, List.setIfInBounds_toArray, List.set_cons_zero, List.set_cons_succ, i64_w, i32_w]
      rfl
     refine pui 8 52 13 2047 HT_ ?_
     refine onei 11 55 13 4095 HT_ (fun K hK => ?_)
     refine goes_ Try.func17 (by kernel_rfl) rfl #[.agg #[.int .i64 seg, .slice A2 hops.length c2]] (by rfl) rfl rfl pL ?_
     refine (garnerref21_May.calls k seg A2 c2 hops false _ (Kd.F_now HF2.out) HCC2.out HQ.out).mono ?_
     rintro e w4 ⟨rfl, hb⟩
     refine ⟨_, rfl, ?_⟩
     replace BK := Am ((hb.block B (blk_lt BK.out)).trans BK.out)
     replace V7 := Am (Kd.V_below V7.out hb)
     replace HF2 := Am (Kd.F_below HF2.out hb)
     replace HR := Am (HR.out.below hb)
     replace HB := Am (below_step HB.out hb)
     clear hb
     refine hK.out _ _ (cells3 BK.out) (fun hHeld => ?_)
     clear hK K
     refine norm_ (a' := ?_) ?_ ?_
     rotate_left
     ·show Act.put _ (some 55) _ = _
      simp only [Act.put, List.setIfInBounds_toArray, List.set_cons_zero, List.set_cons_succ, i64_w, i32_w]
      rfl
     refine pui 12 56 13 8191 HT_ ?_
     refine done_ (done_of HT_.out (by kernel_rfl)) ?_
     obtain ⟨b0, b1, b2⟩ := cells3 BK.out
     clear hHeld HT_ HW_
     go_wp2_with (go_at_call 17; refine (garnerref21_May.calls k seg A2 c2 hops false _ (Kd.F_now HF2.out) HCC2.out HQ.out).mono ?_; rintro e w5 ⟨rfl, hb⟩; replace BK := Am ((hb.block B (blk_lt BK.out)).trans BK.out); obtain ⟨d0, d1, d2⟩ := cells3 BK.out; replace V7 := Am (Kd.V_below V7.out hb); replace HF2 := Am (Kd.F_below HF2.out hb); replace HR := Am (HR.out.below hb); replace HML := Am HR.out.m_lt; replace HB := Am (below_step HB.out hb); clear hb)
     go_roundw
     case rel => exact ⟨i + 1, _, _, HLT.out, by first | rfl | (rw [HW.out]) | (rw [← HW.out]; rfl), HN, HR, V7, HB⟩
     case measure => have := HLT.out; simp [intOf]; omega
    focus
     simp only [Bool.false_eq_true, if_false, if_true] at hst
     replace hst := Option.bind_eq_some_iff.mp hst
     obtain ⟨x, hS, hst⟩ := hst
     simp only [Option.some.injEq, Prod.mk.injEq] at hst
     obtain ⟨rfl, rfl⟩ := hst
     have HS := Am hS
     clear hS
     clear hsz hmle
     go_wp2
     have BK := Am (show (wr.alloc (.cells #[.bool false, .int .i64 seg, .slice A2 hops.length c2] 50)).heap[wr.heap.size]? = some (.cells #[.bool false, .int .i64 seg, .slice A2 hops.length c2] 50 (0, 0)) from (MapKept.heap_alloc wr _).1)
     replace HR := Am (HR.out.alloc (.cells #[.bool false, .int .i64 seg, .slice A2 hops.length c2] 50))
     have V7 := Am (Kd.V_alloc V6.out (.cells #[.bool false, .int .i64 seg, .slice A2 hops.length c2] 50))
     have HF2 := Am (Kd.F_alloc HFo.out (.cells #[.bool false, .int .i64 seg, .slice A2 hops.length c2] 50))
     replace HB := Am (show Below w.heap.size w (wr.alloc (.cells #[.bool false, .int .i64 seg, .slice A2 hops.length c2] 50)) from pB HB.out)
     clear h0 h1 h2 V6 HFo
     obtain ⟨B, hB⟩ : ∃ B, B = wr.heap.size := ⟨_, rfl⟩
     rw [← hB] at BK ⊢
     have HBm := Am (show B ≠ m from by have := HML.out; omega)
     clear hB
     refine start_ (n := 13) (S := fun w' => cG w' B 0 (.bool false) ∧ cG w' B 1 (.int .i64 seg) ∧ cG w' B 2 (.slice A2 hops.length c2)) (ds := []) #[false, false, false, false, false, false, false, false, false, false, false, false, false] (by kernel_rfl) rfl rfl (cells3 (kDa BK).out) (fun hHeld => ?_)
     refine with_tabW play_tab12 play_bits12 (fun HT_ HW_ => ?_)
     replace HR := Am HR.out.drew
     replace V7 := dVa V7
     replace HF2 := Am (Kd.F_drew HF2.out)
     replace BK := kDa BK
     replace HB := bDa HB
     generalize (wr.alloc (.cells #[.bool false, .int .i64 seg, .slice A2 hops.length c2] 50)).drew = w2 at HR V7 HF2 BK HB hHeld ⊢
     refine pui 0 44 13 1 HT_ ?_
     refine pui 1 45 13 3 HT_ ?_
     refine pui 2 46 13 7 HT_ ?_
     refine tki 3 47 13 15 HT_ HW_ hHeld ?_
     refine pui 4 48 13 31 HT_ ?_
     refine pui 5 49 13 63 HT_ ?_
     refine tki 6 50 13 127 HT_ HW_ hHeld ?_
     refine pui 9 53 13 639 HT_ ?_
     refine tki 10 54 13 1663 HT_ HW_ hHeld ?_
     refine onei 7 51 13 1791 HT_ (fun K hK => ?_)
     refine goes_ Try.func15 (by kernel_rfl) rfl #[.pointer (some ⟨b, 0, none⟩), .int .i64 seg, .slice A2 hops.length c2] (by rfl) rfl rfl pL ?_
     refine (relay_Set _ b m ms seg A2 c2 hops k true HR.out (Kd.F_now HF2.out) HCC2.out HP.out).mono ?_
     simp only [Bool.false_eq_true, if_false, if_true]
     rintro e w3 ⟨rfl, hR, hT⟩
     refine ⟨_, rfl, ?_⟩
     replace BK := Am ((hT.2 B (blk_lt BK.out) HBm.out).trans BK.out)
     replace V7 := Am (Kd.V_step V7.out (fun k_ hk hlt => hT.2 k_ hlt hk))
     replace HF2 := Am (Kd.F_step HF2.out (fun k_ hk hlt => hT.2 k_ hlt hk))
     replace HB := Am (Below.trans HB.out (hT.1 w.heap.size (below_size HB.out) Hm.out))
     replace HR := Am hR
     clear hR hT
     refine hK.out _ _ (cells3 BK.out) (fun hHeld => ?_)
     clear hK K
     refine norm_ (a' := ?_) ?_ ?_
     rotate_left
     ·show Act.put _ (some 51) _ = _
      simp only [Act.put, List.setIfInBounds_toArray, List.set_cons_zero, List.set_cons_succ, i64_w, i32_w]
      rfl
     refine pui 8 52 13 2047 HT_ ?_
     refine onei 11 55 13 4095 HT_ (fun K hK => ?_)
     refine goes_ Try.func17 (by kernel_rfl) rfl #[.agg #[.int .i64 seg, .slice A2 hops.length c2]] (by rfl) rfl rfl pL ?_
     refine (garnerref21_May.calls k seg A2 c2 hops true _ (Kd.F_now HF2.out) HCC2.out HQ.out).mono ?_
     rintro e w4 ⟨rfl, hb⟩
     refine ⟨_, rfl, ?_⟩
     replace BK := Am ((hb.block B (blk_lt BK.out)).trans BK.out)
     replace V7 := Am (Kd.V_below V7.out hb)
     replace HF2 := Am (Kd.F_below HF2.out hb)
     replace HR := Am (HR.out.below hb)
     replace HB := Am (below_step HB.out hb)
     clear hb
     refine hK.out _ _ (cells3 BK.out) (fun hHeld => ?_)
     clear hK K
     refine norm_ (a' := ?_) ?_ ?_
     rotate_left
     ·show Act.put _ (some 55) _ = _
      simp only [Act.put, List.setIfInBounds_toArray, List.set_cons_zero, List.set_cons_succ, i64_w, i32_w]
      rfl
     refine pui 12 56 13 8191 HT_ ?_
     refine done_ (done_of HT_.out (by kernel_rfl)) ?_
     obtain ⟨b0, b1, b2⟩ := cells3 BK.out
     clear hHeld HT_ HW_
     go_wp2_with (first
      | (go_at_call 17; refine (garnerref21_May.calls k seg A2 c2 hops true _ (Kd.F_now HF2.out) HCC2.out HQ.out).mono ?_; rintro e w5 ⟨rfl, hb⟩; replace BK := Am ((hb.block B (blk_lt BK.out)).trans BK.out); obtain ⟨d0, d1, d2⟩ := cells3 BK.out; replace V7 := Am (Kd.V_below V7.out hb); replace HF2 := Am (Kd.F_below HF2.out hb); replace HR := Am (HR.out.below hb); replace HML := Am HR.out.m_lt; replace HB := Am (below_step HB.out hb); clear hb)
      | (go_at_call 18; refine (garnerref21_Set.calls k (fun k_ => k_ ≠ m) Aw cw ws seg A2 c2 hops x _ (show Kd.V k35 35 _ _ _ _ _ from V7.out) (Kd.V_mk HCC2.out HF2.out) HS.out).mono ?_; rintro e w6 ⟨v, rfl, hv, hb⟩; replace HR := Am (HR.out.below hb); have V8 := Am (show Kd.V k35 35 w6 w.heap.size (fun k_ => k_ ≠ m) v x from Kd.V_mono hv (fun k_ hk => hk.elim id (fun h => by have := HML.out; omega))); replace HB := Am (below_step HB.out hb); clear hv hb))
     go_roundw
     case rel => exact ⟨i + 1, _, x, HLT.out, by first | rfl | (rw [HW.out]) | (rw [← HW.out]; rfl), HN, HR, V8, HB⟩
     case measure => have := HLT.out; simp [intOf]; omega
  ·have hkl : i = l0.length := by omega
   subst hkl
   have H := HH.out
   rw [List.drop_length, play_l0] at H
   simp only [Option.some.injEq, Prod.mk.injEq] at H
   obtain ⟨rfl, rfl⟩ := H
   go_wp2
   go_ret3
   exact ⟨_, _, _, rfl, HR.out, Hm.out, V6.out, HB.out⟩
end
section
/-- Does a hop lead to this segment? -/
def leadsTo (ws : List S35) (seg : Int) : Bool := ws.any fun a => a.f1.any fun h => decide (h.f1.f0 = seg)
def garnerlaw21_RelayDrops.f (k : Nat) (l : List S50) (seg : Int) (p0 p1 p2 p3 : Int) : Option Bool :=
 (garnerlaw21_light.f k l).bind fun lt => if lt = false then some true else
 (garnerref04_May.f p0 p1 p2 p3).bind fun mp => if mp = false then some true else if p0 = seg then some true else
 (play_f k l).bind fun (ms, ws) => if leadsTo ws seg = true then some true else
 (relay_Find.f k ms ⟨p0, p1, p2, p3⟩).bind fun r1 => (relay_Find.f k (gdel seg ms) ⟨p0, p1, p2, p3⟩).bind fun r2 =>
 if r1.1.f0 = r2.1.f0 ∧ r1.1.f1 = r2.1.f1 ∧ r1.1.f2 = r2.1.f2 ∧ r1.1.f3 = r2.1.f3 ∧ r1.2.1 = r2.2.1 ∧ r1.2.2 = r2.2.2 then some true else none
theorem garnerlaw21_RelayDrops.only {k : Nat} {l : List S50} {seg p0 p1 p2 p3 : Int} {r : Bool} (h : garnerlaw21_RelayDrops.f k l seg p0 p1 p2 p3 = some r) : r = true := by
 unfold garnerlaw21_RelayDrops.f at h
 obtain ⟨lt, _, h⟩ := Option.bind_eq_some_iff.mp h
 split at h
 ·exact (Option.some.inj h).symm
 obtain ⟨mp, _, h⟩ := Option.bind_eq_some_iff.mp h
 split at h
 ·exact (Option.some.inj h).symm
 split at h
 ·exact (Option.some.inj h).symm
 obtain ⟨⟨ms, ws⟩, _, h⟩ := Option.bind_eq_some_iff.mp h
 simp only at h
 split at h
 ·exact (Option.some.inj h).symm
 obtain ⟨r1, _, h⟩ := Option.bind_eq_some_iff.mp h
 obtain ⟨r2, _, h⟩ := Option.bind_eq_some_iff.mp h
 split at h
 ·exact (Option.some.inj h).symm
 ·cases h
theorem relay_Drop_any (w : World) (b m : Nat) (ms : Mvs) (seg : Int) (hR : Rl w b m ms) :
  Calls Try.prog 10 #[.pointer (some ⟨b, 0, none⟩), .int .i64 seg] w fun e w' => ∃ x : Int, e = .returned (.int .i64 x) ∧ Rl w' b m (gdel seg ms) ∧ Tn w w' m :=
 (relay_Drop w b m ms seg hR).mono (fun e w' h => ⟨_, h.1, h.2.1, h.2.2⟩)
theorem leadsTo_no {ws : List S35} {seg : Int} (h : ∀ j : Nat, j < ws.length → ∀ i : Nat, i < (rd_T35 ws (j : Int)).f1.length → (rd_T37 (rd_T35 ws (j : Int)).f1 (i : Int)).f1.f0 ≠ seg) : leadsTo ws seg = false := by
 unfold leadsTo
 rw [Bool.eq_false_iff]
 intro hc
 obtain ⟨a, ha, hc⟩ := List.any_eq_true.1 hc
 obtain ⟨x, hx, hc⟩ := List.any_eq_true.1 hc
 obtain ⟨j, hj, rfl⟩ := List.mem_iff_getElem.1 ha
 obtain ⟨i, hi, rfl⟩ := List.mem_iff_getElem.1 hx
 have e1 : rd_T35 ws (j : Int) = ws[j] := by simp [rd_T35, hj]
 have h1 := h j hj i (by rw [e1]; exact hi)
 rw [e1] at h1
 have e2 : rd_T37 (ws[j]).f1 (i : Int) = (ws[j]).f1[i] := by simp [rd_T37, hi]
 rw [e2] at h1
 exact h1 (by simpa using hc)
theorem Rl.ne_cells {w : World} {b m g : Nat} {ms : Mvs} {xs : Array Value} {s : TypeId} (h : Rl w b m ms) (hg : w.heap[g]? = some (.cells xs s (0, 0))) : g ≠ m := by
 obtain ⟨_, _, ⟨es, c, h2, _⟩, _⟩ := h
 rintro rfl
 rw [hg] at h2
 cases h2
theorem box_behindN {w w1 : World} {xs : Array Value} {s : TypeId} {n : Nat} (h : Below ((w.alloc (.cells xs s)).drewN n).heap.size ((w.alloc (.cells xs s)).drewN n) w1) : w1.heap[w.heap.size]? = some (.cells xs s (0, 0)) := by
 have hs : ((w.alloc (.cells xs s)).drewN n).heap.size = w.heap.size + 1 := by show (w.alloc (.cells xs s)).heap.size = _; simp
 exact (h.block _ (by rw [hs]; omega)).trans (MapKept.heap_alloc w _).1
set_option maxHeartbeats 8000000 in
set_option maxRecDepth 100000 in
theorem garnerlaw21_RelayDrops.calls (k : Nat) (A0 : Option Addr) (c0 : Nat) (l0 : List S50) (a1 : Int) (a2_0 : Int) (a2_1 : Int) (a2_2 : Int) (a2_3 : Int) (r : Bool) (w : World) (hr0 : Kd.C k50 w A0 l0.length l0) (hc0 : l0.length ≤ c0) (h : garnerlaw21_RelayDrops.f k l0 a1 a2_0 a2_1 a2_2 a2_3 = some r) :
  Calls Try.prog 3 #[.slice A0 l0.length c0, .int .i64 a1, .agg #[.int .i64 a2_0, .int .i64 a2_1, .int .i64 a2_2, .int .u32 a2_3]] w fun e w' => e = .returned (.bool r) ∧ Below w.heap.size w w' := by
 have hu25 := Try.underlying25
 have hu35 := Try.underlying35
 have hu37 := Try.underlying37
 have HB := Am (Below.refl w.heap.size w)
 have HC := Am hr0
 have HCC := Am hc0
 clear hr0 hc0
 obtain rfl := garnerlaw21_RelayDrops.only h
 replace h := Option.bind_eq_some_iff.mp h
 obtain ⟨lt, hlt, h⟩ := h
 have HLT := Am hlt
 clear hlt
 cases lt
 focus
  rw [if_pos rfl] at h
  clear h
  go_enter Try.func3, Try.ntmps3
  go_wp2_with (first
   | (go_at_call 5; refine (garnerlaw21_light.calls k _ _ l0 false _ (Kd.C_below HC.out (pB HB.out)) HCC.out HLT.out).mono ?_; rintro e w1 ⟨rfl, nd, rfl⟩)
   | (go_at_call 7; refine (awake_walk _).mono ?_; rintro e w2 ⟨rfl, h1⟩; replace HB := Am (below_step (pB HB.out) h1); clear h1))
  go_ret
  exact ⟨rfl, pB HB.out⟩
 rw [if_neg (by simp)] at h
 replace h := Option.bind_eq_some_iff.mp h
 obtain ⟨mp, hmp, h⟩ := h
 have HMP := Am hmp
 clear hmp
 cases mp
 focus
  rw [if_pos rfl] at h
  clear h
  go_enter Try.func3, Try.ntmps3
  go_wp2_with (first
   | (go_at_call 5; refine (garnerlaw21_light.calls k _ _ l0 true _ (Kd.C_below HC.out (pB HB.out)) HCC.out HLT.out).mono ?_; rintro e w1 ⟨rfl, nd, rfl⟩)
   | (go_at_call 6; refine (garnerref04_May.calls a2_0 a2_1 a2_2 a2_3 false _ HMP.out).mono ?_; rintro e w1 ⟨rfl, h1⟩; replace HB := Am (below_step (pB HB.out) h1); clear h1)
   | (go_at_call 7; refine (awake_walk _).mono ?_; rintro e w2 ⟨rfl, h1⟩; replace HB := Am (below_step (pB HB.out) h1); clear h1))
  go_ret
  exact ⟨rfl, pB HB.out⟩
 rw [if_neg (by simp)] at h
 by_cases hseg : a2_0 = a1
 focus
  subst hseg
  rw [if_pos rfl] at h
  clear h
  go_enter Try.func3, Try.ntmps3
  go_wp2_with (first
   | (go_at_call 5; refine (garnerlaw21_light.calls k _ _ l0 true _ (Kd.C_below HC.out (pB HB.out)) HCC.out HLT.out).mono ?_; rintro e w1 ⟨rfl, nd, rfl⟩)
   | (go_at_call 6; refine (garnerref04_May.calls a2_0 a2_1 a2_2 a2_3 true _ HMP.out).mono ?_; rintro e w1 ⟨rfl, h1⟩; have BX := Am (box_behindN h1); obtain ⟨b0, b1, b2, b3, _⟩ := cells4 BX.out; replace HB := Am (below_step (pB HB.out) h1); clear h1)
   | (go_at_call 7; refine (awake_walk _).mono ?_; rintro e w2 ⟨rfl, h1⟩; replace HB := Am (below_step (pB HB.out) h1); clear h1))
  go_ret
  exact ⟨rfl, pB HB.out⟩
 rw [if_neg hseg] at h
 have hsegb : (a2_0 == a1) = false := by simpa using hseg
 replace h := Option.bind_eq_some_iff.mp h
 obtain ⟨⟨ms, ws⟩, hpl, h⟩ := h
 simp only at h
 have HPL := Am hpl
 have HH := Am h
 clear hpl h hseg
 go_enter Try.func3, Try.ntmps3
 go_wp2_with (first
   | (go_at_call 5; refine (garnerlaw21_light.calls k _ _ l0 true _ (Kd.C_below HC.out (pB HB.out)) HCC.out HLT.out).mono ?_; rintro e w1 ⟨rfl, nd, rfl⟩)
   | (go_at_call 6; refine (garnerref04_May.calls a2_0 a2_1 a2_2 a2_3 true _ HMP.out).mono ?_; rintro e w1 ⟨rfl, h1⟩; have BX := Am (box_behindN h1); obtain ⟨b0, b1, b2, b3, _⟩ := cells4 BX.out; replace HB := Am (below_step (pB HB.out) h1); clear h1)
   | (go_at_call 8; refine (play_calls k _ _ l0 ms ws _ (Kd.C_below HC.out (pB HB.out)) HCC.out HPL.out).mono ?_; rintro e w3 ⟨b, m, v, rfl, hR, hm, hV, h1⟩; obtain ⟨Aw, cw, rfl⟩ := Kd.V_slice hV; have HR := Am hR; have HV := Am hV; have HM := Am (Nat.le_trans (below_size (pB HB.out)) hm); replace BX := Am ((h1.block _ (blk_lt (show _ = some _ from BX.out))).trans BX.out); replace HB := Am (below_step (pB HB.out) h1); clear hR hV hm h1))
 obtain ⟨b0, b1, b2, b3, bf⟩ := cells4 BX.out
 have hwn : ws.length ≤ 9223372036854775807 := Kd.C_max (Kd.V_reads' HV.out).2.2
 go_loopw [10] (fun v10 wr => ∃ i : Nat, i ≤ ws.length ∧ v10 = .int .i64 i ∧ Aside0 (∀ j : Nat, j < i → ∀ x : Nat, x < (rd_T35 ws (j : Int)).f1.length → (rd_T37 (rd_T35 ws (j : Int)).f1 (x : Int)).f1.f0 ≠ a1) ∧ wr = w3) (fun v10 _ => ws.length - (intOf v10).toNat)
 case atStart => exact ⟨0, Nat.zero_le _, rfl, ⟨fun j hj => by omega⟩, rfl⟩
 case round =>
  obtain ⟨i, hi, rfl, HNO, rfl⟩ := hrel
  by_cases hlt : i < ws.length
  ·obtain ⟨ad, A2, c2, e0, h0, h1, hc2, hC2⟩ := at_T35 (Kd.V_reads' HV.out).2.2 (i : Int) (by omega) (by omega)
   subst e0
   simp only [Int.toNat_natCast] at h0 h1
   have hlt' : ((i : Int) < (ws.length : Int)) := by omega
   have hi0 : (0 : Int) ≤ (i : Int) := by omega
   have hiw : IntKind.i64.wrap ((i : Int) + 1) = ((i + 1 : Nat) : Int) := by
    have h3 := IntWalk.i64_in ((i : Int) + 1) (by omega)
    omega
   obtain ⟨hops, hx⟩ : ∃ x, x = (rd_T35 ws (i : Int)).f1 := ⟨_, rfl⟩
   rw [← hx] at h1 hc2 hC2
   have HX := Am hx
   have HC2 := Am hC2
   have hhn : hops.length ≤ 9223372036854775807 := Kd.C_max hC2
   have HLT := Am hlt
   have HI := Am hi
   clear hx hC2 h0 hlt hi
   go_wp2
   go_loopw [11] (fun v11 wq => ∃ x : Nat, x ≤ hops.length ∧ v11 = .int .i64 x ∧ Aside0 (∀ y : Nat, y < x → (rd_T37 hops (y : Int)).f1.f0 ≠ a1) ∧ wq = wr) (fun v11 _ => hops.length - (intOf v11).toNat)
   case atStart => exact ⟨0, Nat.zero_le _, rfl, ⟨fun j hj => by omega⟩, rfl⟩
   case round =>
    obtain ⟨x, hx, rfl, HNX, rfl⟩ := hrel
    by_cases hxl : x < hops.length
    ·obtain ⟨ad2, e2, g0, g1, g2, g3, g4⟩ := at_T37 HC2.out (x : Int) (by omega) (by omega)
     subst e2
     simp only [Int.toNat_natCast] at g0 g1
     have hxl' : ((x : Int) < (hops.length : Int)) := by omega
     have hx0 : (0 : Int) ≤ (x : Int) := by omega
     have hxw : IntKind.i64.wrap ((x : Int) + 1) = ((x + 1 : Nat) : Int) := by
      have h3 := IntWalk.i64_in ((x : Int) + 1) (by omega)
      omega
     obtain ⟨y, hy⟩ : ∃ y, y = (rd_T37 hops (x : Int)).f1.f0 := ⟨_, rfl⟩
     rw [← hy] at g1
     have HY := Am hy
     have HXL := Am hxl
     have HXW := Am hxw
     clear hy g0 g2 g3 g4 hxl hx
     by_cases hya : y = a1
     ·have hyb : (y == a1) = true := by simpa using hya
      have HYA := Am hya
      clear hya
      go_wp2_with (go_at_call 7; refine (awake_walk _).mono ?_; rintro e w2 ⟨rfl, h1⟩; replace HB := Am (below_step (pB HB.out) h1); clear h1)
      go_ret
      exact ⟨rfl, pB HB.out⟩
     ·have hyb : (y == a1) = false := by simpa using hya
      have HYA := Am hya
      clear hya hxw
      go_wp2
      go_roundw
      case rel =>
       refine ⟨x + 1, by have := HXL.out; omega, by first | rfl | (rw [HXW.out]) | (rw [← HXW.out]; rfl), ⟨fun j hj => ?_⟩, by first | rfl | trivial⟩
       by_cases hji : j = x
       ·subst hji
        rw [← HY.out]
        exact HYA.out
       ·exact HNX.out j (by omega)
      case measure => have := HXL.out; simp [intOf]; omega
    ·have hxe : x = hops.length := by omega
     subst hxe
     clear hxl hx
     go_wp2
     go_roundw
     case rel =>
      refine ⟨i + 1, by have := HLT.out; omega, by first | rfl | (rw [hiw]) | (rw [← hiw]; rfl), ⟨fun j hj z hz => ?_⟩, by first | rfl | trivial⟩
      by_cases hji : j = i
      ·subst hji
       rw [← HX.out] at hz ⊢
       exact HNX.out z hz
      ·exact HNO.out j (by omega) z hz
     case measure => have := HLT.out; simp [intOf]; omega
  ·have hie : i = ws.length := by omega
   subst hie
   clear hlt hi
   have h := HH.out
   have hno := leadsTo_no HNO.out
   rw [if_neg (by rw [hno]; decide)] at h
   replace h := Option.bind_eq_some_iff.mp h
   obtain ⟨⟨⟨q0, q1, q2, q3⟩, n, e⟩, hf1, h⟩ := h
   replace h := Option.bind_eq_some_iff.mp h
   obtain ⟨⟨⟨r0, r1, r2, r3⟩, n2, e2⟩, hf2, h⟩ := h
   simp only at h
   split at h
   rotate_left
   ·cases h
   rename_i heq
   obtain ⟨rfl, rfl, rfl, rfl, rfl, rfl⟩ := heq
   clear h
   have HF1 := Am hf1
   have HF2 := Am hf2
   clear hf1 hf2 hno
   go_wp2_with (first
    | (go_at_call 9; first
      | (refine (relay_Find.calls _ b m ms ⟨a2_0, a2_1, a2_2, a2_3⟩ k _ HR.out HF1.out).mono ?_; rintro e w4 ⟨rfl, h1⟩; replace HR := Am (HR.out.below h1); replace BX := Am ((h1.block _ (blk_lt BX.out)).trans BX.out); replace HB := Am (below_step (pB HB.out) h1); obtain ⟨b0, b1, b2, b3, bf⟩ := cells4 BX.out; clear h1)
      | (refine (relay_Find.calls _ b m _ ⟨a2_0, a2_1, a2_2, a2_3⟩ k _ HR.out HF2.out).mono ?_; rintro e w6 ⟨rfl, h1⟩; have BZ := Am ((h1.block _ (blk_lt BY.out)).trans BY.out); have BZ2 := Am (fun o => blk_alloc BZ.out o); obtain ⟨d0, d1, d2, d3, df⟩ := cells4 BZ.out; have d0a := fun o => (cells4 (BZ2.out o)).1; have d1a := fun o => (cells4 (BZ2.out o)).2.1; have d2a := fun o => (cells4 (BZ2.out o)).2.2.1; have d3a := fun o => (cells4 (BZ2.out o)).2.2.2.1; replace HB := Am (below_step (pB HB.out) h1); clear h1))
    | (go_at_call 10; have HA := Am (HR.out.alloc (.cells #[.int .i64 q0, .int .i64 q1, .int .i64 q2, .int .u32 q3] 25)); refine (relay_Drop_any _ b m ms a1 HA.out).mono ?_; rintro e w5 ⟨xd, rfl, hR, hT⟩; have BXa := Am (blk_alloc BX.out (.cells #[.int .i64 q0, .int .i64 q1, .int .i64 q2, .int .u32 q3] 25)); have BYa := Am ((MapKept.heap_alloc w4 (.cells #[.int .i64 q0, .int .i64 q1, .int .i64 q2, .int .u32 q3] 25)).1); replace BX := Am ((hT.2 _ (blk_lt BXa.out) (HA.out.ne_cells BXa.out)).trans BXa.out); have BY := Am ((hT.2 _ (blk_lt BYa.out) (HA.out.ne_cells BYa.out)).trans BYa.out); replace HB := Am (Below.trans (pB HB.out) (hT.1 w.heap.size (below_size (pB HB.out)) HM.out)); replace HR := Am hR; clear hR hT; obtain ⟨b0, b1, b2, b3, bf⟩ := cells4 BX.out)
    | (go_at_call 7; refine (awake_walk _).mono ?_; rintro e w2 ⟨rfl, h1⟩; replace HB := Am (below_step (pB HB.out) h1); clear h1))
   go_ret
   exact ⟨rfl, pB HB.out⟩
end
end Go.Proofs.Ytklpoeaoojgljaa.PRelayDrops
