/- What the law reaches, as plain Lean functions, and that the machine's calls answer just that. -/
import Derived.Test.YtjebpaahpehfnaaPRelayPutsx0
import Derived.Test.YtjebpaahpehfnaaPRelayPutsx8
namespace Go.Proofs.Ytjebpaahpehfnaa.PRelayPuts
open Go.RowKit Go.Proofs.YtjebpaahpehfnaaW.PrintWords Go.Proofs.YtjebpaahpehfnaaW.PrintLast Go.Proofs.YtjebpaahpehfnaaW.PrintMore
attribute [local go_sem] max2_int min2_int max_two min_two max_three min_three max_four min_four
set_option linter.unusedVariables false
set_option linter.unusedSimpArgs false
attribute [local go_sem] wrap64_l1 wrap64_l2 wrap64_l3 wrap64_l4 wrap64_l5
def garnerref21_May.l0 : Nat → Int → Int → List (S46) → Option (Bool)
 | 0, _, _, _ => none
 | k + 1, x3, x308000, x308001 => if x3 < (x308001.length : Int) then (if 0 ≤ x3 then (if ((rd_T46 x308001 x3).f0) < 0 then (some false) else (if ((rd_T46 x308001 x3).f0) > 2147483647 then (some false) else ((garnerref04_May.f ((rd_T46 x308001 x3).f1.f0) ((rd_T46 x308001 x3).f1.f1) ((rd_T46 x308001 x3).f1.f2) ((rd_T46 x308001 x3).f1.f3)).bind fun t310 => (if t310 = true then (if ((rd_T46 x308001 x3).f1.f0) ≤ x308000 then (some false) else (if x3 > 0 then (if 0 ≤ (wrap64 (x3 - 1)) then (if (wrap64 (x3 - 1)) < (x308001.length : Int) then (if ((rd_T46 x308001 x3).f0) ≤ ((rd_T46 x308001 (wrap64 (x3 - 1))).f0) then (some false) else (garnerref21_May.l0 k (wrap64 (x3 + 1)) x308000 x308001)) else (none)) else (none)) else (garnerref21_May.l0 k (wrap64 (x3 + 1)) x308000 x308001))) else (some false))))) else (none)) else (if x308000 ≥ 1 then (if x308000 ≤ 2147483647 then (some (decide ((x308001.length : Int) ≤ 16384))) else (some false)) else (some false))
def garnerref21_May.f (k : Nat) (a0_0 : Int) (l0_1 : List (S46)) : Option (Bool) := garnerref21_May.l0 k 0 a0_0 l0_1
theorem garnerref21_May.mono_l : ∀ k, (∀ y0 y1 y2, LeO (garnerref21_May.l0 k y0 y1 y2) (garnerref21_May.l0 (k + 1) y0 y1 y2))
 | 0 => fun _ _ _ r h => by simp [garnerref21_May.l0] at h
 | k + 1 => by
  have ih0 := garnerref21_May.mono_l k
  ·intro y0 y1 y2
   unfold garnerref21_May.l0
   repeat' first
   | (with_reducible exact ih0 _ _ _)
   | (with_reducible exact LeO.refl _)
   | (with_reducible exact LeO.none _)
   | (with_reducible refine LeO.ite ?_ ?_)
   | (with_reducible refine LeO.bind ?_ (fun _ => ?_))
   | exact ih0 _ _ _
   | exact LeO.none _
   | refine LeO.ite ?_ ?_
   | refine LeO.bind ?_ (fun _ => ?_)
theorem garnerref21_May.mono : ∀ a0 a1 k, LeO (garnerref21_May.f k a0 a1) (garnerref21_May.f (k + 1) a0 a1) := by
 intro a0 a1 k
 have ih0 := garnerref21_May.mono_l k
 unfold garnerref21_May.f
 repeat' first
   | (with_reducible exact ih0 _ _ _)
   | (with_reducible exact LeO.refl _)
   | (with_reducible exact LeO.none _)
   | (with_reducible refine LeO.ite ?_ ?_)
   | (with_reducible refine LeO.bind ?_ (fun _ => ?_))
   | exact ih0 _ _ _
   | exact LeO.none _
   | refine LeO.ite ?_ ?_
   | refine LeO.bind ?_ (fun _ => ?_)
def garnerref21_May.T5 : Bool × List (List Nat × List Nat) := (true, [([], []), ([0], [0]), ([1], [1]), ([2], [2]), ([3], [3]), ([4, 3], [3, 4]), ([5, 3], [3, 5]), ([3, 6], [3, 6]), ([7, 3], [7]), ([8], [8]), ([9, 8], [8, 9]), ([10, 8, 8], [8, 10]), ([11, 8], [8, 11]), ([8, 12], [8, 12]), ([13, 11], [13]), ([14], [14]), ([15, 14], [14, 15]), ([16, 14], [14, 16]), ([14], [14]), ([18, 14], [14, 18]), ([17, 19, 14], [14, 17, 19]), ([14, 20], [14, 20]), ([21, 14], [21]), ([22], [22]), ([23, 22], [22, 23]), ([24, 22, 22], [22, 24]), ([25], [25]), ([26, 25], [25, 26]), ([25], [25]), ([28, 25], [25, 28]), ([25], [25]), ([30, 25], [25, 30]), ([29, 31, 25], [25, 29, 31]), ([32, 25], [25, 32]), ([33, 25], [25, 33]), ([27, 34, 25], [25, 27, 34]), ([25, 35, 22], [22, 25, 35]), ([22, 36], [22, 36])])
def garnerref21_May.B5 : List Nat := [0, 1, 3, 7, 15, 31, 63, 127, 255, 511, 1023, 2047, 4095, 8191, 16383, 32767, 65535, 131071, 32767, 294911, 1048575, 2097151, 4194303, 8388607, 16777215, 33554431, 67108863, 134217727, 67108863, 335544319, 67108863, 1140850687, 4093640703, 8388607999, 16978542591, 34359738367, 68719476735, 137438953471]
theorem garnerref21_May.tab5 : rtab .any (opsOf Try.f10 5) = garnerref21_May.T5 := by kernel_rfl
theorem garnerref21_May.bits5 : waitsOk garnerref21_May.T5.2 garnerref21_May.B5 = true := by kernel_rfl
set_option maxHeartbeats 8000000 in
set_option maxRecDepth 100000 in
theorem garnerref21_May.calls (k : Nat) (a0_0 : Int) (A0_1 : Option Addr) (c0_1 : Nat) (l0_1 : List (S46)) (r : Bool) (w : World) (hr0_1 : Kd.C k46 w A0_1 l0_1.length l0_1) (hc0_1 : l0_1.length ≤ c0_1) (h : garnerref21_May.f k a0_0 l0_1 = some r) :
  Calls Try.prog 10 #[.agg #[.int .i64 a0_0, .slice A0_1 l0_1.length c0_1]] w fun e w' => e = .returned (.bool r) ∧ Below w.heap.size w w' := by
 have hu29 := Try.underlying29
 have hu46 := Try.underlying46
 have hu44 := Try.underlying44
 have Ar := Am hr0_1
 have HC0_1 := Am hc0_1
 clear hr0_1 hc0_1
 have HB := Am (Below.refl w.heap.size w)
 have H : (garnerref21_May.l0 k 0 a0_0 l0_1) = some r := h
 clear h
 have H' := Am H
 clear H
 go_enter Try.func10, Try.ntmps10
 go_wp2_with (first | ((with_reducible refine gate_dst (N := 1) rfl ?_); (try (refine gate_guard (by rfl) ?_; dsimp only)); refine box_event ?hg (N := 1) ?hd (cs := #[.int .i64 a0_0, .slice A0_1 l0_1.length c0_1]) (t := 29) ?hr ?_; (case hd => rfl); (case hg => rfl); (case hr => first | (go_simp; done) | (go_simp; rfl)); intro Ai hg w2 hbox hb; have Ad := Am (hbox); have A3 := Am ((by rw [hg]; exact (below_size (pB HB.out)) : w.heap.size ≤ Ai)); replace HB := Am (below_step (pB HB.out) hb); have Af := A3; clear hb hbox hg))
 go_loopg [3] k (fun kq v3 w' => ∃ (Aa : Int), v3 = .int .i64 Aa ∧ Aside0 (garnerref21_May.l0 kq Aa a0_0 l0_1 = some r) ∧ Aside0 (kq ≤ k) ∧ Aside0 (w'.heap[Ai]? = some (.cells #[.int .i64 a0_0, (.slice A0_1 l0_1.length c0_1)] 29 (0, 0))) ∧ Aside0 (Below w.heap.size w w'))
 case atStart => exact ⟨(0), (by first | rfl | (simp; done) | (simp [*]; done)), H', ⟨Nat.le_refl _⟩, ⟨pK Ad.out⟩, ⟨pE HB.out Af.out⟩⟩
 case round =>
  clear H'
  try clear c1
  try clear p2
  obtain ⟨Aa, rfl, HA, HK1, Ad, HB⟩ := hrel
  cases gk with
  | zero => exact absurd HA.out (by simp [garnerref21_May.l0])
  | succ k1 =>
   have H := HA.out
   clear HA
   simp only [garnerref21_May.l0] at H
   by_cases c3 : Aa < (l0_1.length : Int)
   rotate_left
   ·rw [if_neg c3] at H
    have c3b0 : decide (Aa < (l0_1.length : Int)) = false := decide_eq_false c3
    clear c3
    by_cases c62 : a0_0 ≥ 1
    rotate_left
    ·rw [if_neg c62] at H
     have c62b0 : decide (1 ≤ a0_0) = false := decide_eq_false c62
     clear c62
     obtain rfl := Option.some.inj H
     obtain ⟨_, _⟩ := bc2 Ad.out
     obtain ⟨_, _⟩ := bf2 Ad.out
     go_wp2
     go_ret
     exact ⟨pX, pE HB.out Af.out⟩
    rw [if_pos c62] at H
    have c62b0 : decide (1 ≤ a0_0) = true := decide_eq_true c62
    clear c62
    by_cases c63 : a0_0 ≤ 2147483647
    ·rw [if_pos c63] at H
     have c63b0 : decide (a0_0 ≤ 2147483647) = true := decide_eq_true c63
     clear c63
     obtain rfl := Option.some.inj H
     obtain ⟨_, _⟩ := bc2 Ad.out
     obtain ⟨_, _⟩ := bf2 Ad.out
     go_wp2
     go_ret
     exact ⟨pX, pE HB.out Af.out⟩
    rw [if_neg c63] at H
    have c63b0 : decide (a0_0 ≤ 2147483647) = false := decide_eq_false c63
    clear c63
    obtain rfl := Option.some.inj H
    obtain ⟨_, _⟩ := bc2 Ad.out
    obtain ⟨_, _⟩ := bf2 Ad.out
    go_wp2
    go_ret
    exact ⟨pX, pE HB.out Af.out⟩
   rw [if_pos c3] at H
   have c3b0 : decide (Aa < (l0_1.length : Int)) = true := decide_eq_true c3
   clear c3
   by_cases c4 : 0 ≤ Aa
   rotate_left
   ·rw [if_neg c4] at H
    exact absurd H (by simp)
   rw [if_pos c4] at H
   have c4b0 : decide (0 ≤ Aa) = true := decide_eq_true c4
   clear c4
   by_cases c5 : ((rd_T46 l0_1 Aa).f0) < 0
   ·rw [if_pos c5] at H
    have c5b0 : decide (((rd_T46 l0_1 Aa).f0) < 0) = true := decide_eq_true c5
    clear c5
    obtain rfl := Option.some.inj H
    obtain ⟨_, _⟩ := bc2 Ad.out
    obtain ⟨_, _⟩ := bf2 Ad.out
    have p308 : 0 ≤ (Aa : Int) := of_decide_eq_true pS
    have q308 : Aa < (l0_1.length : Int) := of_decide_eq_true pS
    obtain ⟨Ag, e308, Al, An, Ao, Ap, Aq⟩ := at_T46u Ar.out Aa p308 q308 HB.out
    cases e308
    replace p308 := eq_true p308
    replace q308 := eq_true q308
    try go_wp2_with (first | ((with_reducible refine gate_dst (N := 4) rfl ?_); (try (refine gate_guard (by rfl) ?_; dsimp only)); refine box_event ?hg (N := 4) ?hd (cs := #[.int .i64 0, .int .i64 0, .int .i64 0, .int .i64 0, .int .u32 0]) (t := 46) ?hr ?_; (case hd => rfl); (case hg => rfl); (case hr => first | (go_simp; done) | (go_simp; rfl)); intro Ab hg w7 hbox hb; have Ac := Am (hbox); have Ak := Am ((by rw [hg]; exact (below_size (pE HB.out Af.out)) : w.heap.size ≤ Ab)); replace HB := Am (below_step (pE HB.out Af.out) hb); have Aj := Ak; have Ae := Am ((by rw [hg]; exact Nat.ne_of_lt (kL Ad.out) : Ai ≠ Ab)); have Ah := Am ((by rw [hg]; exact Nat.ne_of_gt (kL Ad.out) : Ab ≠ Ai)); replace Ad := kBa Ad hb; clear hb hbox hg; have hnb8 := Ah.out; have hnc8 := Ae.out; obtain ⟨_, _, _, _, _⟩ := bc5 Ac.out; obtain ⟨_, _, _, _, _⟩ := bf5 Ac.out))
    have n0_ : Aside0 ((((((w7.setCell ⟨Ab, 0, none⟩ (.int .i64 ((rd_T46 l0_1 Aa).f0))).setCell ⟨Ab, 1, none⟩ (.int .i64 ((rd_T46 l0_1 Aa).f1.f0))).setCell ⟨Ab, 2, none⟩ (.int .i64 ((rd_T46 l0_1 Aa).f1.f1))).setCell ⟨Ab, 3, none⟩ (.int .i64 ((rd_T46 l0_1 Aa).f1.f2))).setCell ⟨Ab, 4, none⟩ (.int .u32 ((rd_T46 l0_1 Aa).f1.f3))).heap[Ai]? = some (.cells #[.int .i64 a0_0, .slice (some Ag) l0_1.length c0_1] 29 (0, 0))) := ⟨kX1 Ad.out Ae.out⟩
    have n1_ : Aside0 ((((((w7.setCell ⟨Ab, 0, none⟩ (.int .i64 ((rd_T46 l0_1 Aa).f0))).setCell ⟨Ab, 1, none⟩ (.int .i64 ((rd_T46 l0_1 Aa).f1.f0))).setCell ⟨Ab, 2, none⟩ (.int .i64 ((rd_T46 l0_1 Aa).f1.f1))).setCell ⟨Ab, 3, none⟩ (.int .i64 ((rd_T46 l0_1 Aa).f1.f2))).setCell ⟨Ab, 4, none⟩ (.int .u32 ((rd_T46 l0_1 Aa).f1.f3))).heap[Ab]? = some (.cells #[.int .i64 ((rd_T46 l0_1 Aa).f0), .int .i64 ((rd_T46 l0_1 Aa).f1.f0), .int .i64 ((rd_T46 l0_1 Aa).f1.f1), .int .i64 ((rd_T46 l0_1 Aa).f1.f2), .int .u32 ((rd_T46 l0_1 Aa).f1.f3)] 46 (0, 0))) := ⟨kX0 Ac.out⟩
    have n2_ : Aside0 (Below w.heap.size w (((((w7.setCell ⟨Ab, 0, none⟩ (.int .i64 ((rd_T46 l0_1 Aa).f0))).setCell ⟨Ab, 1, none⟩ (.int .i64 ((rd_T46 l0_1 Aa).f1.f0))).setCell ⟨Ab, 2, none⟩ (.int .i64 ((rd_T46 l0_1 Aa).f1.f1))).setCell ⟨Ab, 3, none⟩ (.int .i64 ((rd_T46 l0_1 Aa).f1.f2))).setCell ⟨Ab, 4, none⟩ (.int .u32 ((rd_T46 l0_1 Aa).f1.f3)))) := ⟨pE2 HB.out Af.out Aj.out⟩
    (try clear Ad)
    (try clear Ac)
    (try clear HB)
    generalize (((((w7.setCell ⟨Ab, 0, none⟩ (.int .i64 ((rd_T46 l0_1 Aa).f0))).setCell ⟨Ab, 1, none⟩ (.int .i64 ((rd_T46 l0_1 Aa).f1.f0))).setCell ⟨Ab, 2, none⟩ (.int .i64 ((rd_T46 l0_1 Aa).f1.f1))).setCell ⟨Ab, 3, none⟩ (.int .i64 ((rd_T46 l0_1 Aa).f1.f2))).setCell ⟨Ab, 4, none⟩ (.int .u32 ((rd_T46 l0_1 Aa).f1.f3))) = w10 at n0_ n1_ n2_ ⊢
    have Ad := n0_
    have Ac := n1_
    have HB := n2_
    clear n0_ n1_ n2_
    replace Ad := kDa Ad
    replace Ac := kDa Ac
    replace HB := bDa HB
    refine start_ (n := 38) (S := fun w' => cG w' Ab 0 (.int .i64 ((rd_T46 l0_1 Aa).f0)) ∧ cG w' Ab 1 (.int .i64 ((rd_T46 l0_1 Aa).f1.f0)) ∧ cG w' Ab 2 (.int .i64 ((rd_T46 l0_1 Aa).f1.f1)) ∧ cG w' Ab 3 (.int .i64 ((rd_T46 l0_1 Aa).f1.f2)) ∧ cG w' Ab 4 (.int .u32 ((rd_T46 l0_1 Aa).f1.f3))) (ds := []) #[false, false, false, false, false, false, false, false, false, false, false, false, false, false, false, false, false, false, false, false, false, false, false, false, false, false, false, false, false, false, false, false, false, false, false, false, false, false] (by kernel_rfl) rfl rfl ⟨(blk_cell Ac.out 0).trans rfl, (blk_cell Ac.out 1).trans rfl, (blk_cell Ac.out 2).trans rfl, (blk_cell Ac.out 3).trans rfl, (blk_cell Ac.out 4).trans rfl⟩ (fun hHeld => ?_); refine with_tabW garnerref21_May.tab5 garnerref21_May.bits5 (fun HT_ HW_ => ?_)
    generalize w10.drew = w11 at Ad Ac HB hHeld ⊢
    refine pui 0 17 38 1 HT_ ?_
    refine tki 1 18 38 3 HT_ HW_ hHeld ?_
    refine pui 2 19 38 7 HT_ ?_
    refine pui 3 20 38 15 HT_ ?_
    refine pdi 4 21 38 31 HT_ ?_
    refine pdi 5 22 38 63 HT_ ?_
    refine pdi 6 23 38 127 HT_ ?_
    refine pui 7 24 38 255 HT_ ?_
    refine pui 8 25 38 511 HT_ ?_
    refine pdi 9 26 38 1023 HT_ ?_
    refine pdi 10 27 38 2047 HT_ ?_
    refine pdi 11 28 38 4095 HT_ ?_
    refine pdi 12 29 38 8191 HT_ ?_
    refine pui 13 30 38 16383 HT_ ?_
    refine pui 14 31 38 32767 HT_ ?_
    refine pdi 15 32 38 65535 HT_ ?_
    refine pdi 16 33 38 131071 HT_ ?_
    refine pdi 17 34 38 262143 HT_ ?_
    refine pdi 18 35 38 524287 HT_ ?_
    refine pdi 19 36 38 1048575 HT_ ?_
    refine pdi 20 37 38 2097151 HT_ ?_
    refine pui 21 38 38 4194303 HT_ ?_
    refine pui 22 39 38 8388607 HT_ ?_
    refine pdi 23 40 38 16777215 HT_ ?_
    refine pdi 24 41 38 33554431 HT_ ?_
    refine pdi 25 42 38 67108863 HT_ ?_
    refine pdi 26 43 38 134217727 HT_ ?_
    refine pdi 27 44 38 268435455 HT_ ?_
    refine pdi 28 45 38 536870911 HT_ ?_
    refine pdi 29 46 38 1073741823 HT_ ?_
    refine pdi 30 47 38 2147483647 HT_ ?_
    refine pdi 31 48 38 4294967295 HT_ ?_
    refine pdi 32 49 38 8589934591 HT_ ?_
    refine pdi 33 50 38 17179869183 HT_ ?_
    refine pdi 34 51 38 34359738367 HT_ ?_
    refine pdi 35 52 38 68719476735 HT_ ?_
    refine pdi 36 53 38 137438953471 HT_ ?_
    refine pui 37 54 38 274877906943 HT_ ?_
    refine done_ (done_of HT_.out (by kernel_rfl)) ?_
    try go_wp2
    go_ret
    exact ⟨pX, pE2 HB.out Af.out Aj.out⟩
   rw [if_neg c5] at H
   have c5b0 : decide (((rd_T46 l0_1 Aa).f0) < 0) = false := decide_eq_false c5
   clear c5
   by_cases c12 : ((rd_T46 l0_1 Aa).f0) > 2147483647
   ·rw [if_pos c12] at H
    have c12b0 : decide (2147483647 < ((rd_T46 l0_1 Aa).f0)) = true := decide_eq_true c12
    clear c12
    obtain rfl := Option.some.inj H
    obtain ⟨_, _⟩ := bc2 Ad.out
    obtain ⟨_, _⟩ := bf2 Ad.out
    have p308 : 0 ≤ (Aa : Int) := of_decide_eq_true pS
    have q308 : Aa < (l0_1.length : Int) := of_decide_eq_true pS
    obtain ⟨Ag, e308, Al, An, Ao, Ap, Aq⟩ := at_T46u Ar.out Aa p308 q308 HB.out
    cases e308
    replace p308 := eq_true p308
    replace q308 := eq_true q308
    try go_wp2_with (first | ((with_reducible refine gate_dst (N := 4) rfl ?_); (try (refine gate_guard (by rfl) ?_; dsimp only)); refine box_event ?hg (N := 4) ?hd (cs := #[.int .i64 0, .int .i64 0, .int .i64 0, .int .i64 0, .int .u32 0]) (t := 46) ?hr ?_; (case hd => rfl); (case hg => rfl); (case hr => first | (go_simp; done) | (go_simp; rfl)); intro Ab hg w14 hbox hb; have Ac := Am (hbox); have Ak := Am ((by rw [hg]; exact (below_size (pE HB.out Af.out)) : w.heap.size ≤ Ab)); replace HB := Am (below_step (pE HB.out Af.out) hb); have Aj := Ak; have Ae := Am ((by rw [hg]; exact Nat.ne_of_lt (kL Ad.out) : Ai ≠ Ab)); have Ah := Am ((by rw [hg]; exact Nat.ne_of_gt (kL Ad.out) : Ab ≠ Ai)); replace Ad := kBa Ad hb; clear hb hbox hg; have hnb15 := Ah.out; have hnc15 := Ae.out; obtain ⟨_, _, _, _, _⟩ := bc5 Ac.out; obtain ⟨_, _, _, _, _⟩ := bf5 Ac.out))
    have n0_ : Aside0 ((((((w14.setCell ⟨Ab, 0, none⟩ (.int .i64 ((rd_T46 l0_1 Aa).f0))).setCell ⟨Ab, 1, none⟩ (.int .i64 ((rd_T46 l0_1 Aa).f1.f0))).setCell ⟨Ab, 2, none⟩ (.int .i64 ((rd_T46 l0_1 Aa).f1.f1))).setCell ⟨Ab, 3, none⟩ (.int .i64 ((rd_T46 l0_1 Aa).f1.f2))).setCell ⟨Ab, 4, none⟩ (.int .u32 ((rd_T46 l0_1 Aa).f1.f3))).heap[Ai]? = some (.cells #[.int .i64 a0_0, .slice (some Ag) l0_1.length c0_1] 29 (0, 0))) := ⟨kX1 Ad.out Ae.out⟩
    have n1_ : Aside0 ((((((w14.setCell ⟨Ab, 0, none⟩ (.int .i64 ((rd_T46 l0_1 Aa).f0))).setCell ⟨Ab, 1, none⟩ (.int .i64 ((rd_T46 l0_1 Aa).f1.f0))).setCell ⟨Ab, 2, none⟩ (.int .i64 ((rd_T46 l0_1 Aa).f1.f1))).setCell ⟨Ab, 3, none⟩ (.int .i64 ((rd_T46 l0_1 Aa).f1.f2))).setCell ⟨Ab, 4, none⟩ (.int .u32 ((rd_T46 l0_1 Aa).f1.f3))).heap[Ab]? = some (.cells #[.int .i64 ((rd_T46 l0_1 Aa).f0), .int .i64 ((rd_T46 l0_1 Aa).f1.f0), .int .i64 ((rd_T46 l0_1 Aa).f1.f1), .int .i64 ((rd_T46 l0_1 Aa).f1.f2), .int .u32 ((rd_T46 l0_1 Aa).f1.f3)] 46 (0, 0))) := ⟨kX0 Ac.out⟩
    have n2_ : Aside0 (Below w.heap.size w (((((w14.setCell ⟨Ab, 0, none⟩ (.int .i64 ((rd_T46 l0_1 Aa).f0))).setCell ⟨Ab, 1, none⟩ (.int .i64 ((rd_T46 l0_1 Aa).f1.f0))).setCell ⟨Ab, 2, none⟩ (.int .i64 ((rd_T46 l0_1 Aa).f1.f1))).setCell ⟨Ab, 3, none⟩ (.int .i64 ((rd_T46 l0_1 Aa).f1.f2))).setCell ⟨Ab, 4, none⟩ (.int .u32 ((rd_T46 l0_1 Aa).f1.f3)))) := ⟨pE2 HB.out Af.out Aj.out⟩
    (try clear Ad)
    (try clear Ac)
    (try clear HB)
    generalize (((((w14.setCell ⟨Ab, 0, none⟩ (.int .i64 ((rd_T46 l0_1 Aa).f0))).setCell ⟨Ab, 1, none⟩ (.int .i64 ((rd_T46 l0_1 Aa).f1.f0))).setCell ⟨Ab, 2, none⟩ (.int .i64 ((rd_T46 l0_1 Aa).f1.f1))).setCell ⟨Ab, 3, none⟩ (.int .i64 ((rd_T46 l0_1 Aa).f1.f2))).setCell ⟨Ab, 4, none⟩ (.int .u32 ((rd_T46 l0_1 Aa).f1.f3))) = w17 at n0_ n1_ n2_ ⊢
    have Ad := n0_
    have Ac := n1_
    have HB := n2_
    clear n0_ n1_ n2_
    replace Ad := kDa Ad
    replace Ac := kDa Ac
    replace HB := bDa HB
    refine start_ (n := 38) (S := fun w' => cG w' Ab 0 (.int .i64 ((rd_T46 l0_1 Aa).f0)) ∧ cG w' Ab 1 (.int .i64 ((rd_T46 l0_1 Aa).f1.f0)) ∧ cG w' Ab 2 (.int .i64 ((rd_T46 l0_1 Aa).f1.f1)) ∧ cG w' Ab 3 (.int .i64 ((rd_T46 l0_1 Aa).f1.f2)) ∧ cG w' Ab 4 (.int .u32 ((rd_T46 l0_1 Aa).f1.f3))) (ds := []) #[false, false, false, false, false, false, false, false, false, false, false, false, false, false, false, false, false, false, false, false, false, false, false, false, false, false, false, false, false, false, false, false, false, false, false, false, false, false] (by kernel_rfl) rfl rfl ⟨(blk_cell Ac.out 0).trans rfl, (blk_cell Ac.out 1).trans rfl, (blk_cell Ac.out 2).trans rfl, (blk_cell Ac.out 3).trans rfl, (blk_cell Ac.out 4).trans rfl⟩ (fun hHeld => ?_); refine with_tabW garnerref21_May.tab5 garnerref21_May.bits5 (fun HT_ HW_ => ?_)
    generalize w17.drew = w18 at Ad Ac HB hHeld ⊢
    refine pui 0 17 38 1 HT_ ?_
    refine tki 1 18 38 3 HT_ HW_ hHeld ?_
    refine pui 2 19 38 7 HT_ ?_
    refine pui 3 20 38 15 HT_ ?_
    refine pui 4 21 38 31 HT_ ?_
    refine tki 5 22 38 63 HT_ HW_ hHeld ?_
    refine pui 6 23 38 127 HT_ ?_
    refine pui 7 24 38 255 HT_ ?_
    refine pui 8 25 38 511 HT_ ?_
    refine pdi 9 26 38 1023 HT_ ?_
    refine pdi 10 27 38 2047 HT_ ?_
    refine pdi 11 28 38 4095 HT_ ?_
    refine pdi 12 29 38 8191 HT_ ?_
    refine pui 13 30 38 16383 HT_ ?_
    refine pui 14 31 38 32767 HT_ ?_
    refine pdi 15 32 38 65535 HT_ ?_
    refine pdi 16 33 38 131071 HT_ ?_
    refine pdi 17 34 38 262143 HT_ ?_
    refine pdi 18 35 38 524287 HT_ ?_
    refine pdi 19 36 38 1048575 HT_ ?_
    refine pdi 20 37 38 2097151 HT_ ?_
    refine pui 21 38 38 4194303 HT_ ?_
    refine pui 22 39 38 8388607 HT_ ?_
    refine pdi 23 40 38 16777215 HT_ ?_
    refine pdi 24 41 38 33554431 HT_ ?_
    refine pdi 25 42 38 67108863 HT_ ?_
    refine pdi 26 43 38 134217727 HT_ ?_
    refine pdi 27 44 38 268435455 HT_ ?_
    refine pdi 28 45 38 536870911 HT_ ?_
    refine pdi 29 46 38 1073741823 HT_ ?_
    refine pdi 30 47 38 2147483647 HT_ ?_
    refine pdi 31 48 38 4294967295 HT_ ?_
    refine pdi 32 49 38 8589934591 HT_ ?_
    refine pdi 33 50 38 17179869183 HT_ ?_
    refine pdi 34 51 38 34359738367 HT_ ?_
    refine pdi 35 52 38 68719476735 HT_ ?_
    refine pdi 36 53 38 137438953471 HT_ ?_
    refine pui 37 54 38 274877906943 HT_ ?_
    refine done_ (done_of HT_.out (by kernel_rfl)) ?_
    try go_wp2
    go_ret
    exact ⟨pX, pE2 HB.out Af.out Aj.out⟩
   rw [if_neg c12] at H
   have c12b0 : decide (2147483647 < ((rd_T46 l0_1 Aa).f0)) = false := decide_eq_false c12
   clear c12
   replace H := Option.bind_eq_some_iff.mp H
   obtain ⟨t310, A190, H⟩ := H
   replace H : (if t310 = true then (if ((rd_T46 l0_1 Aa).f1.f0) ≤ a0_0 then (some false) else (if Aa > 0 then (if 0 ≤ (wrap64 (Aa - 1)) then (if (wrap64 (Aa - 1)) < (l0_1.length : Int) then (if ((rd_T46 l0_1 Aa).f0) ≤ ((rd_T46 l0_1 (wrap64 (Aa - 1))).f0) then (some false) else (garnerref21_May.l0 k1 (wrap64 (Aa + 1)) a0_0 l0_1)) else (none)) else (none)) else (garnerref21_May.l0 k1 (wrap64 (Aa + 1)) a0_0 l0_1))) else (some false)) = some r := H
   have A19 := Am A190
   clear A190
   by_cases c20 : t310 = true
   rotate_left
   ·replace c20 := Bool.eq_false_iff.mpr c20
    subst c20
    have H1 : (some false) = some r := by rw [if_neg (show ¬ (false = true) by decide)] at H; exact H
    clear H
    have H := H1
    clear H1
    obtain rfl := Option.some.inj H
    obtain ⟨_, _⟩ := bc2 Ad.out
    obtain ⟨_, _⟩ := bf2 Ad.out
    have p308 : 0 ≤ (Aa : Int) := of_decide_eq_true pS
    have q308 : Aa < (l0_1.length : Int) := of_decide_eq_true pS
    obtain ⟨Ag, e308, Al, An, Ao, Ap, Aq⟩ := at_T46u Ar.out Aa p308 q308 HB.out
    cases e308
    replace p308 := eq_true p308
    replace q308 := eq_true q308
    try go_wp2_with (first | ((with_reducible refine gate_dst (N := 4) rfl ?_); (try (refine gate_guard (by rfl) ?_; dsimp only)); refine box_event ?hg (N := 4) ?hd (cs := #[.int .i64 0, .int .i64 0, .int .i64 0, .int .i64 0, .int .u32 0]) (t := 46) ?hr ?_; (case hd => rfl); (case hg => rfl); (case hr => first | (go_simp; done) | (go_simp; rfl)); intro Ab hg w56 hbox hb; have Ac := Am (hbox); have Ak := Am ((by rw [hg]; exact (below_size (pE HB.out Af.out)) : w.heap.size ≤ Ab)); replace HB := Am (below_step (pE HB.out Af.out) hb); have Aj := Ak; have Ae := Am ((by rw [hg]; exact Nat.ne_of_lt (kL Ad.out) : Ai ≠ Ab)); have Ah := Am ((by rw [hg]; exact Nat.ne_of_gt (kL Ad.out) : Ab ≠ Ai)); replace Ad := kBa Ad hb; clear hb hbox hg; have hnb57 := Ah.out; have hnc57 := Ae.out; obtain ⟨_, _, _, _, _⟩ := bc5 Ac.out; obtain ⟨_, _, _, _, _⟩ := bf5 Ac.out))
    have n0_ : Aside0 ((((((w56.setCell ⟨Ab, 0, none⟩ (.int .i64 ((rd_T46 l0_1 Aa).f0))).setCell ⟨Ab, 1, none⟩ (.int .i64 ((rd_T46 l0_1 Aa).f1.f0))).setCell ⟨Ab, 2, none⟩ (.int .i64 ((rd_T46 l0_1 Aa).f1.f1))).setCell ⟨Ab, 3, none⟩ (.int .i64 ((rd_T46 l0_1 Aa).f1.f2))).setCell ⟨Ab, 4, none⟩ (.int .u32 ((rd_T46 l0_1 Aa).f1.f3))).heap[Ai]? = some (.cells #[.int .i64 a0_0, .slice (some Ag) l0_1.length c0_1] 29 (0, 0))) := ⟨kX1 Ad.out Ae.out⟩
    have n1_ : Aside0 ((((((w56.setCell ⟨Ab, 0, none⟩ (.int .i64 ((rd_T46 l0_1 Aa).f0))).setCell ⟨Ab, 1, none⟩ (.int .i64 ((rd_T46 l0_1 Aa).f1.f0))).setCell ⟨Ab, 2, none⟩ (.int .i64 ((rd_T46 l0_1 Aa).f1.f1))).setCell ⟨Ab, 3, none⟩ (.int .i64 ((rd_T46 l0_1 Aa).f1.f2))).setCell ⟨Ab, 4, none⟩ (.int .u32 ((rd_T46 l0_1 Aa).f1.f3))).heap[Ab]? = some (.cells #[.int .i64 ((rd_T46 l0_1 Aa).f0), .int .i64 ((rd_T46 l0_1 Aa).f1.f0), .int .i64 ((rd_T46 l0_1 Aa).f1.f1), .int .i64 ((rd_T46 l0_1 Aa).f1.f2), .int .u32 ((rd_T46 l0_1 Aa).f1.f3)] 46 (0, 0))) := ⟨kX0 Ac.out⟩
    have n2_ : Aside0 (Below w.heap.size w (((((w56.setCell ⟨Ab, 0, none⟩ (.int .i64 ((rd_T46 l0_1 Aa).f0))).setCell ⟨Ab, 1, none⟩ (.int .i64 ((rd_T46 l0_1 Aa).f1.f0))).setCell ⟨Ab, 2, none⟩ (.int .i64 ((rd_T46 l0_1 Aa).f1.f1))).setCell ⟨Ab, 3, none⟩ (.int .i64 ((rd_T46 l0_1 Aa).f1.f2))).setCell ⟨Ab, 4, none⟩ (.int .u32 ((rd_T46 l0_1 Aa).f1.f3)))) := ⟨pE2 HB.out Af.out Aj.out⟩
    (try clear Ad)
    (try clear Ac)
    (try clear HB)
    generalize (((((w56.setCell ⟨Ab, 0, none⟩ (.int .i64 ((rd_T46 l0_1 Aa).f0))).setCell ⟨Ab, 1, none⟩ (.int .i64 ((rd_T46 l0_1 Aa).f1.f0))).setCell ⟨Ab, 2, none⟩ (.int .i64 ((rd_T46 l0_1 Aa).f1.f1))).setCell ⟨Ab, 3, none⟩ (.int .i64 ((rd_T46 l0_1 Aa).f1.f2))).setCell ⟨Ab, 4, none⟩ (.int .u32 ((rd_T46 l0_1 Aa).f1.f3))) = w59 at n0_ n1_ n2_ ⊢
    have Ad := n0_
    have Ac := n1_
    have HB := n2_
    clear n0_ n1_ n2_
    replace Ad := kDa Ad
    replace Ac := kDa Ac
    replace HB := bDa HB
    refine start_ (n := 38) (S := fun w' => cG w' Ab 0 (.int .i64 ((rd_T46 l0_1 Aa).f0)) ∧ cG w' Ab 1 (.int .i64 ((rd_T46 l0_1 Aa).f1.f0)) ∧ cG w' Ab 2 (.int .i64 ((rd_T46 l0_1 Aa).f1.f1)) ∧ cG w' Ab 3 (.int .i64 ((rd_T46 l0_1 Aa).f1.f2)) ∧ cG w' Ab 4 (.int .u32 ((rd_T46 l0_1 Aa).f1.f3))) (ds := []) #[false, false, false, false, false, false, false, false, false, false, false, false, false, false, false, false, false, false, false, false, false, false, false, false, false, false, false, false, false, false, false, false, false, false, false, false, false, false] (by kernel_rfl) rfl rfl ⟨(blk_cell Ac.out 0).trans rfl, (blk_cell Ac.out 1).trans rfl, (blk_cell Ac.out 2).trans rfl, (blk_cell Ac.out 3).trans rfl, (blk_cell Ac.out 4).trans rfl⟩ (fun hHeld => ?_); refine with_tabW garnerref21_May.tab5 garnerref21_May.bits5 (fun HT_ HW_ => ?_)
    generalize w59.drew = w60 at Ad Ac HB hHeld ⊢
    refine pui 0 17 38 1 HT_ ?_
    refine tki 1 18 38 3 HT_ HW_ hHeld ?_
    refine pui 2 19 38 7 HT_ ?_
    refine pui 3 20 38 15 HT_ ?_
    refine pui 4 21 38 31 HT_ ?_
    refine tki 5 22 38 63 HT_ HW_ hHeld ?_
    refine pui 6 23 38 127 HT_ ?_
    refine pui 7 24 38 255 HT_ ?_
    refine pui 8 25 38 511 HT_ ?_
    refine pui 9 26 38 1023 HT_ ?_
    refine tki 10 27 38 2047 HT_ HW_ hHeld ?_
    refine onei 11 28 38 4095 HT_ (fun K hK => ?_)
    refine goes_ Try.func27 (by kernel_rfl) rfl #[.agg #[.int .i64 ((rd_T46 l0_1 Aa).f1.f0), .int .i64 ((rd_T46 l0_1 Aa).f1.f1), .int .i64 ((rd_T46 l0_1 Aa).f1.f2), .int .u32 ((rd_T46 l0_1 Aa).f1.f3)]] (by rfl) rfl rfl pL ?_
    with_reducible refine (garnerref04_May.calls ((rd_T46 l0_1 Aa).f1.f0) ((rd_T46 l0_1 Aa).f1.f1) ((rd_T46 l0_1 Aa).f1.f2) ((rd_T46 l0_1 Aa).f1.f3) false _ A19.out).mono ?_
    rintro e w61 ⟨rfl, hb⟩
    refine ⟨_, rfl, ?_⟩
    replace Ad := kBa Ad hb
    replace Ac := kBa Ac hb
    replace HB := Am (below_step (pE2 HB.out Af.out Aj.out) hb)
    (try clear hb)
    (try clear hb2)
    (try clear hk)
    (try clear hi)
    refine hK.out _ _ ⟨(blk_cell Ac.out 0).trans rfl, (blk_cell Ac.out 1).trans rfl, (blk_cell Ac.out 2).trans rfl, (blk_cell Ac.out 3).trans rfl, (blk_cell Ac.out 4).trans rfl⟩ (fun hHeld => ?_)
    clear hK K
    refine norm_ (a' := ?_) ?_ ?_
    rotate_left
    ·show Act.put _ (some 28) _ = _
     simp only [Act.put, List.setIfInBounds_toArray, List.set_cons_zero, List.set_cons_succ, i64_w, i32_w]
     rfl
    refine pui 12 29 38 8191 HT_ ?_
    refine pui 13 30 38 16383 HT_ ?_
    refine pui 14 31 38 32767 HT_ ?_
    refine pdi 15 32 38 65535 HT_ ?_
    refine pdi 16 33 38 131071 HT_ ?_
    refine pdi 17 34 38 262143 HT_ ?_
    refine pdi 18 35 38 524287 HT_ ?_
    refine pdi 19 36 38 1048575 HT_ ?_
    refine pdi 20 37 38 2097151 HT_ ?_
    refine pui 21 38 38 4194303 HT_ ?_
    refine pui 22 39 38 8388607 HT_ ?_
    refine pdi 23 40 38 16777215 HT_ ?_
    refine pdi 24 41 38 33554431 HT_ ?_
    refine pdi 25 42 38 67108863 HT_ ?_
    refine pdi 26 43 38 134217727 HT_ ?_
    refine pdi 27 44 38 268435455 HT_ ?_
    refine pdi 28 45 38 536870911 HT_ ?_
    refine pdi 29 46 38 1073741823 HT_ ?_
    refine pdi 30 47 38 2147483647 HT_ ?_
    refine pdi 31 48 38 4294967295 HT_ ?_
    refine pdi 32 49 38 8589934591 HT_ ?_
    refine pdi 33 50 38 17179869183 HT_ ?_
    refine pdi 34 51 38 34359738367 HT_ ?_
    refine pdi 35 52 38 68719476735 HT_ ?_
    refine pdi 36 53 38 137438953471 HT_ ?_
    refine pui 37 54 38 274877906943 HT_ ?_
    refine done_ (done_of HT_.out (by kernel_rfl)) ?_
    try go_wp2
    go_ret
    exact ⟨pX, pE2 HB.out Af.out Aj.out⟩
   subst c20
   have H1 : (if ((rd_T46 l0_1 Aa).f1.f0) ≤ a0_0 then (some false) else (if Aa > 0 then (if 0 ≤ (wrap64 (Aa - 1)) then (if (wrap64 (Aa - 1)) < (l0_1.length : Int) then (if ((rd_T46 l0_1 Aa).f0) ≤ ((rd_T46 l0_1 (wrap64 (Aa - 1))).f0) then (some false) else (garnerref21_May.l0 k1 (wrap64 (Aa + 1)) a0_0 l0_1)) else (none)) else (none)) else (garnerref21_May.l0 k1 (wrap64 (Aa + 1)) a0_0 l0_1))) = some r := by rw [if_pos rfl] at H; exact H
   clear H
   have H := H1
   clear H1
   by_cases c21 : ((rd_T46 l0_1 Aa).f1.f0) ≤ a0_0
   ·rw [if_pos c21] at H
    have c21b0 : decide (((rd_T46 l0_1 Aa).f1.f0) ≤ a0_0) = true := decide_eq_true c21
    clear c21
    obtain rfl := Option.some.inj H
    obtain ⟨_, _⟩ := bc2 Ad.out
    obtain ⟨_, _⟩ := bf2 Ad.out
    have p308 : 0 ≤ (Aa : Int) := of_decide_eq_true pS
    have q308 : Aa < (l0_1.length : Int) := of_decide_eq_true pS
    obtain ⟨Ag, e308, Al, An, Ao, Ap, Aq⟩ := at_T46u Ar.out Aa p308 q308 HB.out
    cases e308
    replace p308 := eq_true p308
    replace q308 := eq_true q308
    try go_wp2_with (first | ((with_reducible refine gate_dst (N := 4) rfl ?_); (try (refine gate_guard (by rfl) ?_; dsimp only)); refine box_event ?hg (N := 4) ?hd (cs := #[.int .i64 0, .int .i64 0, .int .i64 0, .int .i64 0, .int .u32 0]) (t := 46) ?hr ?_; (case hd => rfl); (case hg => rfl); (case hr => first | (go_simp; done) | (go_simp; rfl)); intro Ab hg w23 hbox hb; have Ac := Am (hbox); have Ak := Am ((by rw [hg]; exact (below_size (pE HB.out Af.out)) : w.heap.size ≤ Ab)); replace HB := Am (below_step (pE HB.out Af.out) hb); have Aj := Ak; have Ae := Am ((by rw [hg]; exact Nat.ne_of_lt (kL Ad.out) : Ai ≠ Ab)); have Ah := Am ((by rw [hg]; exact Nat.ne_of_gt (kL Ad.out) : Ab ≠ Ai)); replace Ad := kBa Ad hb; clear hb hbox hg; have hnb24 := Ah.out; have hnc24 := Ae.out; obtain ⟨_, _, _, _, _⟩ := bc5 Ac.out; obtain ⟨_, _, _, _, _⟩ := bf5 Ac.out))
    have n0_ : Aside0 ((((((w23.setCell ⟨Ab, 0, none⟩ (.int .i64 ((rd_T46 l0_1 Aa).f0))).setCell ⟨Ab, 1, none⟩ (.int .i64 ((rd_T46 l0_1 Aa).f1.f0))).setCell ⟨Ab, 2, none⟩ (.int .i64 ((rd_T46 l0_1 Aa).f1.f1))).setCell ⟨Ab, 3, none⟩ (.int .i64 ((rd_T46 l0_1 Aa).f1.f2))).setCell ⟨Ab, 4, none⟩ (.int .u32 ((rd_T46 l0_1 Aa).f1.f3))).heap[Ai]? = some (.cells #[.int .i64 a0_0, .slice (some Ag) l0_1.length c0_1] 29 (0, 0))) := ⟨kX1 Ad.out Ae.out⟩
    have n1_ : Aside0 ((((((w23.setCell ⟨Ab, 0, none⟩ (.int .i64 ((rd_T46 l0_1 Aa).f0))).setCell ⟨Ab, 1, none⟩ (.int .i64 ((rd_T46 l0_1 Aa).f1.f0))).setCell ⟨Ab, 2, none⟩ (.int .i64 ((rd_T46 l0_1 Aa).f1.f1))).setCell ⟨Ab, 3, none⟩ (.int .i64 ((rd_T46 l0_1 Aa).f1.f2))).setCell ⟨Ab, 4, none⟩ (.int .u32 ((rd_T46 l0_1 Aa).f1.f3))).heap[Ab]? = some (.cells #[.int .i64 ((rd_T46 l0_1 Aa).f0), .int .i64 ((rd_T46 l0_1 Aa).f1.f0), .int .i64 ((rd_T46 l0_1 Aa).f1.f1), .int .i64 ((rd_T46 l0_1 Aa).f1.f2), .int .u32 ((rd_T46 l0_1 Aa).f1.f3)] 46 (0, 0))) := ⟨kX0 Ac.out⟩
    have n2_ : Aside0 (Below w.heap.size w (((((w23.setCell ⟨Ab, 0, none⟩ (.int .i64 ((rd_T46 l0_1 Aa).f0))).setCell ⟨Ab, 1, none⟩ (.int .i64 ((rd_T46 l0_1 Aa).f1.f0))).setCell ⟨Ab, 2, none⟩ (.int .i64 ((rd_T46 l0_1 Aa).f1.f1))).setCell ⟨Ab, 3, none⟩ (.int .i64 ((rd_T46 l0_1 Aa).f1.f2))).setCell ⟨Ab, 4, none⟩ (.int .u32 ((rd_T46 l0_1 Aa).f1.f3)))) := ⟨pE2 HB.out Af.out Aj.out⟩
    (try clear Ad)
    (try clear Ac)
    (try clear HB)
    generalize (((((w23.setCell ⟨Ab, 0, none⟩ (.int .i64 ((rd_T46 l0_1 Aa).f0))).setCell ⟨Ab, 1, none⟩ (.int .i64 ((rd_T46 l0_1 Aa).f1.f0))).setCell ⟨Ab, 2, none⟩ (.int .i64 ((rd_T46 l0_1 Aa).f1.f1))).setCell ⟨Ab, 3, none⟩ (.int .i64 ((rd_T46 l0_1 Aa).f1.f2))).setCell ⟨Ab, 4, none⟩ (.int .u32 ((rd_T46 l0_1 Aa).f1.f3))) = w26 at n0_ n1_ n2_ ⊢
    have Ad := n0_
    have Ac := n1_
    have HB := n2_
    clear n0_ n1_ n2_
    replace Ad := kDa Ad
    replace Ac := kDa Ac
    replace HB := bDa HB
    refine start_ (n := 38) (S := fun w' => cG w' Ab 0 (.int .i64 ((rd_T46 l0_1 Aa).f0)) ∧ cG w' Ab 1 (.int .i64 ((rd_T46 l0_1 Aa).f1.f0)) ∧ cG w' Ab 2 (.int .i64 ((rd_T46 l0_1 Aa).f1.f1)) ∧ cG w' Ab 3 (.int .i64 ((rd_T46 l0_1 Aa).f1.f2)) ∧ cG w' Ab 4 (.int .u32 ((rd_T46 l0_1 Aa).f1.f3)) ∧ cG w' Ai 0 (.int .i64 a0_0) ∧ cG w' Ai 1 (.slice (some Ag) l0_1.length c0_1)) (ds := []) #[false, false, false, false, false, false, false, false, false, false, false, false, false, false, false, false, false, false, false, false, false, false, false, false, false, false, false, false, false, false, false, false, false, false, false, false, false, false] (by kernel_rfl) rfl rfl ⟨(blk_cell Ac.out 0).trans rfl, (blk_cell Ac.out 1).trans rfl, (blk_cell Ac.out 2).trans rfl, (blk_cell Ac.out 3).trans rfl, (blk_cell Ac.out 4).trans rfl, (blk_cell Ad.out 0).trans rfl, (blk_cell Ad.out 1).trans rfl⟩ (fun hHeld => ?_); refine with_tabW garnerref21_May.tab5 garnerref21_May.bits5 (fun HT_ HW_ => ?_)
    generalize w26.drew = w27 at Ad Ac HB hHeld ⊢
    refine pui 0 17 38 1 HT_ ?_
    refine tki 1 18 38 3 HT_ HW_ hHeld ?_
    refine pui 2 19 38 7 HT_ ?_
    refine pui 3 20 38 15 HT_ ?_
    refine pui 4 21 38 31 HT_ ?_
    refine tki 5 22 38 63 HT_ HW_ hHeld ?_
    refine pui 6 23 38 127 HT_ ?_
    refine pui 7 24 38 255 HT_ ?_
    refine pui 8 25 38 511 HT_ ?_
    refine pui 9 26 38 1023 HT_ ?_
    refine tki 10 27 38 2047 HT_ HW_ hHeld ?_
    refine onei 11 28 38 4095 HT_ (fun K hK => ?_)
    refine goes_ Try.func27 (by kernel_rfl) rfl #[.agg #[.int .i64 ((rd_T46 l0_1 Aa).f1.f0), .int .i64 ((rd_T46 l0_1 Aa).f1.f1), .int .i64 ((rd_T46 l0_1 Aa).f1.f2), .int .u32 ((rd_T46 l0_1 Aa).f1.f3)]] (by rfl) rfl rfl pL ?_
    with_reducible refine (garnerref04_May.calls ((rd_T46 l0_1 Aa).f1.f0) ((rd_T46 l0_1 Aa).f1.f1) ((rd_T46 l0_1 Aa).f1.f2) ((rd_T46 l0_1 Aa).f1.f3) true _ A19.out).mono ?_
    rintro e w28 ⟨rfl, hb⟩
    refine ⟨_, rfl, ?_⟩
    replace Ad := kBa Ad hb
    replace Ac := kBa Ac hb
    replace HB := Am (below_step (pE2 HB.out Af.out Aj.out) hb)
    (try clear hb)
    (try clear hb2)
    (try clear hk)
    (try clear hi)
    refine hK.out _ _ ⟨(blk_cell Ac.out 0).trans rfl, (blk_cell Ac.out 1).trans rfl, (blk_cell Ac.out 2).trans rfl, (blk_cell Ac.out 3).trans rfl, (blk_cell Ac.out 4).trans rfl, (blk_cell Ad.out 0).trans rfl, (blk_cell Ad.out 1).trans rfl⟩ (fun hHeld => ?_)
    clear hK K
    refine norm_ (a' := ?_) ?_ ?_
    rotate_left
    ·show Act.put _ (some 28) _ = _
     simp only [Act.put, List.setIfInBounds_toArray, List.set_cons_zero, List.set_cons_succ, i64_w, i32_w]
     rfl
    refine pui 12 29 38 8191 HT_ ?_
    refine pui 13 30 38 16383 HT_ ?_
    refine pui 14 31 38 32767 HT_ ?_
    refine pui 15 32 38 65535 HT_ ?_
    refine pui 16 33 38 131071 HT_ ?_
    refine pui 18 35 38 393215 HT_ ?_
    refine tki 17 34 38 524287 HT_ HW_ hHeld ?_
    refine tki 19 36 38 1048575 HT_ HW_ hHeld ?_
    refine pui 20 37 38 2097151 HT_ ?_
    refine pui 21 38 38 4194303 HT_ ?_
    refine pui 22 39 38 8388607 HT_ ?_
    refine pdi 23 40 38 16777215 HT_ ?_
    refine pdi 24 41 38 33554431 HT_ ?_
    refine pdi 25 42 38 67108863 HT_ ?_
    refine pdi 26 43 38 134217727 HT_ ?_
    refine pdi 27 44 38 268435455 HT_ ?_
    refine pdi 28 45 38 536870911 HT_ ?_
    refine pdi 29 46 38 1073741823 HT_ ?_
    refine pdi 30 47 38 2147483647 HT_ ?_
    refine pdi 31 48 38 4294967295 HT_ ?_
    refine pdi 32 49 38 8589934591 HT_ ?_
    refine pdi 33 50 38 17179869183 HT_ ?_
    refine pdi 34 51 38 34359738367 HT_ ?_
    refine pdi 35 52 38 68719476735 HT_ ?_
    refine pdi 36 53 38 137438953471 HT_ ?_
    refine pui 37 54 38 274877906943 HT_ ?_
    refine done_ (done_of HT_.out (by kernel_rfl)) ?_
    try go_wp2
    go_ret
    exact ⟨pX, pE2 HB.out Af.out Aj.out⟩
   rw [if_neg c21] at H
   have c21b0 : decide (((rd_T46 l0_1 Aa).f1.f0) ≤ a0_0) = false := decide_eq_false c21
   clear c21
   by_cases c29 : Aa > 0
   rotate_left
   ·rw [if_neg c29] at H
    have c29b0 : decide (0 < Aa) = false := decide_eq_false c29
    clear c29
    have H' := Am H
    clear H
    obtain ⟨_, _⟩ := bc2 Ad.out
    obtain ⟨_, _⟩ := bf2 Ad.out
    have p308 : 0 ≤ (Aa : Int) := of_decide_eq_true pS
    have q308 : Aa < (l0_1.length : Int) := of_decide_eq_true pS
    obtain ⟨Ag, e308, Al, An, Ao, Ap, Aq⟩ := at_T46u Ar.out Aa p308 q308 HB.out
    cases e308
    replace p308 := eq_true p308
    replace q308 := eq_true q308
    try go_wp2_with (first | ((with_reducible refine gate_dst (N := 4) rfl ?_); (try (refine gate_guard (by rfl) ?_; dsimp only)); refine box_event ?hg (N := 4) ?hd (cs := #[.int .i64 0, .int .i64 0, .int .i64 0, .int .i64 0, .int .u32 0]) (t := 46) ?hr ?_; (case hd => rfl); (case hg => rfl); (case hr => first | (go_simp; done) | (go_simp; rfl)); intro Ab hg w49 hbox hb; have Ac := Am (hbox); have Ak := Am ((by rw [hg]; exact (below_size (pE HB.out Af.out)) : w.heap.size ≤ Ab)); replace HB := Am (below_step (pE HB.out Af.out) hb); have Aj := Ak; have Ae := Am ((by rw [hg]; exact Nat.ne_of_lt (kL Ad.out) : Ai ≠ Ab)); have Ah := Am ((by rw [hg]; exact Nat.ne_of_gt (kL Ad.out) : Ab ≠ Ai)); replace Ad := kBa Ad hb; clear hb hbox hg; have hnb50 := Ah.out; have hnc50 := Ae.out; obtain ⟨_, _, _, _, _⟩ := bc5 Ac.out; obtain ⟨_, _, _, _, _⟩ := bf5 Ac.out))
    have n0_ : Aside0 ((((((w49.setCell ⟨Ab, 0, none⟩ (.int .i64 ((rd_T46 l0_1 Aa).f0))).setCell ⟨Ab, 1, none⟩ (.int .i64 ((rd_T46 l0_1 Aa).f1.f0))).setCell ⟨Ab, 2, none⟩ (.int .i64 ((rd_T46 l0_1 Aa).f1.f1))).setCell ⟨Ab, 3, none⟩ (.int .i64 ((rd_T46 l0_1 Aa).f1.f2))).setCell ⟨Ab, 4, none⟩ (.int .u32 ((rd_T46 l0_1 Aa).f1.f3))).heap[Ai]? = some (.cells #[.int .i64 a0_0, .slice (some Ag) l0_1.length c0_1] 29 (0, 0))) := ⟨kX1 Ad.out Ae.out⟩
    have n1_ : Aside0 ((((((w49.setCell ⟨Ab, 0, none⟩ (.int .i64 ((rd_T46 l0_1 Aa).f0))).setCell ⟨Ab, 1, none⟩ (.int .i64 ((rd_T46 l0_1 Aa).f1.f0))).setCell ⟨Ab, 2, none⟩ (.int .i64 ((rd_T46 l0_1 Aa).f1.f1))).setCell ⟨Ab, 3, none⟩ (.int .i64 ((rd_T46 l0_1 Aa).f1.f2))).setCell ⟨Ab, 4, none⟩ (.int .u32 ((rd_T46 l0_1 Aa).f1.f3))).heap[Ab]? = some (.cells #[.int .i64 ((rd_T46 l0_1 Aa).f0), .int .i64 ((rd_T46 l0_1 Aa).f1.f0), .int .i64 ((rd_T46 l0_1 Aa).f1.f1), .int .i64 ((rd_T46 l0_1 Aa).f1.f2), .int .u32 ((rd_T46 l0_1 Aa).f1.f3)] 46 (0, 0))) := ⟨kX0 Ac.out⟩
    have n2_ : Aside0 (Below w.heap.size w (((((w49.setCell ⟨Ab, 0, none⟩ (.int .i64 ((rd_T46 l0_1 Aa).f0))).setCell ⟨Ab, 1, none⟩ (.int .i64 ((rd_T46 l0_1 Aa).f1.f0))).setCell ⟨Ab, 2, none⟩ (.int .i64 ((rd_T46 l0_1 Aa).f1.f1))).setCell ⟨Ab, 3, none⟩ (.int .i64 ((rd_T46 l0_1 Aa).f1.f2))).setCell ⟨Ab, 4, none⟩ (.int .u32 ((rd_T46 l0_1 Aa).f1.f3)))) := ⟨pE2 HB.out Af.out Aj.out⟩
    (try clear Ad)
    (try clear Ac)
    (try clear HB)
    generalize (((((w49.setCell ⟨Ab, 0, none⟩ (.int .i64 ((rd_T46 l0_1 Aa).f0))).setCell ⟨Ab, 1, none⟩ (.int .i64 ((rd_T46 l0_1 Aa).f1.f0))).setCell ⟨Ab, 2, none⟩ (.int .i64 ((rd_T46 l0_1 Aa).f1.f1))).setCell ⟨Ab, 3, none⟩ (.int .i64 ((rd_T46 l0_1 Aa).f1.f2))).setCell ⟨Ab, 4, none⟩ (.int .u32 ((rd_T46 l0_1 Aa).f1.f3))) = w52 at n0_ n1_ n2_ ⊢
    have Ad := n0_
    have Ac := n1_
    have HB := n2_
    clear n0_ n1_ n2_
    replace Ad := kDa Ad
    replace Ac := kDa Ac
    replace HB := bDa HB
    refine start_ (n := 38) (S := fun w' => cG w' Ab 0 (.int .i64 ((rd_T46 l0_1 Aa).f0)) ∧ cG w' Ab 1 (.int .i64 ((rd_T46 l0_1 Aa).f1.f0)) ∧ cG w' Ab 2 (.int .i64 ((rd_T46 l0_1 Aa).f1.f1)) ∧ cG w' Ab 3 (.int .i64 ((rd_T46 l0_1 Aa).f1.f2)) ∧ cG w' Ab 4 (.int .u32 ((rd_T46 l0_1 Aa).f1.f3)) ∧ cG w' Ai 0 (.int .i64 a0_0) ∧ cG w' Ai 1 (.slice (some Ag) l0_1.length c0_1)) (ds := []) #[false, false, false, false, false, false, false, false, false, false, false, false, false, false, false, false, false, false, false, false, false, false, false, false, false, false, false, false, false, false, false, false, false, false, false, false, false, false] (by kernel_rfl) rfl rfl ⟨(blk_cell Ac.out 0).trans rfl, (blk_cell Ac.out 1).trans rfl, (blk_cell Ac.out 2).trans rfl, (blk_cell Ac.out 3).trans rfl, (blk_cell Ac.out 4).trans rfl, (blk_cell Ad.out 0).trans rfl, (blk_cell Ad.out 1).trans rfl⟩ (fun hHeld => ?_); refine with_tabW garnerref21_May.tab5 garnerref21_May.bits5 (fun HT_ HW_ => ?_)
    generalize w52.drew = w53 at Ad Ac HB hHeld ⊢
    refine pui 0 17 38 1 HT_ ?_
    refine tki 1 18 38 3 HT_ HW_ hHeld ?_
    refine pui 2 19 38 7 HT_ ?_
    refine pui 3 20 38 15 HT_ ?_
    refine pui 4 21 38 31 HT_ ?_
    refine tki 5 22 38 63 HT_ HW_ hHeld ?_
    refine pui 6 23 38 127 HT_ ?_
    refine pui 7 24 38 255 HT_ ?_
    refine pui 8 25 38 511 HT_ ?_
    refine pui 9 26 38 1023 HT_ ?_
    refine tki 10 27 38 2047 HT_ HW_ hHeld ?_
    refine onei 11 28 38 4095 HT_ (fun K hK => ?_)
    refine goes_ Try.func27 (by kernel_rfl) rfl #[.agg #[.int .i64 ((rd_T46 l0_1 Aa).f1.f0), .int .i64 ((rd_T46 l0_1 Aa).f1.f1), .int .i64 ((rd_T46 l0_1 Aa).f1.f2), .int .u32 ((rd_T46 l0_1 Aa).f1.f3)]] (by rfl) rfl rfl pL ?_
    with_reducible refine (garnerref04_May.calls ((rd_T46 l0_1 Aa).f1.f0) ((rd_T46 l0_1 Aa).f1.f1) ((rd_T46 l0_1 Aa).f1.f2) ((rd_T46 l0_1 Aa).f1.f3) true _ A19.out).mono ?_
    rintro e w54 ⟨rfl, hb⟩
    refine ⟨_, rfl, ?_⟩
    replace Ad := kBa Ad hb
    replace Ac := kBa Ac hb
    replace HB := Am (below_step (pE2 HB.out Af.out Aj.out) hb)
    (try clear hb)
    (try clear hb2)
    (try clear hk)
    (try clear hi)
    refine hK.out _ _ ⟨(blk_cell Ac.out 0).trans rfl, (blk_cell Ac.out 1).trans rfl, (blk_cell Ac.out 2).trans rfl, (blk_cell Ac.out 3).trans rfl, (blk_cell Ac.out 4).trans rfl, (blk_cell Ad.out 0).trans rfl, (blk_cell Ad.out 1).trans rfl⟩ (fun hHeld => ?_)
    clear hK K
    refine norm_ (a' := ?_) ?_ ?_
    rotate_left
    ·show Act.put _ (some 28) _ = _
     simp only [Act.put, List.setIfInBounds_toArray, List.set_cons_zero, List.set_cons_succ, i64_w, i32_w]
     rfl
    refine pui 12 29 38 8191 HT_ ?_
    refine pui 13 30 38 16383 HT_ ?_
    refine pui 14 31 38 32767 HT_ ?_
    refine pui 15 32 38 65535 HT_ ?_
    refine pui 16 33 38 131071 HT_ ?_
    refine pui 18 35 38 393215 HT_ ?_
    refine tki 17 34 38 524287 HT_ HW_ hHeld ?_
    refine tki 19 36 38 1048575 HT_ HW_ hHeld ?_
    refine pui 20 37 38 2097151 HT_ ?_
    refine pui 21 38 38 4194303 HT_ ?_
    refine pui 22 39 38 8388607 HT_ ?_
    refine pui 23 40 38 16777215 HT_ ?_
    refine pui 24 41 38 33554431 HT_ ?_
    refine pui 25 42 38 67108863 HT_ ?_
    refine pdi 26 43 38 134217727 HT_ ?_
    refine pdi 27 44 38 268435455 HT_ ?_
    refine pdi 28 45 38 536870911 HT_ ?_
    refine pdi 29 46 38 1073741823 HT_ ?_
    refine pdi 30 47 38 2147483647 HT_ ?_
    refine pdi 31 48 38 4294967295 HT_ ?_
    refine pdi 32 49 38 8589934591 HT_ ?_
    refine pdi 33 50 38 17179869183 HT_ ?_
    refine pdi 34 51 38 34359738367 HT_ ?_
    refine pdi 35 52 38 68719476735 HT_ ?_
    refine pui 36 53 38 137438953471 HT_ ?_
    refine pui 37 54 38 274877906943 HT_ ?_
    refine done_ (done_of HT_.out (by kernel_rfl)) ?_
    try go_wp2
    go_roundg k1
    case measure => have := HK1.out; omega
    case rel => exact ⟨(wrap64 (Aa + 1)), (by first | rfl | (simp; done) | (simp [*]; done)), H', ⟨by have := HK1.out; omega⟩, ⟨pK Ad.out⟩, ⟨pE2 HB.out Af.out Aj.out⟩⟩
   rw [if_pos c29] at H
   have c29b0 : decide (0 < Aa) = true := decide_eq_true c29
   clear c29
   obtain ⟨ji30, hji30⟩ : ∃ j_ : Int, (wrap64 (Aa - 1)) = j_ := ⟨_, rfl⟩
   replace H : (if 0 ≤ (ji30) then (if (ji30) < (l0_1.length : Int) then (if ((rd_T46 l0_1 Aa).f0) ≤ ((rd_T46 l0_1 (ji30)).f0) then (some false) else (garnerref21_May.l0 k1 (wrap64 (Aa + 1)) a0_0 l0_1)) else (none)) else (none)) = some r := by first | (rw [hji30] at H; exact H) | (simp only [hji30] at H ⊢; exact H)
   (try rw [hji30] at A19)
   have hji30w : (IntKind.i64.wrap (Aa - 1)) = ji30 := (i64_w _).trans hji30
   by_cases c31 : 0 ≤ (ji30)
   rotate_left
   ·rw [if_neg c31] at H
    exact absurd H (by simp)
   rw [if_pos c31] at H
   have c31b0 : decide (0 ≤ (ji30)) = true := decide_eq_true c31
   clear c31
   by_cases c32 : (ji30) < (l0_1.length : Int)
   rotate_left
   ·rw [if_neg c32] at H
    exact absurd H (by simp)
   rw [if_pos c32] at H
   have c32b0 : decide ((ji30) < (l0_1.length : Int)) = true := decide_eq_true c32
   clear c32
   by_cases c33 : ((rd_T46 l0_1 Aa).f0) ≤ ((rd_T46 l0_1 (ji30)).f0)
   ·rw [if_pos c33] at H
    have c33b0 : decide (((rd_T46 l0_1 Aa).f0) ≤ ((rd_T46 l0_1 (ji30)).f0)) = true := decide_eq_true c33
    clear c33
    obtain rfl := Option.some.inj H
    obtain ⟨_, _⟩ := bc2 Ad.out
    obtain ⟨_, _⟩ := bf2 Ad.out
    have p308 : 0 ≤ (Aa : Int) := of_decide_eq_true pS
    have q308 : Aa < (l0_1.length : Int) := of_decide_eq_true pS
    obtain ⟨Ag, e308, Al, An, Ao, Ap, Aq⟩ := at_T46u Ar.out Aa p308 q308 HB.out
    cases e308
    replace p308 := eq_true p308
    replace q308 := eq_true q308
    try go_wp2_with (first | ((with_reducible refine gate_dst (N := 4) rfl ?_); (try (refine gate_guard (by rfl) ?_; dsimp only)); refine box_event ?hg (N := 4) ?hd (cs := #[.int .i64 0, .int .i64 0, .int .i64 0, .int .i64 0, .int .u32 0]) (t := 46) ?hr ?_; (case hd => rfl); (case hg => rfl); (case hr => first | (go_simp; done) | (go_simp; rfl)); intro Ab hg w35 hbox hb; have Ac := Am (hbox); have Ak := Am ((by rw [hg]; exact (below_size (pE HB.out Af.out)) : w.heap.size ≤ Ab)); replace HB := Am (below_step (pE HB.out Af.out) hb); have Aj := Ak; have Ae := Am ((by rw [hg]; exact Nat.ne_of_lt (kL Ad.out) : Ai ≠ Ab)); have Ah := Am ((by rw [hg]; exact Nat.ne_of_gt (kL Ad.out) : Ab ≠ Ai)); replace Ad := kBa Ad hb; clear hb hbox hg; have hnb36 := Ah.out; have hnc36 := Ae.out; obtain ⟨_, _, _, _, _⟩ := bc5 Ac.out; obtain ⟨_, _, _, _, _⟩ := bf5 Ac.out))
    have n0_ : Aside0 ((((((w35.setCell ⟨Ab, 0, none⟩ (.int .i64 ((rd_T46 l0_1 Aa).f0))).setCell ⟨Ab, 1, none⟩ (.int .i64 ((rd_T46 l0_1 Aa).f1.f0))).setCell ⟨Ab, 2, none⟩ (.int .i64 ((rd_T46 l0_1 Aa).f1.f1))).setCell ⟨Ab, 3, none⟩ (.int .i64 ((rd_T46 l0_1 Aa).f1.f2))).setCell ⟨Ab, 4, none⟩ (.int .u32 ((rd_T46 l0_1 Aa).f1.f3))).heap[Ai]? = some (.cells #[.int .i64 a0_0, .slice (some Ag) l0_1.length c0_1] 29 (0, 0))) := ⟨kX1 Ad.out Ae.out⟩
    have n1_ : Aside0 ((((((w35.setCell ⟨Ab, 0, none⟩ (.int .i64 ((rd_T46 l0_1 Aa).f0))).setCell ⟨Ab, 1, none⟩ (.int .i64 ((rd_T46 l0_1 Aa).f1.f0))).setCell ⟨Ab, 2, none⟩ (.int .i64 ((rd_T46 l0_1 Aa).f1.f1))).setCell ⟨Ab, 3, none⟩ (.int .i64 ((rd_T46 l0_1 Aa).f1.f2))).setCell ⟨Ab, 4, none⟩ (.int .u32 ((rd_T46 l0_1 Aa).f1.f3))).heap[Ab]? = some (.cells #[.int .i64 ((rd_T46 l0_1 Aa).f0), .int .i64 ((rd_T46 l0_1 Aa).f1.f0), .int .i64 ((rd_T46 l0_1 Aa).f1.f1), .int .i64 ((rd_T46 l0_1 Aa).f1.f2), .int .u32 ((rd_T46 l0_1 Aa).f1.f3)] 46 (0, 0))) := ⟨kX0 Ac.out⟩
    have n2_ : Aside0 (Below w.heap.size w (((((w35.setCell ⟨Ab, 0, none⟩ (.int .i64 ((rd_T46 l0_1 Aa).f0))).setCell ⟨Ab, 1, none⟩ (.int .i64 ((rd_T46 l0_1 Aa).f1.f0))).setCell ⟨Ab, 2, none⟩ (.int .i64 ((rd_T46 l0_1 Aa).f1.f1))).setCell ⟨Ab, 3, none⟩ (.int .i64 ((rd_T46 l0_1 Aa).f1.f2))).setCell ⟨Ab, 4, none⟩ (.int .u32 ((rd_T46 l0_1 Aa).f1.f3)))) := ⟨pE2 HB.out Af.out Aj.out⟩
    (try clear Ad)
    (try clear Ac)
    (try clear HB)
    generalize (((((w35.setCell ⟨Ab, 0, none⟩ (.int .i64 ((rd_T46 l0_1 Aa).f0))).setCell ⟨Ab, 1, none⟩ (.int .i64 ((rd_T46 l0_1 Aa).f1.f0))).setCell ⟨Ab, 2, none⟩ (.int .i64 ((rd_T46 l0_1 Aa).f1.f1))).setCell ⟨Ab, 3, none⟩ (.int .i64 ((rd_T46 l0_1 Aa).f1.f2))).setCell ⟨Ab, 4, none⟩ (.int .u32 ((rd_T46 l0_1 Aa).f1.f3))) = w38 at n0_ n1_ n2_ ⊢
    have Ad := n0_
    have Ac := n1_
    have HB := n2_
    clear n0_ n1_ n2_
    replace Ad := kDa Ad
    replace Ac := kDa Ac
    replace HB := bDa HB
    have p311 : 0 ≤ ((ji30) : Int) := of_decide_eq_true pS
    have q311 : (ji30) < (l0_1.length : Int) := of_decide_eq_true pS
    obtain ⟨A2, e311, Ax, Ay, Az, A0, A1, As, At, Au, Av, Aw⟩ := at_T46w Ar.out (ji30) p311 q311 HB.out
    obtain rfl : Ag = A2 := (by injection e311)
    replace p311 := eq_true p311
    replace q311 := eq_true q311
    refine start_ (n := 38) (S := fun w' => cG w' Ab 0 (.int .i64 ((rd_T46 l0_1 Aa).f0)) ∧ cG w' Ab 1 (.int .i64 ((rd_T46 l0_1 Aa).f1.f0)) ∧ cG w' Ab 2 (.int .i64 ((rd_T46 l0_1 Aa).f1.f1)) ∧ cG w' Ab 3 (.int .i64 ((rd_T46 l0_1 Aa).f1.f2)) ∧ cG w' Ab 4 (.int .u32 ((rd_T46 l0_1 Aa).f1.f3)) ∧ cG w' Ai 0 (.int .i64 a0_0) ∧ cG w' Ai 1 (.slice (some Ag) l0_1.length c0_1) ∧ w'.cell? (Ag.add (((ji30)).toNat * 5)) = some (.int .i64 ((rd_T46 l0_1 (ji30)).f0)) ∧ w'.cell? ⟨(Ag.add (((ji30)).toNat * 5)).block, (Ag.add (((ji30)).toNat * 5)).off + 1, none⟩ = some (.int .i64 ((rd_T46 l0_1 (ji30)).f1.f0)) ∧ w'.cell? ⟨(Ag.add (((ji30)).toNat * 5)).block, (Ag.add (((ji30)).toNat * 5)).off + 2, none⟩ = some (.int .i64 ((rd_T46 l0_1 (ji30)).f1.f1)) ∧ w'.cell? ⟨(Ag.add (((ji30)).toNat * 5)).block, (Ag.add (((ji30)).toNat * 5)).off + 3, none⟩ = some (.int .i64 ((rd_T46 l0_1 (ji30)).f1.f2)) ∧ w'.cell? ⟨(Ag.add (((ji30)).toNat * 5)).block, (Ag.add (((ji30)).toNat * 5)).off + 4, none⟩ = some (.int .u32 ((rd_T46 l0_1 (ji30)).f1.f3))) (ds := []) #[false, false, false, false, false, false, false, false, false, false, false, false, false, false, false, false, false, false, false, false, false, false, false, false, false, false, false, false, false, false, false, false, false, false, false, false, false, false] (by kernel_rfl) rfl rfl ⟨(blk_cell Ac.out 0).trans rfl, (blk_cell Ac.out 1).trans rfl, (blk_cell Ac.out 2).trans rfl, (blk_cell Ac.out 3).trans rfl, (blk_cell Ac.out 4).trans rfl, (blk_cell Ad.out 0).trans rfl, (blk_cell Ad.out 1).trans rfl, (cT HB.out As), (cT HB.out At), (cT HB.out Au), (cT HB.out Av), (cT HB.out Aw)⟩ (fun hHeld => ?_); refine with_tabW garnerref21_May.tab5 garnerref21_May.bits5 (fun HT_ HW_ => ?_)
    generalize w38.drew = w39 at Ad Ac HB Ax Ay Az A0 A1 hHeld ⊢
    refine pui 0 17 38 1 HT_ ?_
    refine tki 1 18 38 3 HT_ HW_ hHeld ?_
    refine pui 2 19 38 7 HT_ ?_
    refine pui 3 20 38 15 HT_ ?_
    refine pui 4 21 38 31 HT_ ?_
    refine tki 5 22 38 63 HT_ HW_ hHeld ?_
    refine pui 6 23 38 127 HT_ ?_
    refine pui 7 24 38 255 HT_ ?_
    refine pui 8 25 38 511 HT_ ?_
    refine pui 9 26 38 1023 HT_ ?_
    refine tki 10 27 38 2047 HT_ HW_ hHeld ?_
    refine onei 11 28 38 4095 HT_ (fun K hK => ?_)
    refine goes_ Try.func27 (by kernel_rfl) rfl #[.agg #[.int .i64 ((rd_T46 l0_1 Aa).f1.f0), .int .i64 ((rd_T46 l0_1 Aa).f1.f1), .int .i64 ((rd_T46 l0_1 Aa).f1.f2), .int .u32 ((rd_T46 l0_1 Aa).f1.f3)]] (by rfl) rfl rfl pL ?_
    with_reducible refine (garnerref04_May.calls ((rd_T46 l0_1 Aa).f1.f0) ((rd_T46 l0_1 Aa).f1.f1) ((rd_T46 l0_1 Aa).f1.f2) ((rd_T46 l0_1 Aa).f1.f3) true _ A19.out).mono ?_
    rintro e w40 ⟨rfl, hb⟩
    refine ⟨_, rfl, ?_⟩
    replace Ad := kBa Ad hb
    replace Ac := kBa Ac hb
    replace HB := Am (below_step (pE2 HB.out Af.out Aj.out) hb)
    (try clear hb)
    (try clear hb2)
    (try clear hk)
    (try clear hi)
    refine hK.out _ _ ⟨(blk_cell Ac.out 0).trans rfl, (blk_cell Ac.out 1).trans rfl, (blk_cell Ac.out 2).trans rfl, (blk_cell Ac.out 3).trans rfl, (blk_cell Ac.out 4).trans rfl, (blk_cell Ad.out 0).trans rfl, (blk_cell Ad.out 1).trans rfl, (cT HB.out As), (cT HB.out At), (cT HB.out Au), (cT HB.out Av), (cT HB.out Aw)⟩ (fun hHeld => ?_)
    clear hK K
    refine norm_ (a' := ?_) ?_ ?_
    rotate_left
    ·show Act.put _ (some 28) _ = _
     simp only [Act.put, List.setIfInBounds_toArray, List.set_cons_zero, List.set_cons_succ, i64_w, i32_w]
     rfl
    refine pui 12 29 38 8191 HT_ ?_
    refine pui 13 30 38 16383 HT_ ?_
    refine pui 14 31 38 32767 HT_ ?_
    refine pui 15 32 38 65535 HT_ ?_
    refine pui 16 33 38 131071 HT_ ?_
    refine pui 18 35 38 393215 HT_ ?_
    refine tki 17 34 38 524287 HT_ HW_ hHeld ?_
    refine tki 19 36 38 1048575 HT_ HW_ hHeld ?_
    refine pui 20 37 38 2097151 HT_ ?_
    refine pui 21 38 38 4194303 HT_ ?_
    refine pui 22 39 38 8388607 HT_ ?_
    refine pui 23 40 38 16777215 HT_ ?_
    refine pui 24 41 38 33554431 HT_ ?_
    refine pui 25 42 38 67108863 HT_ ?_
    refine pui 26 43 38 134217727 HT_ ?_
    refine pui 28 45 38 402653183 HT_ ?_
    refine pui 30 47 38 1476395007 HT_ ?_
    refine pui 31 48 38 3623878655 HT_ ?_
    refine tki 27 44 38 3758096383 HT_ HW_ hHeld ?_
    refine tki 29 46 38 4294967295 HT_ HW_ hHeld ?_
    refine pui 32 49 38 8589934591 HT_ ?_
    refine pui 33 50 38 17179869183 HT_ ?_
    refine tki 34 51 38 34359738367 HT_ HW_ hHeld ?_
    refine pui 35 52 38 68719476735 HT_ ?_
    refine pui 36 53 38 137438953471 HT_ ?_
    refine pui 37 54 38 274877906943 HT_ ?_
    refine done_ (done_of HT_.out (by kernel_rfl)) ?_
    try go_wp2
    go_ret
    exact ⟨by first | rfl | (simp [errW_none, errW_some] <;> rfl) | (simp only [← hji30]; first | rfl | (simp [errW_none, errW_some] <;> rfl)) | (simp [*, errW_none, errW_some] <;> rfl), pE2 HB.out Af.out Aj.out⟩
   rw [if_neg c33] at H
   have c33b0 : decide (((rd_T46 l0_1 Aa).f0) ≤ ((rd_T46 l0_1 (ji30)).f0)) = false := decide_eq_false c33
   clear c33
   have H' := Am H
   clear H
   obtain ⟨_, _⟩ := bc2 Ad.out
   obtain ⟨_, _⟩ := bf2 Ad.out
   have p308 : 0 ≤ (Aa : Int) := of_decide_eq_true pS
   have q308 : Aa < (l0_1.length : Int) := of_decide_eq_true pS
   obtain ⟨Ag, e308, Al, An, Ao, Ap, Aq⟩ := at_T46u Ar.out Aa p308 q308 HB.out
   cases e308
   replace p308 := eq_true p308
   replace q308 := eq_true q308
   try go_wp2_with (first | ((with_reducible refine gate_dst (N := 4) rfl ?_); (try (refine gate_guard (by rfl) ?_; dsimp only)); refine box_event ?hg (N := 4) ?hd (cs := #[.int .i64 0, .int .i64 0, .int .i64 0, .int .i64 0, .int .u32 0]) (t := 46) ?hr ?_; (case hd => rfl); (case hg => rfl); (case hr => first | (go_simp; done) | (go_simp; rfl)); intro Ab hg w42 hbox hb; have Ac := Am (hbox); have Ak := Am ((by rw [hg]; exact (below_size (pE HB.out Af.out)) : w.heap.size ≤ Ab)); replace HB := Am (below_step (pE HB.out Af.out) hb); have Aj := Ak; have Ae := Am ((by rw [hg]; exact Nat.ne_of_lt (kL Ad.out) : Ai ≠ Ab)); have Ah := Am ((by rw [hg]; exact Nat.ne_of_gt (kL Ad.out) : Ab ≠ Ai)); replace Ad := kBa Ad hb; clear hb hbox hg; have hnb43 := Ah.out; have hnc43 := Ae.out; obtain ⟨_, _, _, _, _⟩ := bc5 Ac.out; obtain ⟨_, _, _, _, _⟩ := bf5 Ac.out))
   have n0_ : Aside0 ((((((w42.setCell ⟨Ab, 0, none⟩ (.int .i64 ((rd_T46 l0_1 Aa).f0))).setCell ⟨Ab, 1, none⟩ (.int .i64 ((rd_T46 l0_1 Aa).f1.f0))).setCell ⟨Ab, 2, none⟩ (.int .i64 ((rd_T46 l0_1 Aa).f1.f1))).setCell ⟨Ab, 3, none⟩ (.int .i64 ((rd_T46 l0_1 Aa).f1.f2))).setCell ⟨Ab, 4, none⟩ (.int .u32 ((rd_T46 l0_1 Aa).f1.f3))).heap[Ai]? = some (.cells #[.int .i64 a0_0, .slice (some Ag) l0_1.length c0_1] 29 (0, 0))) := ⟨kX1 Ad.out Ae.out⟩
   have n1_ : Aside0 ((((((w42.setCell ⟨Ab, 0, none⟩ (.int .i64 ((rd_T46 l0_1 Aa).f0))).setCell ⟨Ab, 1, none⟩ (.int .i64 ((rd_T46 l0_1 Aa).f1.f0))).setCell ⟨Ab, 2, none⟩ (.int .i64 ((rd_T46 l0_1 Aa).f1.f1))).setCell ⟨Ab, 3, none⟩ (.int .i64 ((rd_T46 l0_1 Aa).f1.f2))).setCell ⟨Ab, 4, none⟩ (.int .u32 ((rd_T46 l0_1 Aa).f1.f3))).heap[Ab]? = some (.cells #[.int .i64 ((rd_T46 l0_1 Aa).f0), .int .i64 ((rd_T46 l0_1 Aa).f1.f0), .int .i64 ((rd_T46 l0_1 Aa).f1.f1), .int .i64 ((rd_T46 l0_1 Aa).f1.f2), .int .u32 ((rd_T46 l0_1 Aa).f1.f3)] 46 (0, 0))) := ⟨kX0 Ac.out⟩
   have n2_ : Aside0 (Below w.heap.size w (((((w42.setCell ⟨Ab, 0, none⟩ (.int .i64 ((rd_T46 l0_1 Aa).f0))).setCell ⟨Ab, 1, none⟩ (.int .i64 ((rd_T46 l0_1 Aa).f1.f0))).setCell ⟨Ab, 2, none⟩ (.int .i64 ((rd_T46 l0_1 Aa).f1.f1))).setCell ⟨Ab, 3, none⟩ (.int .i64 ((rd_T46 l0_1 Aa).f1.f2))).setCell ⟨Ab, 4, none⟩ (.int .u32 ((rd_T46 l0_1 Aa).f1.f3)))) := ⟨pE2 HB.out Af.out Aj.out⟩
   (try clear Ad)
   (try clear Ac)
   (try clear HB)
   generalize (((((w42.setCell ⟨Ab, 0, none⟩ (.int .i64 ((rd_T46 l0_1 Aa).f0))).setCell ⟨Ab, 1, none⟩ (.int .i64 ((rd_T46 l0_1 Aa).f1.f0))).setCell ⟨Ab, 2, none⟩ (.int .i64 ((rd_T46 l0_1 Aa).f1.f1))).setCell ⟨Ab, 3, none⟩ (.int .i64 ((rd_T46 l0_1 Aa).f1.f2))).setCell ⟨Ab, 4, none⟩ (.int .u32 ((rd_T46 l0_1 Aa).f1.f3))) = w45 at n0_ n1_ n2_ ⊢
   have Ad := n0_
   have Ac := n1_
   have HB := n2_
   clear n0_ n1_ n2_
   replace Ad := kDa Ad
   replace Ac := kDa Ac
   replace HB := bDa HB
   have p311 : 0 ≤ ((ji30) : Int) := of_decide_eq_true pS
   have q311 : (ji30) < (l0_1.length : Int) := of_decide_eq_true pS
   obtain ⟨A2, e311, Ax, Ay, Az, A0, A1, As, At, Au, Av, Aw⟩ := at_T46w Ar.out (ji30) p311 q311 HB.out
   obtain rfl : Ag = A2 := (by injection e311)
   replace p311 := eq_true p311
   replace q311 := eq_true q311
   refine start_ (n := 38) (S := fun w' => cG w' Ab 0 (.int .i64 ((rd_T46 l0_1 Aa).f0)) ∧ cG w' Ab 1 (.int .i64 ((rd_T46 l0_1 Aa).f1.f0)) ∧ cG w' Ab 2 (.int .i64 ((rd_T46 l0_1 Aa).f1.f1)) ∧ cG w' Ab 3 (.int .i64 ((rd_T46 l0_1 Aa).f1.f2)) ∧ cG w' Ab 4 (.int .u32 ((rd_T46 l0_1 Aa).f1.f3)) ∧ cG w' Ai 0 (.int .i64 a0_0) ∧ cG w' Ai 1 (.slice (some Ag) l0_1.length c0_1) ∧ w'.cell? (Ag.add (((ji30)).toNat * 5)) = some (.int .i64 ((rd_T46 l0_1 (ji30)).f0)) ∧ w'.cell? ⟨(Ag.add (((ji30)).toNat * 5)).block, (Ag.add (((ji30)).toNat * 5)).off + 1, none⟩ = some (.int .i64 ((rd_T46 l0_1 (ji30)).f1.f0)) ∧ w'.cell? ⟨(Ag.add (((ji30)).toNat * 5)).block, (Ag.add (((ji30)).toNat * 5)).off + 2, none⟩ = some (.int .i64 ((rd_T46 l0_1 (ji30)).f1.f1)) ∧ w'.cell? ⟨(Ag.add (((ji30)).toNat * 5)).block, (Ag.add (((ji30)).toNat * 5)).off + 3, none⟩ = some (.int .i64 ((rd_T46 l0_1 (ji30)).f1.f2)) ∧ w'.cell? ⟨(Ag.add (((ji30)).toNat * 5)).block, (Ag.add (((ji30)).toNat * 5)).off + 4, none⟩ = some (.int .u32 ((rd_T46 l0_1 (ji30)).f1.f3))) (ds := []) #[false, false, false, false, false, false, false, false, false, false, false, false, false, false, false, false, false, false, false, false, false, false, false, false, false, false, false, false, false, false, false, false, false, false, false, false, false, false] (by kernel_rfl) rfl rfl ⟨(blk_cell Ac.out 0).trans rfl, (blk_cell Ac.out 1).trans rfl, (blk_cell Ac.out 2).trans rfl, (blk_cell Ac.out 3).trans rfl, (blk_cell Ac.out 4).trans rfl, (blk_cell Ad.out 0).trans rfl, (blk_cell Ad.out 1).trans rfl, (cT HB.out As), (cT HB.out At), (cT HB.out Au), (cT HB.out Av), (cT HB.out Aw)⟩ (fun hHeld => ?_); refine with_tabW garnerref21_May.tab5 garnerref21_May.bits5 (fun HT_ HW_ => ?_)
   generalize w45.drew = w46 at Ad Ac HB Ax Ay Az A0 A1 hHeld ⊢
   refine pui 0 17 38 1 HT_ ?_
   refine tki 1 18 38 3 HT_ HW_ hHeld ?_
   refine pui 2 19 38 7 HT_ ?_
   refine pui 3 20 38 15 HT_ ?_
   refine pui 4 21 38 31 HT_ ?_
   refine tki 5 22 38 63 HT_ HW_ hHeld ?_
   refine pui 6 23 38 127 HT_ ?_
   refine pui 7 24 38 255 HT_ ?_
   refine pui 8 25 38 511 HT_ ?_
   refine pui 9 26 38 1023 HT_ ?_
   refine tki 10 27 38 2047 HT_ HW_ hHeld ?_
   refine onei 11 28 38 4095 HT_ (fun K hK => ?_)
   refine goes_ Try.func27 (by kernel_rfl) rfl #[.agg #[.int .i64 ((rd_T46 l0_1 Aa).f1.f0), .int .i64 ((rd_T46 l0_1 Aa).f1.f1), .int .i64 ((rd_T46 l0_1 Aa).f1.f2), .int .u32 ((rd_T46 l0_1 Aa).f1.f3)]] (by rfl) rfl rfl pL ?_
   with_reducible refine (garnerref04_May.calls ((rd_T46 l0_1 Aa).f1.f0) ((rd_T46 l0_1 Aa).f1.f1) ((rd_T46 l0_1 Aa).f1.f2) ((rd_T46 l0_1 Aa).f1.f3) true _ A19.out).mono ?_
   rintro e w47 ⟨rfl, hb⟩
   refine ⟨_, rfl, ?_⟩
   replace Ad := kBa Ad hb
   replace Ac := kBa Ac hb
   replace HB := Am (below_step (pE2 HB.out Af.out Aj.out) hb)
   (try clear hb)
   (try clear hb2)
   (try clear hk)
   (try clear hi)
   refine hK.out _ _ ⟨(blk_cell Ac.out 0).trans rfl, (blk_cell Ac.out 1).trans rfl, (blk_cell Ac.out 2).trans rfl, (blk_cell Ac.out 3).trans rfl, (blk_cell Ac.out 4).trans rfl, (blk_cell Ad.out 0).trans rfl, (blk_cell Ad.out 1).trans rfl, (cT HB.out As), (cT HB.out At), (cT HB.out Au), (cT HB.out Av), (cT HB.out Aw)⟩ (fun hHeld => ?_)
   clear hK K
   refine norm_ (a' := ?_) ?_ ?_
   rotate_left
   ·show Act.put _ (some 28) _ = _
    simp only [Act.put, List.setIfInBounds_toArray, List.set_cons_zero, List.set_cons_succ, i64_w, i32_w]
    rfl
   refine pui 12 29 38 8191 HT_ ?_
   refine pui 13 30 38 16383 HT_ ?_
   refine pui 14 31 38 32767 HT_ ?_
   refine pui 15 32 38 65535 HT_ ?_
   refine pui 16 33 38 131071 HT_ ?_
   refine pui 18 35 38 393215 HT_ ?_
   refine tki 17 34 38 524287 HT_ HW_ hHeld ?_
   refine tki 19 36 38 1048575 HT_ HW_ hHeld ?_
   refine pui 20 37 38 2097151 HT_ ?_
   refine pui 21 38 38 4194303 HT_ ?_
   refine pui 22 39 38 8388607 HT_ ?_
   refine pui 23 40 38 16777215 HT_ ?_
   refine pui 24 41 38 33554431 HT_ ?_
   refine pui 25 42 38 67108863 HT_ ?_
   refine pui 26 43 38 134217727 HT_ ?_
   refine pui 28 45 38 402653183 HT_ ?_
   refine pui 30 47 38 1476395007 HT_ ?_
   refine pui 31 48 38 3623878655 HT_ ?_
   refine tki 27 44 38 3758096383 HT_ HW_ hHeld ?_
   refine tki 29 46 38 4294967295 HT_ HW_ hHeld ?_
   refine pui 32 49 38 8589934591 HT_ ?_
   refine pui 33 50 38 17179869183 HT_ ?_
   refine tki 34 51 38 34359738367 HT_ HW_ hHeld ?_
   refine pui 35 52 38 68719476735 HT_ ?_
   refine pui 36 53 38 137438953471 HT_ ?_
   refine pui 37 54 38 274877906943 HT_ ?_
   refine done_ (done_of HT_.out (by kernel_rfl)) ?_
   try go_wp2
   go_roundg k1
   case measure => have := HK1.out; omega
   case rel => exact ⟨(wrap64 (Aa + 1)), (by first | rfl | (simp; done) | (simp [*]; done)), H', ⟨by have := HK1.out; omega⟩, ⟨pK Ad.out⟩, ⟨pE2 HB.out Af.out Aj.out⟩⟩
end Go.Proofs.Ytjebpaahpehfnaa.PRelayPuts
