/- What the law reaches, as plain Lean functions, and that the machine's calls answer just that. -/
import Derived.Test.YtinldhpdfomcjaaPRaftPartsx0
import Derived.Test.YtinldhpdfomcjaaPRaftPartsx3
namespace Go.Proofs.Ytinldhpdfomcjaa.PRaftParts
open Go.RowKit Go.Proofs.YtinldhpdfomcjaaW.PrintWords Go.Proofs.YtinldhpdfomcjaaW.PrintLast Go.Proofs.YtinldhpdfomcjaaW.PrintMore
attribute [local go_sem] max2_int min2_int max_two min_two max_three min_three max_four min_four
set_option linter.unusedVariables false
set_option linter.unusedSimpArgs false
attribute [local go_sem] wrap64_l1 wrap64_l2 wrap64_l3 wrap64_l4 wrap64_l5
def raft_rows.l0 : Nat → List (S46) → List (S46) → Int → Int → Option (Bool)
 | 0, _, _, _, _ => none
 | k + 1, x0, x5, x6, x7 => if x7 < x6 then (if 0 ≤ x7 then (if x7 < (x5.length : Int) then ((raft_counts.f ((rd_T46 x5 x7).f0)).bind fun t107 => (if t107 = true then ((raft_counts.f ((rd_T46 x5 x7).f1)).bind fun t108 => (if t108 = true then (if x7 > 0 then (if 0 ≤ (wrap64 (x7 - 1)) then (if (wrap64 (x7 - 1)) < (x0.length : Int) then (if (wrap64 (((rd_T46 x5 x7).f0) - 1)) = ((rd_T46 x0 (wrap64 (x7 - 1))).f0) then (if ((rd_T46 x5 x7).f1) < ((rd_T46 x0 (wrap64 (x7 - 1))).f1) then (some false) else (raft_rows.l0 k x0 x5 x6 (wrap64 (x7 + 1)))) else (some false)) else (none)) else (none)) else (raft_rows.l0 k x0 x5 x6 (wrap64 (x7 + 1)))) else (some false))) else (some false))) else (none)) else (none)) else (some true)
def raft_rows.f (k : Nat) (l0 : List (S46)) : Option (Bool) := raft_rows.l0 k l0 l0 (l0.length : Int) 0
theorem raft_rows.mono_l : ∀ k, (∀ y0 y1 y2 y3, LeO (raft_rows.l0 k y0 y1 y2 y3) (raft_rows.l0 (k + 1) y0 y1 y2 y3))
 | 0 => fun _ _ _ _ r h => by simp [raft_rows.l0] at h
 | k + 1 => by
  have ih0 := raft_rows.mono_l k
  ·intro y0 y1 y2 y3
   unfold raft_rows.l0
   repeat' first
   | (with_reducible exact ih0 _ _ _ _)
   | (with_reducible exact LeO.refl _)
   | (with_reducible exact LeO.none _)
   | (with_reducible refine LeO.ite ?_ ?_)
   | (with_reducible refine LeO.bind ?_ (fun _ => ?_))
   | exact ih0 _ _ _ _
   | exact LeO.none _
   | refine LeO.ite ?_ ?_
   | refine LeO.bind ?_ (fun _ => ?_)
theorem raft_rows.mono : ∀ a0 k, LeO (raft_rows.f k a0) (raft_rows.f (k + 1) a0) := by
 intro a0 k
 have ih0 := raft_rows.mono_l k
 unfold raft_rows.f
 repeat' first
   | (with_reducible exact ih0 _ _ _ _)
   | (with_reducible exact LeO.refl _)
   | (with_reducible exact LeO.none _)
   | (with_reducible refine LeO.ite ?_ ?_)
   | (with_reducible refine LeO.bind ?_ (fun _ => ?_))
   | exact ih0 _ _ _ _
   | exact LeO.none _
   | refine LeO.ite ?_ ?_
   | refine LeO.bind ?_ (fun _ => ?_)
def raft_rows.T4 : Bool × List (List Nat × List Nat) := (true, [([], []), ([0], [0]), ([1], [1]), ([2], [2]), ([3, 2], [3]), ([4], [4]), ([5, 4], [4, 5]), ([6, 4, 4], [4, 6]), ([7, 4], [4, 7]), ([4, 8], [4, 8]), ([9, 7], [9]), ([10], [10]), ([11, 10], [10, 11]), ([12, 10, 10], [10, 12]), ([13], [13]), ([14, 13], [13, 14]), ([15, 13], [13, 15]), ([13], [13]), ([13], [13]), ([18, 13], [13, 18]), ([17, 19, 13], [13, 17, 19]), ([20, 13], [13, 20]), ([21, 13], [13, 21]), ([16, 22, 13], [13, 16, 22]), ([23, 13, 13], [13, 23]), ([24], [24]), ([25, 24], [24, 25]), ([24], [24]), ([24], [24]), ([28, 24], [24, 28]), ([27, 29, 24], [24, 27, 29]), ([30, 24], [24, 30]), ([31, 24], [24, 31]), ([26, 32, 24], [24, 26, 32]), ([24, 33, 13], [13, 24, 33]), ([13, 34, 10], [10, 13, 34]), ([10, 35], [10, 35])])
def raft_rows.B4 : List Nat := [0, 1, 3, 7, 15, 31, 63, 127, 255, 511, 1023, 2047, 4095, 8191, 16383, 32767, 65535, 16383, 16383, 278527, 933887, 1982463, 4079615, 8388607, 16777215, 33554431, 67108863, 33554431, 33554431, 301989887, 973078527, 2046820351, 4194303999, 8589934591, 17179869183, 34359738367, 68719476735]
theorem raft_rows.tab4 : rtab .any (opsOf Try.f26 4) = raft_rows.T4 := by kernel_rfl
theorem raft_rows.bits4 : waitsOk raft_rows.T4.2 raft_rows.B4 = true := by kernel_rfl
set_option maxHeartbeats 8000000 in
set_option maxRecDepth 100000 in
theorem raft_rows.calls (k : Nat) (A0 : Option Addr) (c0 : Nat) (l0 : List (S46)) (r : Bool) (w : World) (hr0 : Kd.C k46 w A0 l0.length l0) (hc0 : l0.length ≤ c0) (h : raft_rows.f k l0 = some r) :
  Calls Try.prog 26 #[.slice A0 l0.length c0] w fun e w' => e = .returned (.bool r) ∧ Below w.heap.size w w' := by
 have hu46 := Try.underlying46
 have HR0 := Aside0.mk hr0
 have HC0 := Aside0.mk hc0
 clear hr0 hc0
 have HB := Aside0.mk (Below.refl w.heap.size w)
 have H : (raft_rows.l0 k l0 l0 (l0.length : Int) 0) = some r := h
 clear h
 have H' := Aside0.mk H
 clear H
 go_enter Try.func26, Try.ntmps26
 go_wp2
 go_loopg [7] k (fun kq v7 w' => ∃ (x7_1 : Int), v7 = .int .i64 x7_1 ∧ Aside0 (raft_rows.l0 kq l0 l0 (l0.length : Int) x7_1 = some r) ∧ Aside0 (kq ≤ k) ∧ Aside0 (Below w.heap.size w w'))
 case atStart => exact ⟨(0), (by first | rfl | (simp; done) | (simp [*]; done)), H', ⟨Nat.le_refl _⟩, ⟨pB HB.out⟩⟩
 case round =>
  clear H'
  obtain ⟨x7_1, rfl, HA, HK1, HB⟩ := hrel
  cases gk with
  | zero => exact absurd HA.out (by simp [raft_rows.l0])
  | succ k1 =>
   have H := HA.out
   clear HA
   simp only [raft_rows.l0] at H
   by_cases c2 : x7_1 < (l0.length : Int)
   ·rw [if_pos c2] at H
    have c2b0 : decide (x7_1 < (l0.length : Int)) = true := decide_eq_true c2
    clear c2
    by_cases c3 : 0 ≤ x7_1
    ·rw [if_pos c3] at H
     have c3b0 : decide (0 ≤ x7_1) = true := decide_eq_true c3
     clear c3
     by_cases c4 : x7_1 < (l0.length : Int)
     ·rw [if_pos c4] at H
      have c4b0 : decide (x7_1 < (l0.length : Int)) = true := decide_eq_true c4
      clear c4
      replace H := Option.bind_eq_some_iff.mp H
      obtain ⟨t107, A50, H⟩ := H
      replace H : (if t107 = true then ((raft_counts.f ((rd_T46 l0 x7_1).f1)).bind fun t108 => (if t108 = true then (if x7_1 > 0 then (if 0 ≤ (wrap64 (x7_1 - 1)) then (if (wrap64 (x7_1 - 1)) < (l0.length : Int) then (if (wrap64 (((rd_T46 l0 x7_1).f0) - 1)) = ((rd_T46 l0 (wrap64 (x7_1 - 1))).f0) then (if ((rd_T46 l0 x7_1).f1) < ((rd_T46 l0 (wrap64 (x7_1 - 1))).f1) then (some false) else (raft_rows.l0 k1 l0 l0 (l0.length : Int) (wrap64 (x7_1 + 1)))) else (some false)) else (none)) else (none)) else (raft_rows.l0 k1 l0 l0 (l0.length : Int) (wrap64 (x7_1 + 1)))) else (some false))) else (some false)) = some r := H
      have A5 := Aside0.mk A50
      clear A50
      by_cases c6 : t107 = true
      ·subst c6
       have H1 : ((raft_counts.f ((rd_T46 l0 x7_1).f1)).bind fun t108 => (if t108 = true then (if x7_1 > 0 then (if 0 ≤ (wrap64 (x7_1 - 1)) then (if (wrap64 (x7_1 - 1)) < (l0.length : Int) then (if (wrap64 (((rd_T46 l0 x7_1).f0) - 1)) = ((rd_T46 l0 (wrap64 (x7_1 - 1))).f0) then (if ((rd_T46 l0 x7_1).f1) < ((rd_T46 l0 (wrap64 (x7_1 - 1))).f1) then (some false) else (raft_rows.l0 k1 l0 l0 (l0.length : Int) (wrap64 (x7_1 + 1)))) else (some false)) else (none)) else (none)) else (raft_rows.l0 k1 l0 l0 (l0.length : Int) (wrap64 (x7_1 + 1)))) else (some false))) = some r := by rw [if_pos rfl] at H; exact H
       clear H
       have H := H1
       clear H1
       replace H := Option.bind_eq_some_iff.mp H
       obtain ⟨t108, A70, H⟩ := H
       replace H : (if t108 = true then (if x7_1 > 0 then (if 0 ≤ (wrap64 (x7_1 - 1)) then (if (wrap64 (x7_1 - 1)) < (l0.length : Int) then (if (wrap64 (((rd_T46 l0 x7_1).f0) - 1)) = ((rd_T46 l0 (wrap64 (x7_1 - 1))).f0) then (if ((rd_T46 l0 x7_1).f1) < ((rd_T46 l0 (wrap64 (x7_1 - 1))).f1) then (some false) else (raft_rows.l0 k1 l0 l0 (l0.length : Int) (wrap64 (x7_1 + 1)))) else (some false)) else (none)) else (none)) else (raft_rows.l0 k1 l0 l0 (l0.length : Int) (wrap64 (x7_1 + 1)))) else (some false)) = some r := H
       have A7 := Aside0.mk A70
       clear A70
       by_cases c8 : t108 = true
       ·subst c8
        have H1 : (if x7_1 > 0 then (if 0 ≤ (wrap64 (x7_1 - 1)) then (if (wrap64 (x7_1 - 1)) < (l0.length : Int) then (if (wrap64 (((rd_T46 l0 x7_1).f0) - 1)) = ((rd_T46 l0 (wrap64 (x7_1 - 1))).f0) then (if ((rd_T46 l0 x7_1).f1) < ((rd_T46 l0 (wrap64 (x7_1 - 1))).f1) then (some false) else (raft_rows.l0 k1 l0 l0 (l0.length : Int) (wrap64 (x7_1 + 1)))) else (some false)) else (none)) else (none)) else (raft_rows.l0 k1 l0 l0 (l0.length : Int) (wrap64 (x7_1 + 1)))) = some r := by rw [if_pos rfl] at H; exact H
        clear H
        have H := H1
        clear H1
        by_cases c9 : x7_1 > 0
        ·rw [if_pos c9] at H
         have c9b0 : decide (0 < x7_1) = true := decide_eq_true c9
         clear c9
         obtain ⟨ji10, hji10⟩ : ∃ j_ : Int, (wrap64 (x7_1 - 1)) = j_ := ⟨_, rfl⟩
         replace H : (if 0 ≤ (ji10) then (if (ji10) < (l0.length : Int) then (if (wrap64 (((rd_T46 l0 x7_1).f0) - 1)) = ((rd_T46 l0 (ji10)).f0) then (if ((rd_T46 l0 x7_1).f1) < ((rd_T46 l0 (ji10)).f1) then (some false) else (raft_rows.l0 k1 l0 l0 (l0.length : Int) (wrap64 (x7_1 + 1)))) else (some false)) else (none)) else (none)) = some r := by first | (rw [hji10] at H; exact H) | (simp only [hji10] at H ⊢; exact H)
         (try rw [hji10] at A5)
         (try rw [hji10] at A7)
         have hji10w : (IntKind.i64.wrap (x7_1 - 1)) = ji10 := (i64_w _).trans hji10
         by_cases c11 : 0 ≤ (ji10)
         ·rw [if_pos c11] at H
          have c11b0 : decide (0 ≤ (ji10)) = true := decide_eq_true c11
          clear c11
          by_cases c12 : (ji10) < (l0.length : Int)
          ·rw [if_pos c12] at H
           have c12b0 : decide ((ji10) < (l0.length : Int)) = true := decide_eq_true c12
           clear c12
           by_cases c13 : (wrap64 (((rd_T46 l0 x7_1).f0) - 1)) = ((rd_T46 l0 (ji10)).f0)
           ·rw [if_pos c13] at H
            have c13b0 : ((wrap64 (((rd_T46 l0 x7_1).f0) - 1)) == ((rd_T46 l0 (ji10)).f0)) = true := beq_iff_eq.mpr c13
            have c13b1 : ((wrap64 (((rd_T46 l0 x7_1).f0) - 1)) != ((rd_T46 l0 (ji10)).f0)) = false := bne_eq_false_iff_eq.mpr c13
            clear c13
            by_cases c14 : ((rd_T46 l0 x7_1).f1) < ((rd_T46 l0 (ji10)).f1)
            ·rw [if_pos c14] at H
             have c14b0 : decide (((rd_T46 l0 x7_1).f1) < ((rd_T46 l0 (ji10)).f1)) = true := decide_eq_true c14
             clear c14
             obtain rfl := Option.some.inj H
             have p105 : 0 ≤ (x7_1 : Int) := of_decide_eq_true pS
             have q105 : x7_1 < (l0.length : Int) := of_decide_eq_true pS
             obtain ⟨ad105, A105_5, c105_5, e105, hx105_0, hx105_1, hx105_2, hx105_3, hx105_4, hx105_5, hx105_6, hx105_7, hx105_8, hx105_9, hl105_5, hi105_5⟩ := at_T46 HR0.out x7_1 p105 q105
             cases e105
             replace hx105_0 := cU HB.out hx105_0
             replace hx105_1 := cU HB.out hx105_1
             replace hx105_2 := cU HB.out hx105_2
             replace hx105_3 := cU HB.out hx105_3
             replace hx105_4 := cU HB.out hx105_4
             replace hx105_5 := cU HB.out hx105_5
             replace hx105_6 := cU HB.out hx105_6
             replace hx105_7 := cU HB.out hx105_7
             replace hx105_8 := cU HB.out hx105_8
             replace hx105_9 := cU HB.out hx105_9
             have HR105_5 := Aside0.mk hi105_5
             have HC105_5 := Aside0.mk hl105_5
             clear hi105_5 hl105_5
             replace p105 := eq_true p105
             replace q105 := eq_true q105
             try go_wp2_with (first | ((with_reducible refine gate_dst (N := 4) rfl ?_); refine box_event ?hg (N := 4) ?hd (cs := #[.int .i64 0, .int .i64 0, .int .i64 0, .string (⟨#[]⟩ : ByteArray), .bool false, .slice none 0 0, .int .i64 0, .int .i64 0, .int .i64 0, .int .u32 0]) (t := 46) ?hr ?_; (case hd => rfl); (case hg => rfl); (case hr => first | (go_simp; done) | (go_simp; rfl)); intro gb106 hg w15 hbox hb; have n0_ := Aside0.mk (below_step (pB HB.out) hb); have n1_ := Aside0.mk (hbox); have n2_ := Aside0.mk ((by rw [hg]; exact (below_size (pB HB.out)) : w.heap.size ≤ gb106)); have n3_ := n2_; clear HB; have HB := n0_; have BK106 := n1_; have GW106 := n2_; have GE106 := n3_; clear n0_ n1_ n2_ n3_ hb hbox hg; obtain ⟨hcz16_0, hcz16_1, hcz16_2, hcz16_3, hcz16_4, hcz16_5, hcz16_6, hcz16_7, hcz16_8, hcz16_9⟩ := bc10 BK106.out; obtain ⟨hfz16_0, hfz16_1, hfz16_2, hfz16_3, hfz16_4, hfz16_5, hfz16_6, hfz16_7, hfz16_8, hfz16_9⟩ := bf10 BK106.out))
             have n0_ : Aside0 (((((((((((w15.setCell ⟨gb106, 0, none⟩ (.int .i64 ((rd_T46 l0 x7_1).f0))).setCell ⟨gb106, 1, none⟩ (.int .i64 ((rd_T46 l0 x7_1).f1))).setCell ⟨gb106, 2, none⟩ (.int .i64 ((rd_T46 l0 x7_1).f2))).setCell ⟨gb106, 3, none⟩ (.string ((rd_T46 l0 x7_1).f3))).setCell ⟨gb106, 4, none⟩ (.bool ((rd_T46 l0 x7_1).f4.f0))).setCell ⟨gb106, 5, none⟩ (.slice A105_5 ((rd_T46 l0 x7_1).f4.f1).length c105_5)).setCell ⟨gb106, 6, none⟩ (.int .i64 ((rd_T46 l0 x7_1).f4.f2.f0))).setCell ⟨gb106, 7, none⟩ (.int .i64 ((rd_T46 l0 x7_1).f4.f2.f1))).setCell ⟨gb106, 8, none⟩ (.int .i64 ((rd_T46 l0 x7_1).f4.f2.f2))).setCell ⟨gb106, 9, none⟩ (.int .u32 ((rd_T46 l0 x7_1).f4.f2.f3))).heap[gb106]? = some (.cells #[.int .i64 ((rd_T46 l0 x7_1).f0), .int .i64 ((rd_T46 l0 x7_1).f1), .int .i64 ((rd_T46 l0 x7_1).f2), .string ((rd_T46 l0 x7_1).f3), .bool ((rd_T46 l0 x7_1).f4.f0), .slice A105_5 ((rd_T46 l0 x7_1).f4.f1).length c105_5, .int .i64 ((rd_T46 l0 x7_1).f4.f2.f0), .int .i64 ((rd_T46 l0 x7_1).f4.f2.f1), .int .i64 ((rd_T46 l0 x7_1).f4.f2.f2), .int .u32 ((rd_T46 l0 x7_1).f4.f2.f3)] 46 (0, 0))) := ⟨kX0 BK106.out⟩
             have n1_ : Aside0 (Below w.heap.size w ((((((((((w15.setCell ⟨gb106, 0, none⟩ (.int .i64 ((rd_T46 l0 x7_1).f0))).setCell ⟨gb106, 1, none⟩ (.int .i64 ((rd_T46 l0 x7_1).f1))).setCell ⟨gb106, 2, none⟩ (.int .i64 ((rd_T46 l0 x7_1).f2))).setCell ⟨gb106, 3, none⟩ (.string ((rd_T46 l0 x7_1).f3))).setCell ⟨gb106, 4, none⟩ (.bool ((rd_T46 l0 x7_1).f4.f0))).setCell ⟨gb106, 5, none⟩ (.slice A105_5 ((rd_T46 l0 x7_1).f4.f1).length c105_5)).setCell ⟨gb106, 6, none⟩ (.int .i64 ((rd_T46 l0 x7_1).f4.f2.f0))).setCell ⟨gb106, 7, none⟩ (.int .i64 ((rd_T46 l0 x7_1).f4.f2.f1))).setCell ⟨gb106, 8, none⟩ (.int .i64 ((rd_T46 l0 x7_1).f4.f2.f2))).setCell ⟨gb106, 9, none⟩ (.int .u32 ((rd_T46 l0 x7_1).f4.f2.f3)))) := ⟨pE HB.out GE106.out⟩
             (try clear BK106)
             (try clear HB)
             generalize ((((((((((w15.setCell ⟨gb106, 0, none⟩ (.int .i64 ((rd_T46 l0 x7_1).f0))).setCell ⟨gb106, 1, none⟩ (.int .i64 ((rd_T46 l0 x7_1).f1))).setCell ⟨gb106, 2, none⟩ (.int .i64 ((rd_T46 l0 x7_1).f2))).setCell ⟨gb106, 3, none⟩ (.string ((rd_T46 l0 x7_1).f3))).setCell ⟨gb106, 4, none⟩ (.bool ((rd_T46 l0 x7_1).f4.f0))).setCell ⟨gb106, 5, none⟩ (.slice A105_5 ((rd_T46 l0 x7_1).f4.f1).length c105_5)).setCell ⟨gb106, 6, none⟩ (.int .i64 ((rd_T46 l0 x7_1).f4.f2.f0))).setCell ⟨gb106, 7, none⟩ (.int .i64 ((rd_T46 l0 x7_1).f4.f2.f1))).setCell ⟨gb106, 8, none⟩ (.int .i64 ((rd_T46 l0 x7_1).f4.f2.f2))).setCell ⟨gb106, 9, none⟩ (.int .u32 ((rd_T46 l0 x7_1).f4.f2.f3))) = w17 at n0_ n1_ ⊢
             have BK106 := n0_
             have HB := n1_
             clear n0_ n1_
             have n0_ := Aside0.mk (blk_drew BK106.out)
             have n1_ := Aside0.mk (below_drew1 HB.out)
             clear BK106
             clear HB
             have BK106 := n0_
             have HB := n1_
             clear n0_ n1_
             have p109 : 0 ≤ ((ji10) : Int) := of_decide_eq_true pS
             have q109 : (ji10) < (l0.length : Int) := of_decide_eq_true pS
             obtain ⟨ad109, A109_5, c109_5, e109, hx109_0, hx109_1, hx109_2, hx109_3, hx109_4, hx109_5, hx109_6, hx109_7, hx109_8, hx109_9, hl109_5, hi109_5⟩ := at_T46 HR0.out (ji10) p109 q109
             have hw109_9 := hx109_9
             have hw109_8 := hx109_8
             have hw109_7 := hx109_7
             have hw109_6 := hx109_6
             have hw109_5 := hx109_5
             have hw109_4 := hx109_4
             have hw109_3 := hx109_3
             have hw109_2 := hx109_2
             have hw109_1 := hx109_1
             have hw109_0 := hx109_0
             obtain rfl : ad105 = ad109 := (by injection e109)
             replace hx109_0 := cU HB.out hx109_0
             replace hx109_1 := cU HB.out hx109_1
             replace hx109_2 := cU HB.out hx109_2
             replace hx109_3 := cU HB.out hx109_3
             replace hx109_4 := cU HB.out hx109_4
             replace hx109_5 := cU HB.out hx109_5
             replace hx109_6 := cU HB.out hx109_6
             replace hx109_7 := cU HB.out hx109_7
             replace hx109_8 := cU HB.out hx109_8
             replace hx109_9 := cU HB.out hx109_9
             have HR109_5 := Aside0.mk hi109_5
             have HC109_5 := Aside0.mk hl109_5
             clear hi109_5 hl109_5
             replace p109 := eq_true p109
             replace q109 := eq_true q109
             have p110 : 0 ≤ ((ji10) : Int) := of_decide_eq_true pS
             have q110 : (ji10) < (l0.length : Int) := of_decide_eq_true pS
             obtain ⟨ad110, A110_5, c110_5, e110, hx110_0, hx110_1, hx110_2, hx110_3, hx110_4, hx110_5, hx110_6, hx110_7, hx110_8, hx110_9, hl110_5, hi110_5⟩ := at_T46 HR0.out (ji10) p110 q110
             have hw110_9 := hx110_9
             have hw110_8 := hx110_8
             have hw110_7 := hx110_7
             have hw110_6 := hx110_6
             have hw110_5 := hx110_5
             have hw110_4 := hx110_4
             have hw110_3 := hx110_3
             have hw110_2 := hx110_2
             have hw110_1 := hx110_1
             have hw110_0 := hx110_0
             obtain rfl : ad105 = ad110 := (by injection e110)
             replace hx110_0 := cU HB.out hx110_0
             replace hx110_1 := cU HB.out hx110_1
             replace hx110_2 := cU HB.out hx110_2
             replace hx110_3 := cU HB.out hx110_3
             replace hx110_4 := cU HB.out hx110_4
             replace hx110_5 := cU HB.out hx110_5
             replace hx110_6 := cU HB.out hx110_6
             replace hx110_7 := cU HB.out hx110_7
             replace hx110_8 := cU HB.out hx110_8
             replace hx110_9 := cU HB.out hx110_9
             have HR110_5 := Aside0.mk hi110_5
             have HC110_5 := Aside0.mk hl110_5
             clear hi110_5 hl110_5
             replace p110 := eq_true p110
             replace q110 := eq_true q110
             have ea_ := Option.some.inj (hx109_5.symm.trans hx110_5)
             injection ea_ with ea_ en_ ec_
             subst ea_
             subst ec_
             clear en_
             refine start_ (n := 37) (S := fun w' => cG w' gb106 0 (.int .i64 ((rd_T46 l0 x7_1).f0)) ∧ cG w' gb106 1 (.int .i64 ((rd_T46 l0 x7_1).f1)) ∧ cG w' gb106 2 (.int .i64 ((rd_T46 l0 x7_1).f2)) ∧ cG w' gb106 3 (.string ((rd_T46 l0 x7_1).f3)) ∧ cG w' gb106 4 (.bool ((rd_T46 l0 x7_1).f4.f0)) ∧ cG w' gb106 5 (.slice A105_5 ((rd_T46 l0 x7_1).f4.f1).length c105_5) ∧ cG w' gb106 6 (.int .i64 ((rd_T46 l0 x7_1).f4.f2.f0)) ∧ cG w' gb106 7 (.int .i64 ((rd_T46 l0 x7_1).f4.f2.f1)) ∧ cG w' gb106 8 (.int .i64 ((rd_T46 l0 x7_1).f4.f2.f2)) ∧ cG w' gb106 9 (.int .u32 ((rd_T46 l0 x7_1).f4.f2.f3)) ∧ w'.cell? (ad105.add (((ji10)).toNat * 10)) = some (.int .i64 ((rd_T46 l0 (ji10)).f0)) ∧ w'.cell? ⟨(ad105.add (((ji10)).toNat * 10)).block, (ad105.add (((ji10)).toNat * 10)).off + 1, none⟩ = some (.int .i64 ((rd_T46 l0 (ji10)).f1)) ∧ w'.cell? ⟨(ad105.add (((ji10)).toNat * 10)).block, (ad105.add (((ji10)).toNat * 10)).off + 2, none⟩ = some (.int .i64 ((rd_T46 l0 (ji10)).f2)) ∧ w'.cell? ⟨(ad105.add (((ji10)).toNat * 10)).block, (ad105.add (((ji10)).toNat * 10)).off + 3, none⟩ = some (.string ((rd_T46 l0 (ji10)).f3)) ∧ w'.cell? ⟨(ad105.add (((ji10)).toNat * 10)).block, (ad105.add (((ji10)).toNat * 10)).off + 4, none⟩ = some (.bool ((rd_T46 l0 (ji10)).f4.f0)) ∧ w'.cell? ⟨(ad105.add (((ji10)).toNat * 10)).block, (ad105.add (((ji10)).toNat * 10)).off + 5, none⟩ = some (.slice A109_5 ((rd_T46 l0 (ji10)).f4.f1).length c109_5) ∧ w'.cell? ⟨(ad105.add (((ji10)).toNat * 10)).block, (ad105.add (((ji10)).toNat * 10)).off + 6, none⟩ = some (.int .i64 ((rd_T46 l0 (ji10)).f4.f2.f0)) ∧ w'.cell? ⟨(ad105.add (((ji10)).toNat * 10)).block, (ad105.add (((ji10)).toNat * 10)).off + 7, none⟩ = some (.int .i64 ((rd_T46 l0 (ji10)).f4.f2.f1)) ∧ w'.cell? ⟨(ad105.add (((ji10)).toNat * 10)).block, (ad105.add (((ji10)).toNat * 10)).off + 8, none⟩ = some (.int .i64 ((rd_T46 l0 (ji10)).f4.f2.f2)) ∧ w'.cell? ⟨(ad105.add (((ji10)).toNat * 10)).block, (ad105.add (((ji10)).toNat * 10)).off + 9, none⟩ = some (.int .u32 ((rd_T46 l0 (ji10)).f4.f2.f3))) (ds := []) #[false, false, false, false, false, false, false, false, false, false, false, false, false, false, false, false, false, false, false, false, false, false, false, false, false, false, false, false, false, false, false, false, false, false, false, false, false] (by kernel_rfl) rfl rfl ⟨(blk_cell BK106.out 0).trans rfl, (blk_cell BK106.out 1).trans rfl, (blk_cell BK106.out 2).trans rfl, (blk_cell BK106.out 3).trans rfl, (blk_cell BK106.out 4).trans rfl, (blk_cell BK106.out 5).trans rfl, (blk_cell BK106.out 6).trans rfl, (blk_cell BK106.out 7).trans rfl, (blk_cell BK106.out 8).trans rfl, (blk_cell BK106.out 9).trans rfl, (cT HB.out hw109_0), (cT HB.out hw109_1), (cT HB.out hw109_2), (cT HB.out hw109_3), (cT HB.out hw109_4), (cT HB.out hw109_5), (cT HB.out hw109_6), (cT HB.out hw109_7), (cT HB.out hw109_8), (cT HB.out hw109_9)⟩ (fun hHeld => ?_); refine with_tabW raft_rows.tab4 raft_rows.bits4 (fun HT_ HW_ => ?_)
             generalize w17.drew = w18 at BK106 HB HR109_5 HR110_5 hx109_0 hx109_1 hx109_2 hx109_3 hx109_4 hx109_5 hx109_6 hx109_7 hx109_8 hx109_9 hx110_0 hx110_1 hx110_2 hx110_3 hx110_4 hx110_5 hx110_6 hx110_7 hx110_8 hx110_9 hHeld ⊢
             refine pu 0 (some 12) (bw 37 1) HT_.out (h := ?_)
             refine tk 1 (some 13) (bw 37 3) HT_.out HW_.out hHeld (h := ?_)
             refine one_ (i := 2) (N := some 14) (bw 37 7) rfl rfl (one_of HT_.out (by kernel_rfl)) (by decide) (fun K hK => ?_)
             refine goes_ Try.func34 (by kernel_rfl) rfl #[.int .i64 ((rd_T46 l0 x7_1).f0)] (by rfl) rfl rfl pL ?_
             with_reducible refine (raft_counts.calls ((rd_T46 l0 x7_1).f0) true _ A5.out).mono ?_
             rintro e w' ⟨rfl, ⟨nd, rfl⟩⟩
             refine ⟨_, rfl, ?_⟩
             refine hK.out _ _ ⟨(blk_cell BK106.out 0).trans rfl, (blk_cell BK106.out 1).trans rfl, (blk_cell BK106.out 2).trans rfl, (blk_cell BK106.out 3).trans rfl, (blk_cell BK106.out 4).trans rfl, (blk_cell BK106.out 5).trans rfl, (blk_cell BK106.out 6).trans rfl, (blk_cell BK106.out 7).trans rfl, (blk_cell BK106.out 8).trans rfl, (blk_cell BK106.out 9).trans rfl, (cT HB.out hw109_0), (cT HB.out hw109_1), (cT HB.out hw109_2), (cT HB.out hw109_3), (cT HB.out hw109_4), (cT HB.out hw109_5), (cT HB.out hw109_6), (cT HB.out hw109_7), (cT HB.out hw109_8), (cT HB.out hw109_9)⟩ (fun hHeld => ?_)
             clear hK K
             refine norm_ (a' := ?_) ?_ ?_
             rotate_left
             ·show Act.put _ (some 14) _ = _
              simp only [Act.put, List.setIfInBounds_toArray, List.set_cons_zero, List.set_cons_succ, i64_w, i32_w]
              rfl
             refine pu 3 (some 15) (bw 37 15) HT_.out (h := ?_)
             refine pu 4 (some 16) (bw 37 31) HT_.out (h := ?_)
             refine pu 5 (some 17) (bw 37 63) HT_.out (h := ?_)
             refine tk 6 (some 18) (bw 37 127) HT_.out HW_.out hHeld (h := ?_)
             refine one_ (i := 7) (N := some 19) (bw 37 255) rfl rfl (one_of HT_.out (by kernel_rfl)) (by decide) (fun K hK => ?_)
             refine goes_ Try.func34 (by kernel_rfl) rfl #[.int .i64 ((rd_T46 l0 x7_1).f1)] (by rfl) rfl rfl pL ?_
             with_reducible refine (raft_counts.calls ((rd_T46 l0 x7_1).f1) true _ A7.out).mono ?_
             rintro e w' ⟨rfl, ⟨nd, rfl⟩⟩
             refine ⟨_, rfl, ?_⟩
             refine hK.out _ _ ⟨(blk_cell BK106.out 0).trans rfl, (blk_cell BK106.out 1).trans rfl, (blk_cell BK106.out 2).trans rfl, (blk_cell BK106.out 3).trans rfl, (blk_cell BK106.out 4).trans rfl, (blk_cell BK106.out 5).trans rfl, (blk_cell BK106.out 6).trans rfl, (blk_cell BK106.out 7).trans rfl, (blk_cell BK106.out 8).trans rfl, (blk_cell BK106.out 9).trans rfl, (cT HB.out hw109_0), (cT HB.out hw109_1), (cT HB.out hw109_2), (cT HB.out hw109_3), (cT HB.out hw109_4), (cT HB.out hw109_5), (cT HB.out hw109_6), (cT HB.out hw109_7), (cT HB.out hw109_8), (cT HB.out hw109_9)⟩ (fun hHeld => ?_)
             clear hK K
             refine norm_ (a' := ?_) ?_ ?_
             rotate_left
             ·show Act.put _ (some 19) _ = _
              simp only [Act.put, List.setIfInBounds_toArray, List.set_cons_zero, List.set_cons_succ, i64_w, i32_w]
              rfl
             refine pu 8 (some 20) (bw 37 511) HT_.out (h := ?_)
             refine pu 9 (some 21) (bw 37 1023) HT_.out (h := ?_)
             refine pu 10 (some 22) (bw 37 2047) HT_.out (h := ?_)
             refine pu 11 (some 23) (bw 37 4095) HT_.out (h := ?_)
             refine pu 12 (some 24) (bw 37 8191) HT_.out (h := ?_)
             refine pu 13 (some 25) (bw 37 16383) HT_.out (h := ?_)
             refine pu 14 (some 26) (bw 37 32767) HT_.out (h := ?_)
             refine pu 17 (some 29) (bw 37 163839) HT_.out (h := ?_)
             refine pu 18 (some 30) (bw 37 425983) HT_.out (h := ?_)
             refine pu 19 (some 31) (bw 37 950271) HT_.out (h := ?_)
             refine pu 20 (some 32) (bw 37 1998847) HT_.out (h := ?_)
             refine pu 21 (some 33) (bw 37 4095999) HT_.out (h := ?_)
             refine tk 15 (some 27) (bw 37 4128767) HT_.out HW_.out hHeld (h := ?_)
             refine pu 16 (some 28) (bw 37 4194303) HT_.out (h := ?_)
             refine tk 22 (some 34) (bw 37 8388607) HT_.out HW_.out hHeld (h := ?_)
             refine pu 23 (some 35) (bw 37 16777215) HT_.out (h := ?_)
             refine pu 24 (some 36) (bw 37 33554431) HT_.out (h := ?_)
             refine pu 25 (some 37) (bw 37 67108863) HT_.out (h := ?_)
             refine pu 27 (some 39) (bw 37 201326591) HT_.out (h := ?_)
             refine pu 28 (some 40) (bw 37 469762047) HT_.out (h := ?_)
             refine pu 29 (some 41) (bw 37 1006632959) HT_.out (h := ?_)
             refine pu 30 (some 42) (bw 37 2080374783) HT_.out (h := ?_)
             refine pu 31 (some 43) (bw 37 4227858431) HT_.out (h := ?_)
             refine tk 26 (some 38) (bw 37 4294967295) HT_.out HW_.out hHeld (h := ?_)
             refine tk 32 (some 44) (bw 37 8589934591) HT_.out HW_.out hHeld (h := ?_)
             refine pu 33 (some 45) (bw 37 17179869183) HT_.out (h := ?_)
             refine pu 34 (some 46) (bw 37 34359738367) HT_.out (h := ?_)
             refine pu 35 (some 47) (bw 37 68719476735) HT_.out (h := ?_)
             refine pu 36 (some 48) (bw 37 137438953471) HT_.out (h := ?_)
             refine done_ (done_of HT_.out (by kernel_rfl)) ?_
             try go_wp2
             go_ret
             exact ⟨by first | rfl | (simp [errW_none, errW_some] <;> rfl) | (simp only [← hji10]; first | rfl | (simp [errW_none, errW_some] <;> rfl)) | (simp [*, errW_none, errW_some] <;> rfl), pE HB.out GE106.out⟩
            ·rw [if_neg c14] at H
             have c14b0 : decide (((rd_T46 l0 x7_1).f1) < ((rd_T46 l0 (ji10)).f1)) = false := decide_eq_false c14
             clear c14
             have H' := Aside0.mk H
             clear H
             have p105 : 0 ≤ (x7_1 : Int) := of_decide_eq_true pS
             have q105 : x7_1 < (l0.length : Int) := of_decide_eq_true pS
             obtain ⟨ad105, A105_5, c105_5, e105, hx105_0, hx105_1, hx105_2, hx105_3, hx105_4, hx105_5, hx105_6, hx105_7, hx105_8, hx105_9, hl105_5, hi105_5⟩ := at_T46 HR0.out x7_1 p105 q105
             cases e105
             replace hx105_0 := cU HB.out hx105_0
             replace hx105_1 := cU HB.out hx105_1
             replace hx105_2 := cU HB.out hx105_2
             replace hx105_3 := cU HB.out hx105_3
             replace hx105_4 := cU HB.out hx105_4
             replace hx105_5 := cU HB.out hx105_5
             replace hx105_6 := cU HB.out hx105_6
             replace hx105_7 := cU HB.out hx105_7
             replace hx105_8 := cU HB.out hx105_8
             replace hx105_9 := cU HB.out hx105_9
             have HR105_5 := Aside0.mk hi105_5
             have HC105_5 := Aside0.mk hl105_5
             clear hi105_5 hl105_5
             replace p105 := eq_true p105
             replace q105 := eq_true q105
             try go_wp2_with (first | ((with_reducible refine gate_dst (N := 4) rfl ?_); refine box_event ?hg (N := 4) ?hd (cs := #[.int .i64 0, .int .i64 0, .int .i64 0, .string (⟨#[]⟩ : ByteArray), .bool false, .slice none 0 0, .int .i64 0, .int .i64 0, .int .i64 0, .int .u32 0]) (t := 46) ?hr ?_; (case hd => rfl); (case hg => rfl); (case hr => first | (go_simp; done) | (go_simp; rfl)); intro gb106 hg w19 hbox hb; have n0_ := Aside0.mk (below_step (pB HB.out) hb); have n1_ := Aside0.mk (hbox); have n2_ := Aside0.mk ((by rw [hg]; exact (below_size (pB HB.out)) : w.heap.size ≤ gb106)); have n3_ := n2_; clear HB; have HB := n0_; have BK106 := n1_; have GW106 := n2_; have GE106 := n3_; clear n0_ n1_ n2_ n3_ hb hbox hg; obtain ⟨hcz20_0, hcz20_1, hcz20_2, hcz20_3, hcz20_4, hcz20_5, hcz20_6, hcz20_7, hcz20_8, hcz20_9⟩ := bc10 BK106.out; obtain ⟨hfz20_0, hfz20_1, hfz20_2, hfz20_3, hfz20_4, hfz20_5, hfz20_6, hfz20_7, hfz20_8, hfz20_9⟩ := bf10 BK106.out))
             have n0_ : Aside0 (((((((((((w19.setCell ⟨gb106, 0, none⟩ (.int .i64 ((rd_T46 l0 x7_1).f0))).setCell ⟨gb106, 1, none⟩ (.int .i64 ((rd_T46 l0 x7_1).f1))).setCell ⟨gb106, 2, none⟩ (.int .i64 ((rd_T46 l0 x7_1).f2))).setCell ⟨gb106, 3, none⟩ (.string ((rd_T46 l0 x7_1).f3))).setCell ⟨gb106, 4, none⟩ (.bool ((rd_T46 l0 x7_1).f4.f0))).setCell ⟨gb106, 5, none⟩ (.slice A105_5 ((rd_T46 l0 x7_1).f4.f1).length c105_5)).setCell ⟨gb106, 6, none⟩ (.int .i64 ((rd_T46 l0 x7_1).f4.f2.f0))).setCell ⟨gb106, 7, none⟩ (.int .i64 ((rd_T46 l0 x7_1).f4.f2.f1))).setCell ⟨gb106, 8, none⟩ (.int .i64 ((rd_T46 l0 x7_1).f4.f2.f2))).setCell ⟨gb106, 9, none⟩ (.int .u32 ((rd_T46 l0 x7_1).f4.f2.f3))).heap[gb106]? = some (.cells #[.int .i64 ((rd_T46 l0 x7_1).f0), .int .i64 ((rd_T46 l0 x7_1).f1), .int .i64 ((rd_T46 l0 x7_1).f2), .string ((rd_T46 l0 x7_1).f3), .bool ((rd_T46 l0 x7_1).f4.f0), .slice A105_5 ((rd_T46 l0 x7_1).f4.f1).length c105_5, .int .i64 ((rd_T46 l0 x7_1).f4.f2.f0), .int .i64 ((rd_T46 l0 x7_1).f4.f2.f1), .int .i64 ((rd_T46 l0 x7_1).f4.f2.f2), .int .u32 ((rd_T46 l0 x7_1).f4.f2.f3)] 46 (0, 0))) := ⟨kX0 BK106.out⟩
             have n1_ : Aside0 (Below w.heap.size w ((((((((((w19.setCell ⟨gb106, 0, none⟩ (.int .i64 ((rd_T46 l0 x7_1).f0))).setCell ⟨gb106, 1, none⟩ (.int .i64 ((rd_T46 l0 x7_1).f1))).setCell ⟨gb106, 2, none⟩ (.int .i64 ((rd_T46 l0 x7_1).f2))).setCell ⟨gb106, 3, none⟩ (.string ((rd_T46 l0 x7_1).f3))).setCell ⟨gb106, 4, none⟩ (.bool ((rd_T46 l0 x7_1).f4.f0))).setCell ⟨gb106, 5, none⟩ (.slice A105_5 ((rd_T46 l0 x7_1).f4.f1).length c105_5)).setCell ⟨gb106, 6, none⟩ (.int .i64 ((rd_T46 l0 x7_1).f4.f2.f0))).setCell ⟨gb106, 7, none⟩ (.int .i64 ((rd_T46 l0 x7_1).f4.f2.f1))).setCell ⟨gb106, 8, none⟩ (.int .i64 ((rd_T46 l0 x7_1).f4.f2.f2))).setCell ⟨gb106, 9, none⟩ (.int .u32 ((rd_T46 l0 x7_1).f4.f2.f3)))) := ⟨pE HB.out GE106.out⟩
             (try clear BK106)
             (try clear HB)
             generalize ((((((((((w19.setCell ⟨gb106, 0, none⟩ (.int .i64 ((rd_T46 l0 x7_1).f0))).setCell ⟨gb106, 1, none⟩ (.int .i64 ((rd_T46 l0 x7_1).f1))).setCell ⟨gb106, 2, none⟩ (.int .i64 ((rd_T46 l0 x7_1).f2))).setCell ⟨gb106, 3, none⟩ (.string ((rd_T46 l0 x7_1).f3))).setCell ⟨gb106, 4, none⟩ (.bool ((rd_T46 l0 x7_1).f4.f0))).setCell ⟨gb106, 5, none⟩ (.slice A105_5 ((rd_T46 l0 x7_1).f4.f1).length c105_5)).setCell ⟨gb106, 6, none⟩ (.int .i64 ((rd_T46 l0 x7_1).f4.f2.f0))).setCell ⟨gb106, 7, none⟩ (.int .i64 ((rd_T46 l0 x7_1).f4.f2.f1))).setCell ⟨gb106, 8, none⟩ (.int .i64 ((rd_T46 l0 x7_1).f4.f2.f2))).setCell ⟨gb106, 9, none⟩ (.int .u32 ((rd_T46 l0 x7_1).f4.f2.f3))) = w21 at n0_ n1_ ⊢
             have BK106 := n0_
             have HB := n1_
             clear n0_ n1_
             have n0_ := Aside0.mk (blk_drew BK106.out)
             have n1_ := Aside0.mk (below_drew1 HB.out)
             clear BK106
             clear HB
             have BK106 := n0_
             have HB := n1_
             clear n0_ n1_
             have p109 : 0 ≤ ((ji10) : Int) := of_decide_eq_true pS
             have q109 : (ji10) < (l0.length : Int) := of_decide_eq_true pS
             obtain ⟨ad109, A109_5, c109_5, e109, hx109_0, hx109_1, hx109_2, hx109_3, hx109_4, hx109_5, hx109_6, hx109_7, hx109_8, hx109_9, hl109_5, hi109_5⟩ := at_T46 HR0.out (ji10) p109 q109
             have hw109_9 := hx109_9
             have hw109_8 := hx109_8
             have hw109_7 := hx109_7
             have hw109_6 := hx109_6
             have hw109_5 := hx109_5
             have hw109_4 := hx109_4
             have hw109_3 := hx109_3
             have hw109_2 := hx109_2
             have hw109_1 := hx109_1
             have hw109_0 := hx109_0
             obtain rfl : ad105 = ad109 := (by injection e109)
             replace hx109_0 := cU HB.out hx109_0
             replace hx109_1 := cU HB.out hx109_1
             replace hx109_2 := cU HB.out hx109_2
             replace hx109_3 := cU HB.out hx109_3
             replace hx109_4 := cU HB.out hx109_4
             replace hx109_5 := cU HB.out hx109_5
             replace hx109_6 := cU HB.out hx109_6
             replace hx109_7 := cU HB.out hx109_7
             replace hx109_8 := cU HB.out hx109_8
             replace hx109_9 := cU HB.out hx109_9
             have HR109_5 := Aside0.mk hi109_5
             have HC109_5 := Aside0.mk hl109_5
             clear hi109_5 hl109_5
             replace p109 := eq_true p109
             replace q109 := eq_true q109
             have p110 : 0 ≤ ((ji10) : Int) := of_decide_eq_true pS
             have q110 : (ji10) < (l0.length : Int) := of_decide_eq_true pS
             obtain ⟨ad110, A110_5, c110_5, e110, hx110_0, hx110_1, hx110_2, hx110_3, hx110_4, hx110_5, hx110_6, hx110_7, hx110_8, hx110_9, hl110_5, hi110_5⟩ := at_T46 HR0.out (ji10) p110 q110
             have hw110_9 := hx110_9
             have hw110_8 := hx110_8
             have hw110_7 := hx110_7
             have hw110_6 := hx110_6
             have hw110_5 := hx110_5
             have hw110_4 := hx110_4
             have hw110_3 := hx110_3
             have hw110_2 := hx110_2
             have hw110_1 := hx110_1
             have hw110_0 := hx110_0
             obtain rfl : ad105 = ad110 := (by injection e110)
             replace hx110_0 := cU HB.out hx110_0
             replace hx110_1 := cU HB.out hx110_1
             replace hx110_2 := cU HB.out hx110_2
             replace hx110_3 := cU HB.out hx110_3
             replace hx110_4 := cU HB.out hx110_4
             replace hx110_5 := cU HB.out hx110_5
             replace hx110_6 := cU HB.out hx110_6
             replace hx110_7 := cU HB.out hx110_7
             replace hx110_8 := cU HB.out hx110_8
             replace hx110_9 := cU HB.out hx110_9
             have HR110_5 := Aside0.mk hi110_5
             have HC110_5 := Aside0.mk hl110_5
             clear hi110_5 hl110_5
             replace p110 := eq_true p110
             replace q110 := eq_true q110
             have ea_ := Option.some.inj (hx109_5.symm.trans hx110_5)
             injection ea_ with ea_ en_ ec_
             subst ea_
             subst ec_
             clear en_
             refine start_ (n := 37) (S := fun w' => cG w' gb106 0 (.int .i64 ((rd_T46 l0 x7_1).f0)) ∧ cG w' gb106 1 (.int .i64 ((rd_T46 l0 x7_1).f1)) ∧ cG w' gb106 2 (.int .i64 ((rd_T46 l0 x7_1).f2)) ∧ cG w' gb106 3 (.string ((rd_T46 l0 x7_1).f3)) ∧ cG w' gb106 4 (.bool ((rd_T46 l0 x7_1).f4.f0)) ∧ cG w' gb106 5 (.slice A105_5 ((rd_T46 l0 x7_1).f4.f1).length c105_5) ∧ cG w' gb106 6 (.int .i64 ((rd_T46 l0 x7_1).f4.f2.f0)) ∧ cG w' gb106 7 (.int .i64 ((rd_T46 l0 x7_1).f4.f2.f1)) ∧ cG w' gb106 8 (.int .i64 ((rd_T46 l0 x7_1).f4.f2.f2)) ∧ cG w' gb106 9 (.int .u32 ((rd_T46 l0 x7_1).f4.f2.f3)) ∧ w'.cell? (ad105.add (((ji10)).toNat * 10)) = some (.int .i64 ((rd_T46 l0 (ji10)).f0)) ∧ w'.cell? ⟨(ad105.add (((ji10)).toNat * 10)).block, (ad105.add (((ji10)).toNat * 10)).off + 1, none⟩ = some (.int .i64 ((rd_T46 l0 (ji10)).f1)) ∧ w'.cell? ⟨(ad105.add (((ji10)).toNat * 10)).block, (ad105.add (((ji10)).toNat * 10)).off + 2, none⟩ = some (.int .i64 ((rd_T46 l0 (ji10)).f2)) ∧ w'.cell? ⟨(ad105.add (((ji10)).toNat * 10)).block, (ad105.add (((ji10)).toNat * 10)).off + 3, none⟩ = some (.string ((rd_T46 l0 (ji10)).f3)) ∧ w'.cell? ⟨(ad105.add (((ji10)).toNat * 10)).block, (ad105.add (((ji10)).toNat * 10)).off + 4, none⟩ = some (.bool ((rd_T46 l0 (ji10)).f4.f0)) ∧ w'.cell? ⟨(ad105.add (((ji10)).toNat * 10)).block, (ad105.add (((ji10)).toNat * 10)).off + 5, none⟩ = some (.slice A109_5 ((rd_T46 l0 (ji10)).f4.f1).length c109_5) ∧ w'.cell? ⟨(ad105.add (((ji10)).toNat * 10)).block, (ad105.add (((ji10)).toNat * 10)).off + 6, none⟩ = some (.int .i64 ((rd_T46 l0 (ji10)).f4.f2.f0)) ∧ w'.cell? ⟨(ad105.add (((ji10)).toNat * 10)).block, (ad105.add (((ji10)).toNat * 10)).off + 7, none⟩ = some (.int .i64 ((rd_T46 l0 (ji10)).f4.f2.f1)) ∧ w'.cell? ⟨(ad105.add (((ji10)).toNat * 10)).block, (ad105.add (((ji10)).toNat * 10)).off + 8, none⟩ = some (.int .i64 ((rd_T46 l0 (ji10)).f4.f2.f2)) ∧ w'.cell? ⟨(ad105.add (((ji10)).toNat * 10)).block, (ad105.add (((ji10)).toNat * 10)).off + 9, none⟩ = some (.int .u32 ((rd_T46 l0 (ji10)).f4.f2.f3))) (ds := []) #[false, false, false, false, false, false, false, false, false, false, false, false, false, false, false, false, false, false, false, false, false, false, false, false, false, false, false, false, false, false, false, false, false, false, false, false, false] (by kernel_rfl) rfl rfl ⟨(blk_cell BK106.out 0).trans rfl, (blk_cell BK106.out 1).trans rfl, (blk_cell BK106.out 2).trans rfl, (blk_cell BK106.out 3).trans rfl, (blk_cell BK106.out 4).trans rfl, (blk_cell BK106.out 5).trans rfl, (blk_cell BK106.out 6).trans rfl, (blk_cell BK106.out 7).trans rfl, (blk_cell BK106.out 8).trans rfl, (blk_cell BK106.out 9).trans rfl, (cT HB.out hw109_0), (cT HB.out hw109_1), (cT HB.out hw109_2), (cT HB.out hw109_3), (cT HB.out hw109_4), (cT HB.out hw109_5), (cT HB.out hw109_6), (cT HB.out hw109_7), (cT HB.out hw109_8), (cT HB.out hw109_9)⟩ (fun hHeld => ?_); refine with_tabW raft_rows.tab4 raft_rows.bits4 (fun HT_ HW_ => ?_)
             generalize w21.drew = w22 at BK106 HB HR109_5 HR110_5 hx109_0 hx109_1 hx109_2 hx109_3 hx109_4 hx109_5 hx109_6 hx109_7 hx109_8 hx109_9 hx110_0 hx110_1 hx110_2 hx110_3 hx110_4 hx110_5 hx110_6 hx110_7 hx110_8 hx110_9 hHeld ⊢
             refine pu 0 (some 12) (bw 37 1) HT_.out (h := ?_)
             refine tk 1 (some 13) (bw 37 3) HT_.out HW_.out hHeld (h := ?_)
             refine one_ (i := 2) (N := some 14) (bw 37 7) rfl rfl (one_of HT_.out (by kernel_rfl)) (by decide) (fun K hK => ?_)
             refine goes_ Try.func34 (by kernel_rfl) rfl #[.int .i64 ((rd_T46 l0 x7_1).f0)] (by rfl) rfl rfl pL ?_
             with_reducible refine (raft_counts.calls ((rd_T46 l0 x7_1).f0) true _ A5.out).mono ?_
             rintro e w' ⟨rfl, ⟨nd, rfl⟩⟩
             refine ⟨_, rfl, ?_⟩
             refine hK.out _ _ ⟨(blk_cell BK106.out 0).trans rfl, (blk_cell BK106.out 1).trans rfl, (blk_cell BK106.out 2).trans rfl, (blk_cell BK106.out 3).trans rfl, (blk_cell BK106.out 4).trans rfl, (blk_cell BK106.out 5).trans rfl, (blk_cell BK106.out 6).trans rfl, (blk_cell BK106.out 7).trans rfl, (blk_cell BK106.out 8).trans rfl, (blk_cell BK106.out 9).trans rfl, (cT HB.out hw109_0), (cT HB.out hw109_1), (cT HB.out hw109_2), (cT HB.out hw109_3), (cT HB.out hw109_4), (cT HB.out hw109_5), (cT HB.out hw109_6), (cT HB.out hw109_7), (cT HB.out hw109_8), (cT HB.out hw109_9)⟩ (fun hHeld => ?_)
             clear hK K
             refine norm_ (a' := ?_) ?_ ?_
             rotate_left
             ·show Act.put _ (some 14) _ = _
              simp only [Act.put, List.setIfInBounds_toArray, List.set_cons_zero, List.set_cons_succ, i64_w, i32_w]
              rfl
             refine pu 3 (some 15) (bw 37 15) HT_.out (h := ?_)
             refine pu 4 (some 16) (bw 37 31) HT_.out (h := ?_)
             refine pu 5 (some 17) (bw 37 63) HT_.out (h := ?_)
             refine tk 6 (some 18) (bw 37 127) HT_.out HW_.out hHeld (h := ?_)
             refine one_ (i := 7) (N := some 19) (bw 37 255) rfl rfl (one_of HT_.out (by kernel_rfl)) (by decide) (fun K hK => ?_)
             refine goes_ Try.func34 (by kernel_rfl) rfl #[.int .i64 ((rd_T46 l0 x7_1).f1)] (by rfl) rfl rfl pL ?_
             with_reducible refine (raft_counts.calls ((rd_T46 l0 x7_1).f1) true _ A7.out).mono ?_
             rintro e w' ⟨rfl, ⟨nd, rfl⟩⟩
             refine ⟨_, rfl, ?_⟩
             refine hK.out _ _ ⟨(blk_cell BK106.out 0).trans rfl, (blk_cell BK106.out 1).trans rfl, (blk_cell BK106.out 2).trans rfl, (blk_cell BK106.out 3).trans rfl, (blk_cell BK106.out 4).trans rfl, (blk_cell BK106.out 5).trans rfl, (blk_cell BK106.out 6).trans rfl, (blk_cell BK106.out 7).trans rfl, (blk_cell BK106.out 8).trans rfl, (blk_cell BK106.out 9).trans rfl, (cT HB.out hw109_0), (cT HB.out hw109_1), (cT HB.out hw109_2), (cT HB.out hw109_3), (cT HB.out hw109_4), (cT HB.out hw109_5), (cT HB.out hw109_6), (cT HB.out hw109_7), (cT HB.out hw109_8), (cT HB.out hw109_9)⟩ (fun hHeld => ?_)
             clear hK K
             refine norm_ (a' := ?_) ?_ ?_
             rotate_left
             ·show Act.put _ (some 19) _ = _
              simp only [Act.put, List.setIfInBounds_toArray, List.set_cons_zero, List.set_cons_succ, i64_w, i32_w]
              rfl
             refine pu 8 (some 20) (bw 37 511) HT_.out (h := ?_)
             refine pu 9 (some 21) (bw 37 1023) HT_.out (h := ?_)
             refine pu 10 (some 22) (bw 37 2047) HT_.out (h := ?_)
             refine pu 11 (some 23) (bw 37 4095) HT_.out (h := ?_)
             refine pu 12 (some 24) (bw 37 8191) HT_.out (h := ?_)
             refine pu 13 (some 25) (bw 37 16383) HT_.out (h := ?_)
             refine pu 14 (some 26) (bw 37 32767) HT_.out (h := ?_)
             refine pu 17 (some 29) (bw 37 163839) HT_.out (h := ?_)
             refine pu 18 (some 30) (bw 37 425983) HT_.out (h := ?_)
             refine pu 19 (some 31) (bw 37 950271) HT_.out (h := ?_)
             refine pu 20 (some 32) (bw 37 1998847) HT_.out (h := ?_)
             refine pu 21 (some 33) (bw 37 4095999) HT_.out (h := ?_)
             refine tk 15 (some 27) (bw 37 4128767) HT_.out HW_.out hHeld (h := ?_)
             refine pu 16 (some 28) (bw 37 4194303) HT_.out (h := ?_)
             refine tk 22 (some 34) (bw 37 8388607) HT_.out HW_.out hHeld (h := ?_)
             refine pu 23 (some 35) (bw 37 16777215) HT_.out (h := ?_)
             refine pu 24 (some 36) (bw 37 33554431) HT_.out (h := ?_)
             refine pu 25 (some 37) (bw 37 67108863) HT_.out (h := ?_)
             refine pu 27 (some 39) (bw 37 201326591) HT_.out (h := ?_)
             refine pu 28 (some 40) (bw 37 469762047) HT_.out (h := ?_)
             refine pu 29 (some 41) (bw 37 1006632959) HT_.out (h := ?_)
             refine pu 30 (some 42) (bw 37 2080374783) HT_.out (h := ?_)
             refine pu 31 (some 43) (bw 37 4227858431) HT_.out (h := ?_)
             refine tk 26 (some 38) (bw 37 4294967295) HT_.out HW_.out hHeld (h := ?_)
             refine tk 32 (some 44) (bw 37 8589934591) HT_.out HW_.out hHeld (h := ?_)
             refine pu 33 (some 45) (bw 37 17179869183) HT_.out (h := ?_)
             refine pu 34 (some 46) (bw 37 34359738367) HT_.out (h := ?_)
             refine pu 35 (some 47) (bw 37 68719476735) HT_.out (h := ?_)
             refine pu 36 (some 48) (bw 37 137438953471) HT_.out (h := ?_)
             refine done_ (done_of HT_.out (by kernel_rfl)) ?_
             try go_wp2
             go_roundg k1
             case measure => have := HK1.out; omega
             case rel => exact ⟨(wrap64 (x7_1 + 1)), (by first | rfl | (simp; done) | (simp [*]; done)), H', ⟨by have := HK1.out; omega⟩, ⟨pE HB.out GE106.out⟩⟩
           ·rw [if_neg c13] at H
            have c13b0 : ((wrap64 (((rd_T46 l0 x7_1).f0) - 1)) == ((rd_T46 l0 (ji10)).f0)) = false := beq_eq_false_iff_ne.mpr c13
            have c13b1 : ((wrap64 (((rd_T46 l0 x7_1).f0) - 1)) != ((rd_T46 l0 (ji10)).f0)) = true := bne_iff_ne.mpr c13
            obtain rfl := Option.some.inj H
            have p105 : 0 ≤ (x7_1 : Int) := of_decide_eq_true pS
            have q105 : x7_1 < (l0.length : Int) := of_decide_eq_true pS
            obtain ⟨ad105, A105_5, c105_5, e105, hx105_0, hx105_1, hx105_2, hx105_3, hx105_4, hx105_5, hx105_6, hx105_7, hx105_8, hx105_9, hl105_5, hi105_5⟩ := at_T46 HR0.out x7_1 p105 q105
            cases e105
            replace hx105_0 := cU HB.out hx105_0
            replace hx105_1 := cU HB.out hx105_1
            replace hx105_2 := cU HB.out hx105_2
            replace hx105_3 := cU HB.out hx105_3
            replace hx105_4 := cU HB.out hx105_4
            replace hx105_5 := cU HB.out hx105_5
            replace hx105_6 := cU HB.out hx105_6
            replace hx105_7 := cU HB.out hx105_7
            replace hx105_8 := cU HB.out hx105_8
            replace hx105_9 := cU HB.out hx105_9
            have HR105_5 := Aside0.mk hi105_5
            have HC105_5 := Aside0.mk hl105_5
            clear hi105_5 hl105_5
            replace p105 := eq_true p105
            replace q105 := eq_true q105
            try go_wp2_with (first | ((with_reducible refine gate_dst (N := 4) rfl ?_); refine box_event ?hg (N := 4) ?hd (cs := #[.int .i64 0, .int .i64 0, .int .i64 0, .string (⟨#[]⟩ : ByteArray), .bool false, .slice none 0 0, .int .i64 0, .int .i64 0, .int .i64 0, .int .u32 0]) (t := 46) ?hr ?_; (case hd => rfl); (case hg => rfl); (case hr => first | (go_simp; done) | (go_simp; rfl)); intro gb106 hg w23 hbox hb; have n0_ := Aside0.mk (below_step (pB HB.out) hb); have n1_ := Aside0.mk (hbox); have n2_ := Aside0.mk ((by rw [hg]; exact (below_size (pB HB.out)) : w.heap.size ≤ gb106)); have n3_ := n2_; clear HB; have HB := n0_; have BK106 := n1_; have GW106 := n2_; have GE106 := n3_; clear n0_ n1_ n2_ n3_ hb hbox hg; obtain ⟨hcz24_0, hcz24_1, hcz24_2, hcz24_3, hcz24_4, hcz24_5, hcz24_6, hcz24_7, hcz24_8, hcz24_9⟩ := bc10 BK106.out; obtain ⟨hfz24_0, hfz24_1, hfz24_2, hfz24_3, hfz24_4, hfz24_5, hfz24_6, hfz24_7, hfz24_8, hfz24_9⟩ := bf10 BK106.out))
            have n0_ : Aside0 (((((((((((w23.setCell ⟨gb106, 0, none⟩ (.int .i64 ((rd_T46 l0 x7_1).f0))).setCell ⟨gb106, 1, none⟩ (.int .i64 ((rd_T46 l0 x7_1).f1))).setCell ⟨gb106, 2, none⟩ (.int .i64 ((rd_T46 l0 x7_1).f2))).setCell ⟨gb106, 3, none⟩ (.string ((rd_T46 l0 x7_1).f3))).setCell ⟨gb106, 4, none⟩ (.bool ((rd_T46 l0 x7_1).f4.f0))).setCell ⟨gb106, 5, none⟩ (.slice A105_5 ((rd_T46 l0 x7_1).f4.f1).length c105_5)).setCell ⟨gb106, 6, none⟩ (.int .i64 ((rd_T46 l0 x7_1).f4.f2.f0))).setCell ⟨gb106, 7, none⟩ (.int .i64 ((rd_T46 l0 x7_1).f4.f2.f1))).setCell ⟨gb106, 8, none⟩ (.int .i64 ((rd_T46 l0 x7_1).f4.f2.f2))).setCell ⟨gb106, 9, none⟩ (.int .u32 ((rd_T46 l0 x7_1).f4.f2.f3))).heap[gb106]? = some (.cells #[.int .i64 ((rd_T46 l0 x7_1).f0), .int .i64 ((rd_T46 l0 x7_1).f1), .int .i64 ((rd_T46 l0 x7_1).f2), .string ((rd_T46 l0 x7_1).f3), .bool ((rd_T46 l0 x7_1).f4.f0), .slice A105_5 ((rd_T46 l0 x7_1).f4.f1).length c105_5, .int .i64 ((rd_T46 l0 x7_1).f4.f2.f0), .int .i64 ((rd_T46 l0 x7_1).f4.f2.f1), .int .i64 ((rd_T46 l0 x7_1).f4.f2.f2), .int .u32 ((rd_T46 l0 x7_1).f4.f2.f3)] 46 (0, 0))) := ⟨kX0 BK106.out⟩
            have n1_ : Aside0 (Below w.heap.size w ((((((((((w23.setCell ⟨gb106, 0, none⟩ (.int .i64 ((rd_T46 l0 x7_1).f0))).setCell ⟨gb106, 1, none⟩ (.int .i64 ((rd_T46 l0 x7_1).f1))).setCell ⟨gb106, 2, none⟩ (.int .i64 ((rd_T46 l0 x7_1).f2))).setCell ⟨gb106, 3, none⟩ (.string ((rd_T46 l0 x7_1).f3))).setCell ⟨gb106, 4, none⟩ (.bool ((rd_T46 l0 x7_1).f4.f0))).setCell ⟨gb106, 5, none⟩ (.slice A105_5 ((rd_T46 l0 x7_1).f4.f1).length c105_5)).setCell ⟨gb106, 6, none⟩ (.int .i64 ((rd_T46 l0 x7_1).f4.f2.f0))).setCell ⟨gb106, 7, none⟩ (.int .i64 ((rd_T46 l0 x7_1).f4.f2.f1))).setCell ⟨gb106, 8, none⟩ (.int .i64 ((rd_T46 l0 x7_1).f4.f2.f2))).setCell ⟨gb106, 9, none⟩ (.int .u32 ((rd_T46 l0 x7_1).f4.f2.f3)))) := ⟨pE HB.out GE106.out⟩
            (try clear BK106)
            (try clear HB)
            generalize ((((((((((w23.setCell ⟨gb106, 0, none⟩ (.int .i64 ((rd_T46 l0 x7_1).f0))).setCell ⟨gb106, 1, none⟩ (.int .i64 ((rd_T46 l0 x7_1).f1))).setCell ⟨gb106, 2, none⟩ (.int .i64 ((rd_T46 l0 x7_1).f2))).setCell ⟨gb106, 3, none⟩ (.string ((rd_T46 l0 x7_1).f3))).setCell ⟨gb106, 4, none⟩ (.bool ((rd_T46 l0 x7_1).f4.f0))).setCell ⟨gb106, 5, none⟩ (.slice A105_5 ((rd_T46 l0 x7_1).f4.f1).length c105_5)).setCell ⟨gb106, 6, none⟩ (.int .i64 ((rd_T46 l0 x7_1).f4.f2.f0))).setCell ⟨gb106, 7, none⟩ (.int .i64 ((rd_T46 l0 x7_1).f4.f2.f1))).setCell ⟨gb106, 8, none⟩ (.int .i64 ((rd_T46 l0 x7_1).f4.f2.f2))).setCell ⟨gb106, 9, none⟩ (.int .u32 ((rd_T46 l0 x7_1).f4.f2.f3))) = w25 at n0_ n1_ ⊢
            have BK106 := n0_
            have HB := n1_
            clear n0_ n1_
            have n0_ := Aside0.mk (blk_drew BK106.out)
            have n1_ := Aside0.mk (below_drew1 HB.out)
            clear BK106
            clear HB
            have BK106 := n0_
            have HB := n1_
            clear n0_ n1_
            have p109 : 0 ≤ ((ji10) : Int) := of_decide_eq_true pS
            have q109 : (ji10) < (l0.length : Int) := of_decide_eq_true pS
            obtain ⟨ad109, A109_5, c109_5, e109, hx109_0, hx109_1, hx109_2, hx109_3, hx109_4, hx109_5, hx109_6, hx109_7, hx109_8, hx109_9, hl109_5, hi109_5⟩ := at_T46 HR0.out (ji10) p109 q109
            have hw109_9 := hx109_9
            have hw109_8 := hx109_8
            have hw109_7 := hx109_7
            have hw109_6 := hx109_6
            have hw109_5 := hx109_5
            have hw109_4 := hx109_4
            have hw109_3 := hx109_3
            have hw109_2 := hx109_2
            have hw109_1 := hx109_1
            have hw109_0 := hx109_0
            obtain rfl : ad105 = ad109 := (by injection e109)
            replace hx109_0 := cU HB.out hx109_0
            replace hx109_1 := cU HB.out hx109_1
            replace hx109_2 := cU HB.out hx109_2
            replace hx109_3 := cU HB.out hx109_3
            replace hx109_4 := cU HB.out hx109_4
            replace hx109_5 := cU HB.out hx109_5
            replace hx109_6 := cU HB.out hx109_6
            replace hx109_7 := cU HB.out hx109_7
            replace hx109_8 := cU HB.out hx109_8
            replace hx109_9 := cU HB.out hx109_9
            have HR109_5 := Aside0.mk hi109_5
            have HC109_5 := Aside0.mk hl109_5
            clear hi109_5 hl109_5
            replace p109 := eq_true p109
            replace q109 := eq_true q109
            refine start_ (n := 37) (S := fun w' => cG w' gb106 0 (.int .i64 ((rd_T46 l0 x7_1).f0)) ∧ cG w' gb106 1 (.int .i64 ((rd_T46 l0 x7_1).f1)) ∧ cG w' gb106 2 (.int .i64 ((rd_T46 l0 x7_1).f2)) ∧ cG w' gb106 3 (.string ((rd_T46 l0 x7_1).f3)) ∧ cG w' gb106 4 (.bool ((rd_T46 l0 x7_1).f4.f0)) ∧ cG w' gb106 5 (.slice A105_5 ((rd_T46 l0 x7_1).f4.f1).length c105_5) ∧ cG w' gb106 6 (.int .i64 ((rd_T46 l0 x7_1).f4.f2.f0)) ∧ cG w' gb106 7 (.int .i64 ((rd_T46 l0 x7_1).f4.f2.f1)) ∧ cG w' gb106 8 (.int .i64 ((rd_T46 l0 x7_1).f4.f2.f2)) ∧ cG w' gb106 9 (.int .u32 ((rd_T46 l0 x7_1).f4.f2.f3)) ∧ w'.cell? (ad105.add (((ji10)).toNat * 10)) = some (.int .i64 ((rd_T46 l0 (ji10)).f0)) ∧ w'.cell? ⟨(ad105.add (((ji10)).toNat * 10)).block, (ad105.add (((ji10)).toNat * 10)).off + 1, none⟩ = some (.int .i64 ((rd_T46 l0 (ji10)).f1)) ∧ w'.cell? ⟨(ad105.add (((ji10)).toNat * 10)).block, (ad105.add (((ji10)).toNat * 10)).off + 2, none⟩ = some (.int .i64 ((rd_T46 l0 (ji10)).f2)) ∧ w'.cell? ⟨(ad105.add (((ji10)).toNat * 10)).block, (ad105.add (((ji10)).toNat * 10)).off + 3, none⟩ = some (.string ((rd_T46 l0 (ji10)).f3)) ∧ w'.cell? ⟨(ad105.add (((ji10)).toNat * 10)).block, (ad105.add (((ji10)).toNat * 10)).off + 4, none⟩ = some (.bool ((rd_T46 l0 (ji10)).f4.f0)) ∧ w'.cell? ⟨(ad105.add (((ji10)).toNat * 10)).block, (ad105.add (((ji10)).toNat * 10)).off + 5, none⟩ = some (.slice A109_5 ((rd_T46 l0 (ji10)).f4.f1).length c109_5) ∧ w'.cell? ⟨(ad105.add (((ji10)).toNat * 10)).block, (ad105.add (((ji10)).toNat * 10)).off + 6, none⟩ = some (.int .i64 ((rd_T46 l0 (ji10)).f4.f2.f0)) ∧ w'.cell? ⟨(ad105.add (((ji10)).toNat * 10)).block, (ad105.add (((ji10)).toNat * 10)).off + 7, none⟩ = some (.int .i64 ((rd_T46 l0 (ji10)).f4.f2.f1)) ∧ w'.cell? ⟨(ad105.add (((ji10)).toNat * 10)).block, (ad105.add (((ji10)).toNat * 10)).off + 8, none⟩ = some (.int .i64 ((rd_T46 l0 (ji10)).f4.f2.f2)) ∧ w'.cell? ⟨(ad105.add (((ji10)).toNat * 10)).block, (ad105.add (((ji10)).toNat * 10)).off + 9, none⟩ = some (.int .u32 ((rd_T46 l0 (ji10)).f4.f2.f3))) (ds := []) #[false, false, false, false, false, false, false, false, false, false, false, false, false, false, false, false, false, false, false, false, false, false, false, false, false, false, false, false, false, false, false, false, false, false, false, false, false] (by kernel_rfl) rfl rfl ⟨(blk_cell BK106.out 0).trans rfl, (blk_cell BK106.out 1).trans rfl, (blk_cell BK106.out 2).trans rfl, (blk_cell BK106.out 3).trans rfl, (blk_cell BK106.out 4).trans rfl, (blk_cell BK106.out 5).trans rfl, (blk_cell BK106.out 6).trans rfl, (blk_cell BK106.out 7).trans rfl, (blk_cell BK106.out 8).trans rfl, (blk_cell BK106.out 9).trans rfl, (cT HB.out hw109_0), (cT HB.out hw109_1), (cT HB.out hw109_2), (cT HB.out hw109_3), (cT HB.out hw109_4), (cT HB.out hw109_5), (cT HB.out hw109_6), (cT HB.out hw109_7), (cT HB.out hw109_8), (cT HB.out hw109_9)⟩ (fun hHeld => ?_); refine with_tabW raft_rows.tab4 raft_rows.bits4 (fun HT_ HW_ => ?_)
            generalize w25.drew = w26 at BK106 HB HR109_5 hx109_0 hx109_1 hx109_2 hx109_3 hx109_4 hx109_5 hx109_6 hx109_7 hx109_8 hx109_9 hHeld ⊢
            refine pu 0 (some 12) (bw 37 1) HT_.out (h := ?_)
            refine tk 1 (some 13) (bw 37 3) HT_.out HW_.out hHeld (h := ?_)
            refine one_ (i := 2) (N := some 14) (bw 37 7) rfl rfl (one_of HT_.out (by kernel_rfl)) (by decide) (fun K hK => ?_)
            refine goes_ Try.func34 (by kernel_rfl) rfl #[.int .i64 ((rd_T46 l0 x7_1).f0)] (by rfl) rfl rfl pL ?_
            with_reducible refine (raft_counts.calls ((rd_T46 l0 x7_1).f0) true _ A5.out).mono ?_
            rintro e w' ⟨rfl, ⟨nd, rfl⟩⟩
            refine ⟨_, rfl, ?_⟩
            refine hK.out _ _ ⟨(blk_cell BK106.out 0).trans rfl, (blk_cell BK106.out 1).trans rfl, (blk_cell BK106.out 2).trans rfl, (blk_cell BK106.out 3).trans rfl, (blk_cell BK106.out 4).trans rfl, (blk_cell BK106.out 5).trans rfl, (blk_cell BK106.out 6).trans rfl, (blk_cell BK106.out 7).trans rfl, (blk_cell BK106.out 8).trans rfl, (blk_cell BK106.out 9).trans rfl, (cT HB.out hw109_0), (cT HB.out hw109_1), (cT HB.out hw109_2), (cT HB.out hw109_3), (cT HB.out hw109_4), (cT HB.out hw109_5), (cT HB.out hw109_6), (cT HB.out hw109_7), (cT HB.out hw109_8), (cT HB.out hw109_9)⟩ (fun hHeld => ?_)
            clear hK K
            refine norm_ (a' := ?_) ?_ ?_
            rotate_left
            ·show Act.put _ (some 14) _ = _
             simp only [Act.put, List.setIfInBounds_toArray, List.set_cons_zero, List.set_cons_succ, i64_w, i32_w]
             rfl
            refine pu 3 (some 15) (bw 37 15) HT_.out (h := ?_)
            refine pu 4 (some 16) (bw 37 31) HT_.out (h := ?_)
            refine pu 5 (some 17) (bw 37 63) HT_.out (h := ?_)
            refine tk 6 (some 18) (bw 37 127) HT_.out HW_.out hHeld (h := ?_)
            refine one_ (i := 7) (N := some 19) (bw 37 255) rfl rfl (one_of HT_.out (by kernel_rfl)) (by decide) (fun K hK => ?_)
            refine goes_ Try.func34 (by kernel_rfl) rfl #[.int .i64 ((rd_T46 l0 x7_1).f1)] (by rfl) rfl rfl pL ?_
            with_reducible refine (raft_counts.calls ((rd_T46 l0 x7_1).f1) true _ A7.out).mono ?_
            rintro e w' ⟨rfl, ⟨nd, rfl⟩⟩
            refine ⟨_, rfl, ?_⟩
            refine hK.out _ _ ⟨(blk_cell BK106.out 0).trans rfl, (blk_cell BK106.out 1).trans rfl, (blk_cell BK106.out 2).trans rfl, (blk_cell BK106.out 3).trans rfl, (blk_cell BK106.out 4).trans rfl, (blk_cell BK106.out 5).trans rfl, (blk_cell BK106.out 6).trans rfl, (blk_cell BK106.out 7).trans rfl, (blk_cell BK106.out 8).trans rfl, (blk_cell BK106.out 9).trans rfl, (cT HB.out hw109_0), (cT HB.out hw109_1), (cT HB.out hw109_2), (cT HB.out hw109_3), (cT HB.out hw109_4), (cT HB.out hw109_5), (cT HB.out hw109_6), (cT HB.out hw109_7), (cT HB.out hw109_8), (cT HB.out hw109_9)⟩ (fun hHeld => ?_)
            clear hK K
            refine norm_ (a' := ?_) ?_ ?_
            rotate_left
            ·show Act.put _ (some 19) _ = _
             simp only [Act.put, List.setIfInBounds_toArray, List.set_cons_zero, List.set_cons_succ, i64_w, i32_w]
             rfl
            refine pu 8 (some 20) (bw 37 511) HT_.out (h := ?_)
            refine pu 9 (some 21) (bw 37 1023) HT_.out (h := ?_)
            refine pu 10 (some 22) (bw 37 2047) HT_.out (h := ?_)
            refine pu 11 (some 23) (bw 37 4095) HT_.out (h := ?_)
            refine pu 12 (some 24) (bw 37 8191) HT_.out (h := ?_)
            refine pu 13 (some 25) (bw 37 16383) HT_.out (h := ?_)
            refine pu 14 (some 26) (bw 37 32767) HT_.out (h := ?_)
            refine pu 17 (some 29) (bw 37 163839) HT_.out (h := ?_)
            refine pu 18 (some 30) (bw 37 425983) HT_.out (h := ?_)
            refine pu 19 (some 31) (bw 37 950271) HT_.out (h := ?_)
            refine pu 20 (some 32) (bw 37 1998847) HT_.out (h := ?_)
            refine pu 21 (some 33) (bw 37 4095999) HT_.out (h := ?_)
            refine tk 15 (some 27) (bw 37 4128767) HT_.out HW_.out hHeld (h := ?_)
            refine pu 16 (some 28) (bw 37 4194303) HT_.out (h := ?_)
            refine tk 22 (some 34) (bw 37 8388607) HT_.out HW_.out hHeld (h := ?_)
            refine pu 23 (some 35) (bw 37 16777215) HT_.out (h := ?_)
            refine pu 24 (some 36) (bw 37 33554431) HT_.out (h := ?_)
            refine pd 25 (some 37) (bw 37 67108863) HT_.out (h := ?_)
            refine pd 26 (some 38) (bw 37 134217727) HT_.out (h := ?_)
            refine pd 27 (some 39) (bw 37 268435455) HT_.out (h := ?_)
            refine pd 28 (some 40) (bw 37 536870911) HT_.out (h := ?_)
            refine pd 29 (some 41) (bw 37 1073741823) HT_.out (h := ?_)
            refine pd 30 (some 42) (bw 37 2147483647) HT_.out (h := ?_)
            refine pd 31 (some 43) (bw 37 4294967295) HT_.out (h := ?_)
            refine pd 32 (some 44) (bw 37 8589934591) HT_.out (h := ?_)
            refine pd 33 (some 45) (bw 37 17179869183) HT_.out (h := ?_)
            refine pu 34 (some 46) (bw 37 34359738367) HT_.out (h := ?_)
            refine pu 35 (some 47) (bw 37 68719476735) HT_.out (h := ?_)
            refine pu 36 (some 48) (bw 37 137438953471) HT_.out (h := ?_)
            refine done_ (done_of HT_.out (by kernel_rfl)) ?_
            try go_wp2
            go_ret
            exact ⟨by first | rfl | (simp [errW_none, errW_some] <;> rfl) | (simp only [← hji10]; first | rfl | (simp [errW_none, errW_some] <;> rfl)) | (simp [*, errW_none, errW_some] <;> rfl), pE HB.out GE106.out⟩
          ·rw [if_neg c12] at H
           exact absurd H (by simp)
         ·rw [if_neg c11] at H
          exact absurd H (by simp)
        ·rw [if_neg c9] at H
         have c9b0 : decide (0 < x7_1) = false := decide_eq_false c9
         clear c9
         have H' := Aside0.mk H
         clear H
         have p105 : 0 ≤ (x7_1 : Int) := of_decide_eq_true pS
         have q105 : x7_1 < (l0.length : Int) := of_decide_eq_true pS
         obtain ⟨ad105, A105_5, c105_5, e105, hx105_0, hx105_1, hx105_2, hx105_3, hx105_4, hx105_5, hx105_6, hx105_7, hx105_8, hx105_9, hl105_5, hi105_5⟩ := at_T46 HR0.out x7_1 p105 q105
         cases e105
         replace hx105_0 := cU HB.out hx105_0
         replace hx105_1 := cU HB.out hx105_1
         replace hx105_2 := cU HB.out hx105_2
         replace hx105_3 := cU HB.out hx105_3
         replace hx105_4 := cU HB.out hx105_4
         replace hx105_5 := cU HB.out hx105_5
         replace hx105_6 := cU HB.out hx105_6
         replace hx105_7 := cU HB.out hx105_7
         replace hx105_8 := cU HB.out hx105_8
         replace hx105_9 := cU HB.out hx105_9
         have HR105_5 := Aside0.mk hi105_5
         have HC105_5 := Aside0.mk hl105_5
         clear hi105_5 hl105_5
         replace p105 := eq_true p105
         replace q105 := eq_true q105
         try go_wp2_with (first | ((with_reducible refine gate_dst (N := 4) rfl ?_); refine box_event ?hg (N := 4) ?hd (cs := #[.int .i64 0, .int .i64 0, .int .i64 0, .string (⟨#[]⟩ : ByteArray), .bool false, .slice none 0 0, .int .i64 0, .int .i64 0, .int .i64 0, .int .u32 0]) (t := 46) ?hr ?_; (case hd => rfl); (case hg => rfl); (case hr => first | (go_simp; done) | (go_simp; rfl)); intro gb106 hg w27 hbox hb; have n0_ := Aside0.mk (below_step (pB HB.out) hb); have n1_ := Aside0.mk (hbox); have n2_ := Aside0.mk ((by rw [hg]; exact (below_size (pB HB.out)) : w.heap.size ≤ gb106)); have n3_ := n2_; clear HB; have HB := n0_; have BK106 := n1_; have GW106 := n2_; have GE106 := n3_; clear n0_ n1_ n2_ n3_ hb hbox hg; obtain ⟨hcz28_0, hcz28_1, hcz28_2, hcz28_3, hcz28_4, hcz28_5, hcz28_6, hcz28_7, hcz28_8, hcz28_9⟩ := bc10 BK106.out; obtain ⟨hfz28_0, hfz28_1, hfz28_2, hfz28_3, hfz28_4, hfz28_5, hfz28_6, hfz28_7, hfz28_8, hfz28_9⟩ := bf10 BK106.out))
         have n0_ : Aside0 (((((((((((w27.setCell ⟨gb106, 0, none⟩ (.int .i64 ((rd_T46 l0 x7_1).f0))).setCell ⟨gb106, 1, none⟩ (.int .i64 ((rd_T46 l0 x7_1).f1))).setCell ⟨gb106, 2, none⟩ (.int .i64 ((rd_T46 l0 x7_1).f2))).setCell ⟨gb106, 3, none⟩ (.string ((rd_T46 l0 x7_1).f3))).setCell ⟨gb106, 4, none⟩ (.bool ((rd_T46 l0 x7_1).f4.f0))).setCell ⟨gb106, 5, none⟩ (.slice A105_5 ((rd_T46 l0 x7_1).f4.f1).length c105_5)).setCell ⟨gb106, 6, none⟩ (.int .i64 ((rd_T46 l0 x7_1).f4.f2.f0))).setCell ⟨gb106, 7, none⟩ (.int .i64 ((rd_T46 l0 x7_1).f4.f2.f1))).setCell ⟨gb106, 8, none⟩ (.int .i64 ((rd_T46 l0 x7_1).f4.f2.f2))).setCell ⟨gb106, 9, none⟩ (.int .u32 ((rd_T46 l0 x7_1).f4.f2.f3))).heap[gb106]? = some (.cells #[.int .i64 ((rd_T46 l0 x7_1).f0), .int .i64 ((rd_T46 l0 x7_1).f1), .int .i64 ((rd_T46 l0 x7_1).f2), .string ((rd_T46 l0 x7_1).f3), .bool ((rd_T46 l0 x7_1).f4.f0), .slice A105_5 ((rd_T46 l0 x7_1).f4.f1).length c105_5, .int .i64 ((rd_T46 l0 x7_1).f4.f2.f0), .int .i64 ((rd_T46 l0 x7_1).f4.f2.f1), .int .i64 ((rd_T46 l0 x7_1).f4.f2.f2), .int .u32 ((rd_T46 l0 x7_1).f4.f2.f3)] 46 (0, 0))) := ⟨kX0 BK106.out⟩
         have n1_ : Aside0 (Below w.heap.size w ((((((((((w27.setCell ⟨gb106, 0, none⟩ (.int .i64 ((rd_T46 l0 x7_1).f0))).setCell ⟨gb106, 1, none⟩ (.int .i64 ((rd_T46 l0 x7_1).f1))).setCell ⟨gb106, 2, none⟩ (.int .i64 ((rd_T46 l0 x7_1).f2))).setCell ⟨gb106, 3, none⟩ (.string ((rd_T46 l0 x7_1).f3))).setCell ⟨gb106, 4, none⟩ (.bool ((rd_T46 l0 x7_1).f4.f0))).setCell ⟨gb106, 5, none⟩ (.slice A105_5 ((rd_T46 l0 x7_1).f4.f1).length c105_5)).setCell ⟨gb106, 6, none⟩ (.int .i64 ((rd_T46 l0 x7_1).f4.f2.f0))).setCell ⟨gb106, 7, none⟩ (.int .i64 ((rd_T46 l0 x7_1).f4.f2.f1))).setCell ⟨gb106, 8, none⟩ (.int .i64 ((rd_T46 l0 x7_1).f4.f2.f2))).setCell ⟨gb106, 9, none⟩ (.int .u32 ((rd_T46 l0 x7_1).f4.f2.f3)))) := ⟨pE HB.out GE106.out⟩
         (try clear BK106)
         (try clear HB)
         generalize ((((((((((w27.setCell ⟨gb106, 0, none⟩ (.int .i64 ((rd_T46 l0 x7_1).f0))).setCell ⟨gb106, 1, none⟩ (.int .i64 ((rd_T46 l0 x7_1).f1))).setCell ⟨gb106, 2, none⟩ (.int .i64 ((rd_T46 l0 x7_1).f2))).setCell ⟨gb106, 3, none⟩ (.string ((rd_T46 l0 x7_1).f3))).setCell ⟨gb106, 4, none⟩ (.bool ((rd_T46 l0 x7_1).f4.f0))).setCell ⟨gb106, 5, none⟩ (.slice A105_5 ((rd_T46 l0 x7_1).f4.f1).length c105_5)).setCell ⟨gb106, 6, none⟩ (.int .i64 ((rd_T46 l0 x7_1).f4.f2.f0))).setCell ⟨gb106, 7, none⟩ (.int .i64 ((rd_T46 l0 x7_1).f4.f2.f1))).setCell ⟨gb106, 8, none⟩ (.int .i64 ((rd_T46 l0 x7_1).f4.f2.f2))).setCell ⟨gb106, 9, none⟩ (.int .u32 ((rd_T46 l0 x7_1).f4.f2.f3))) = w29 at n0_ n1_ ⊢
         have BK106 := n0_
         have HB := n1_
         clear n0_ n1_
         have n0_ := Aside0.mk (blk_drew BK106.out)
         have n1_ := Aside0.mk (below_drew1 HB.out)
         clear BK106
         clear HB
         have BK106 := n0_
         have HB := n1_
         clear n0_ n1_
         refine start_ (n := 37) (S := fun w' => cG w' gb106 0 (.int .i64 ((rd_T46 l0 x7_1).f0)) ∧ cG w' gb106 1 (.int .i64 ((rd_T46 l0 x7_1).f1)) ∧ cG w' gb106 2 (.int .i64 ((rd_T46 l0 x7_1).f2)) ∧ cG w' gb106 3 (.string ((rd_T46 l0 x7_1).f3)) ∧ cG w' gb106 4 (.bool ((rd_T46 l0 x7_1).f4.f0)) ∧ cG w' gb106 5 (.slice A105_5 ((rd_T46 l0 x7_1).f4.f1).length c105_5) ∧ cG w' gb106 6 (.int .i64 ((rd_T46 l0 x7_1).f4.f2.f0)) ∧ cG w' gb106 7 (.int .i64 ((rd_T46 l0 x7_1).f4.f2.f1)) ∧ cG w' gb106 8 (.int .i64 ((rd_T46 l0 x7_1).f4.f2.f2)) ∧ cG w' gb106 9 (.int .u32 ((rd_T46 l0 x7_1).f4.f2.f3))) (ds := []) #[false, false, false, false, false, false, false, false, false, false, false, false, false, false, false, false, false, false, false, false, false, false, false, false, false, false, false, false, false, false, false, false, false, false, false, false, false] (by kernel_rfl) rfl rfl ⟨(blk_cell BK106.out 0).trans rfl, (blk_cell BK106.out 1).trans rfl, (blk_cell BK106.out 2).trans rfl, (blk_cell BK106.out 3).trans rfl, (blk_cell BK106.out 4).trans rfl, (blk_cell BK106.out 5).trans rfl, (blk_cell BK106.out 6).trans rfl, (blk_cell BK106.out 7).trans rfl, (blk_cell BK106.out 8).trans rfl, (blk_cell BK106.out 9).trans rfl⟩ (fun hHeld => ?_); refine with_tabW raft_rows.tab4 raft_rows.bits4 (fun HT_ HW_ => ?_)
         generalize w29.drew = w30 at BK106 HB hHeld ⊢
         refine pu 0 (some 12) (bw 37 1) HT_.out (h := ?_)
         refine tk 1 (some 13) (bw 37 3) HT_.out HW_.out hHeld (h := ?_)
         refine one_ (i := 2) (N := some 14) (bw 37 7) rfl rfl (one_of HT_.out (by kernel_rfl)) (by decide) (fun K hK => ?_)
         refine goes_ Try.func34 (by kernel_rfl) rfl #[.int .i64 ((rd_T46 l0 x7_1).f0)] (by rfl) rfl rfl pL ?_
         with_reducible refine (raft_counts.calls ((rd_T46 l0 x7_1).f0) true _ A5.out).mono ?_
         rintro e w' ⟨rfl, ⟨nd, rfl⟩⟩
         refine ⟨_, rfl, ?_⟩
         refine hK.out _ _ ⟨(blk_cell BK106.out 0).trans rfl, (blk_cell BK106.out 1).trans rfl, (blk_cell BK106.out 2).trans rfl, (blk_cell BK106.out 3).trans rfl, (blk_cell BK106.out 4).trans rfl, (blk_cell BK106.out 5).trans rfl, (blk_cell BK106.out 6).trans rfl, (blk_cell BK106.out 7).trans rfl, (blk_cell BK106.out 8).trans rfl, (blk_cell BK106.out 9).trans rfl⟩ (fun hHeld => ?_)
         clear hK K
         refine norm_ (a' := ?_) ?_ ?_
         rotate_left
         ·show Act.put _ (some 14) _ = _
          simp only [Act.put, List.setIfInBounds_toArray, List.set_cons_zero, List.set_cons_succ, i64_w, i32_w]
          rfl
         refine pu 3 (some 15) (bw 37 15) HT_.out (h := ?_)
         refine pu 4 (some 16) (bw 37 31) HT_.out (h := ?_)
         refine pu 5 (some 17) (bw 37 63) HT_.out (h := ?_)
         refine tk 6 (some 18) (bw 37 127) HT_.out HW_.out hHeld (h := ?_)
         refine one_ (i := 7) (N := some 19) (bw 37 255) rfl rfl (one_of HT_.out (by kernel_rfl)) (by decide) (fun K hK => ?_)
         refine goes_ Try.func34 (by kernel_rfl) rfl #[.int .i64 ((rd_T46 l0 x7_1).f1)] (by rfl) rfl rfl pL ?_
         with_reducible refine (raft_counts.calls ((rd_T46 l0 x7_1).f1) true _ A7.out).mono ?_
         rintro e w' ⟨rfl, ⟨nd, rfl⟩⟩
         refine ⟨_, rfl, ?_⟩
         refine hK.out _ _ ⟨(blk_cell BK106.out 0).trans rfl, (blk_cell BK106.out 1).trans rfl, (blk_cell BK106.out 2).trans rfl, (blk_cell BK106.out 3).trans rfl, (blk_cell BK106.out 4).trans rfl, (blk_cell BK106.out 5).trans rfl, (blk_cell BK106.out 6).trans rfl, (blk_cell BK106.out 7).trans rfl, (blk_cell BK106.out 8).trans rfl, (blk_cell BK106.out 9).trans rfl⟩ (fun hHeld => ?_)
         clear hK K
         refine norm_ (a' := ?_) ?_ ?_
         rotate_left
         ·show Act.put _ (some 19) _ = _
          simp only [Act.put, List.setIfInBounds_toArray, List.set_cons_zero, List.set_cons_succ, i64_w, i32_w]
          rfl
         refine pu 8 (some 20) (bw 37 511) HT_.out (h := ?_)
         refine pu 9 (some 21) (bw 37 1023) HT_.out (h := ?_)
         refine pu 10 (some 22) (bw 37 2047) HT_.out (h := ?_)
         refine pu 11 (some 23) (bw 37 4095) HT_.out (h := ?_)
         refine pu 12 (some 24) (bw 37 8191) HT_.out (h := ?_)
         refine pu 13 (some 25) (bw 37 16383) HT_.out (h := ?_)
         refine pd 14 (some 26) (bw 37 32767) HT_.out (h := ?_)
         refine pd 15 (some 27) (bw 37 65535) HT_.out (h := ?_)
         refine pd 16 (some 28) (bw 37 131071) HT_.out (h := ?_)
         refine pd 17 (some 29) (bw 37 262143) HT_.out (h := ?_)
         refine pd 18 (some 30) (bw 37 524287) HT_.out (h := ?_)
         refine pd 19 (some 31) (bw 37 1048575) HT_.out (h := ?_)
         refine pd 20 (some 32) (bw 37 2097151) HT_.out (h := ?_)
         refine pd 21 (some 33) (bw 37 4194303) HT_.out (h := ?_)
         refine pd 22 (some 34) (bw 37 8388607) HT_.out (h := ?_)
         refine pd 23 (some 35) (bw 37 16777215) HT_.out (h := ?_)
         refine pd 24 (some 36) (bw 37 33554431) HT_.out (h := ?_)
         refine pd 25 (some 37) (bw 37 67108863) HT_.out (h := ?_)
         refine pd 26 (some 38) (bw 37 134217727) HT_.out (h := ?_)
         refine pd 27 (some 39) (bw 37 268435455) HT_.out (h := ?_)
         refine pd 28 (some 40) (bw 37 536870911) HT_.out (h := ?_)
         refine pd 29 (some 41) (bw 37 1073741823) HT_.out (h := ?_)
         refine pd 30 (some 42) (bw 37 2147483647) HT_.out (h := ?_)
         refine pd 31 (some 43) (bw 37 4294967295) HT_.out (h := ?_)
         refine pd 32 (some 44) (bw 37 8589934591) HT_.out (h := ?_)
         refine pd 33 (some 45) (bw 37 17179869183) HT_.out (h := ?_)
         refine pd 34 (some 46) (bw 37 34359738367) HT_.out (h := ?_)
         refine pu 35 (some 47) (bw 37 68719476735) HT_.out (h := ?_)
         refine pu 36 (some 48) (bw 37 137438953471) HT_.out (h := ?_)
         refine done_ (done_of HT_.out (by kernel_rfl)) ?_
         try go_wp2
         go_roundg k1
         case measure => have := HK1.out; omega
         case rel => exact ⟨(wrap64 (x7_1 + 1)), (by first | rfl | (simp; done) | (simp [*]; done)), H', ⟨by have := HK1.out; omega⟩, ⟨pE HB.out GE106.out⟩⟩
       ·replace c8 := Bool.eq_false_iff.mpr c8
        subst c8
        have H1 : (some false) = some r := by rw [if_neg (show ¬ (false = true) by decide)] at H; exact H
        clear H
        have H := H1
        clear H1
        obtain rfl := Option.some.inj H
        have p105 : 0 ≤ (x7_1 : Int) := of_decide_eq_true pS
        have q105 : x7_1 < (l0.length : Int) := of_decide_eq_true pS
        obtain ⟨ad105, A105_5, c105_5, e105, hx105_0, hx105_1, hx105_2, hx105_3, hx105_4, hx105_5, hx105_6, hx105_7, hx105_8, hx105_9, hl105_5, hi105_5⟩ := at_T46 HR0.out x7_1 p105 q105
        cases e105
        replace hx105_0 := cU HB.out hx105_0
        replace hx105_1 := cU HB.out hx105_1
        replace hx105_2 := cU HB.out hx105_2
        replace hx105_3 := cU HB.out hx105_3
        replace hx105_4 := cU HB.out hx105_4
        replace hx105_5 := cU HB.out hx105_5
        replace hx105_6 := cU HB.out hx105_6
        replace hx105_7 := cU HB.out hx105_7
        replace hx105_8 := cU HB.out hx105_8
        replace hx105_9 := cU HB.out hx105_9
        have HR105_5 := Aside0.mk hi105_5
        have HC105_5 := Aside0.mk hl105_5
        clear hi105_5 hl105_5
        replace p105 := eq_true p105
        replace q105 := eq_true q105
        try go_wp2_with (first | ((with_reducible refine gate_dst (N := 4) rfl ?_); refine box_event ?hg (N := 4) ?hd (cs := #[.int .i64 0, .int .i64 0, .int .i64 0, .string (⟨#[]⟩ : ByteArray), .bool false, .slice none 0 0, .int .i64 0, .int .i64 0, .int .i64 0, .int .u32 0]) (t := 46) ?hr ?_; (case hd => rfl); (case hg => rfl); (case hr => first | (go_simp; done) | (go_simp; rfl)); intro gb106 hg w31 hbox hb; have n0_ := Aside0.mk (below_step (pB HB.out) hb); have n1_ := Aside0.mk (hbox); have n2_ := Aside0.mk ((by rw [hg]; exact (below_size (pB HB.out)) : w.heap.size ≤ gb106)); have n3_ := n2_; clear HB; have HB := n0_; have BK106 := n1_; have GW106 := n2_; have GE106 := n3_; clear n0_ n1_ n2_ n3_ hb hbox hg; obtain ⟨hcz32_0, hcz32_1, hcz32_2, hcz32_3, hcz32_4, hcz32_5, hcz32_6, hcz32_7, hcz32_8, hcz32_9⟩ := bc10 BK106.out; obtain ⟨hfz32_0, hfz32_1, hfz32_2, hfz32_3, hfz32_4, hfz32_5, hfz32_6, hfz32_7, hfz32_8, hfz32_9⟩ := bf10 BK106.out))
        have n0_ : Aside0 (((((((((((w31.setCell ⟨gb106, 0, none⟩ (.int .i64 ((rd_T46 l0 x7_1).f0))).setCell ⟨gb106, 1, none⟩ (.int .i64 ((rd_T46 l0 x7_1).f1))).setCell ⟨gb106, 2, none⟩ (.int .i64 ((rd_T46 l0 x7_1).f2))).setCell ⟨gb106, 3, none⟩ (.string ((rd_T46 l0 x7_1).f3))).setCell ⟨gb106, 4, none⟩ (.bool ((rd_T46 l0 x7_1).f4.f0))).setCell ⟨gb106, 5, none⟩ (.slice A105_5 ((rd_T46 l0 x7_1).f4.f1).length c105_5)).setCell ⟨gb106, 6, none⟩ (.int .i64 ((rd_T46 l0 x7_1).f4.f2.f0))).setCell ⟨gb106, 7, none⟩ (.int .i64 ((rd_T46 l0 x7_1).f4.f2.f1))).setCell ⟨gb106, 8, none⟩ (.int .i64 ((rd_T46 l0 x7_1).f4.f2.f2))).setCell ⟨gb106, 9, none⟩ (.int .u32 ((rd_T46 l0 x7_1).f4.f2.f3))).heap[gb106]? = some (.cells #[.int .i64 ((rd_T46 l0 x7_1).f0), .int .i64 ((rd_T46 l0 x7_1).f1), .int .i64 ((rd_T46 l0 x7_1).f2), .string ((rd_T46 l0 x7_1).f3), .bool ((rd_T46 l0 x7_1).f4.f0), .slice A105_5 ((rd_T46 l0 x7_1).f4.f1).length c105_5, .int .i64 ((rd_T46 l0 x7_1).f4.f2.f0), .int .i64 ((rd_T46 l0 x7_1).f4.f2.f1), .int .i64 ((rd_T46 l0 x7_1).f4.f2.f2), .int .u32 ((rd_T46 l0 x7_1).f4.f2.f3)] 46 (0, 0))) := ⟨kX0 BK106.out⟩
        have n1_ : Aside0 (Below w.heap.size w ((((((((((w31.setCell ⟨gb106, 0, none⟩ (.int .i64 ((rd_T46 l0 x7_1).f0))).setCell ⟨gb106, 1, none⟩ (.int .i64 ((rd_T46 l0 x7_1).f1))).setCell ⟨gb106, 2, none⟩ (.int .i64 ((rd_T46 l0 x7_1).f2))).setCell ⟨gb106, 3, none⟩ (.string ((rd_T46 l0 x7_1).f3))).setCell ⟨gb106, 4, none⟩ (.bool ((rd_T46 l0 x7_1).f4.f0))).setCell ⟨gb106, 5, none⟩ (.slice A105_5 ((rd_T46 l0 x7_1).f4.f1).length c105_5)).setCell ⟨gb106, 6, none⟩ (.int .i64 ((rd_T46 l0 x7_1).f4.f2.f0))).setCell ⟨gb106, 7, none⟩ (.int .i64 ((rd_T46 l0 x7_1).f4.f2.f1))).setCell ⟨gb106, 8, none⟩ (.int .i64 ((rd_T46 l0 x7_1).f4.f2.f2))).setCell ⟨gb106, 9, none⟩ (.int .u32 ((rd_T46 l0 x7_1).f4.f2.f3)))) := ⟨pE HB.out GE106.out⟩
        (try clear BK106)
        (try clear HB)
        generalize ((((((((((w31.setCell ⟨gb106, 0, none⟩ (.int .i64 ((rd_T46 l0 x7_1).f0))).setCell ⟨gb106, 1, none⟩ (.int .i64 ((rd_T46 l0 x7_1).f1))).setCell ⟨gb106, 2, none⟩ (.int .i64 ((rd_T46 l0 x7_1).f2))).setCell ⟨gb106, 3, none⟩ (.string ((rd_T46 l0 x7_1).f3))).setCell ⟨gb106, 4, none⟩ (.bool ((rd_T46 l0 x7_1).f4.f0))).setCell ⟨gb106, 5, none⟩ (.slice A105_5 ((rd_T46 l0 x7_1).f4.f1).length c105_5)).setCell ⟨gb106, 6, none⟩ (.int .i64 ((rd_T46 l0 x7_1).f4.f2.f0))).setCell ⟨gb106, 7, none⟩ (.int .i64 ((rd_T46 l0 x7_1).f4.f2.f1))).setCell ⟨gb106, 8, none⟩ (.int .i64 ((rd_T46 l0 x7_1).f4.f2.f2))).setCell ⟨gb106, 9, none⟩ (.int .u32 ((rd_T46 l0 x7_1).f4.f2.f3))) = w33 at n0_ n1_ ⊢
        have BK106 := n0_
        have HB := n1_
        clear n0_ n1_
        have n0_ := Aside0.mk (blk_drew BK106.out)
        have n1_ := Aside0.mk (below_drew1 HB.out)
        clear BK106
        clear HB
        have BK106 := n0_
        have HB := n1_
        clear n0_ n1_
        refine start_ (n := 37) (S := fun w' => cG w' gb106 0 (.int .i64 ((rd_T46 l0 x7_1).f0)) ∧ cG w' gb106 1 (.int .i64 ((rd_T46 l0 x7_1).f1)) ∧ cG w' gb106 2 (.int .i64 ((rd_T46 l0 x7_1).f2)) ∧ cG w' gb106 3 (.string ((rd_T46 l0 x7_1).f3)) ∧ cG w' gb106 4 (.bool ((rd_T46 l0 x7_1).f4.f0)) ∧ cG w' gb106 5 (.slice A105_5 ((rd_T46 l0 x7_1).f4.f1).length c105_5) ∧ cG w' gb106 6 (.int .i64 ((rd_T46 l0 x7_1).f4.f2.f0)) ∧ cG w' gb106 7 (.int .i64 ((rd_T46 l0 x7_1).f4.f2.f1)) ∧ cG w' gb106 8 (.int .i64 ((rd_T46 l0 x7_1).f4.f2.f2)) ∧ cG w' gb106 9 (.int .u32 ((rd_T46 l0 x7_1).f4.f2.f3))) (ds := []) #[false, false, false, false, false, false, false, false, false, false, false, false, false, false, false, false, false, false, false, false, false, false, false, false, false, false, false, false, false, false, false, false, false, false, false, false, false] (by kernel_rfl) rfl rfl ⟨(blk_cell BK106.out 0).trans rfl, (blk_cell BK106.out 1).trans rfl, (blk_cell BK106.out 2).trans rfl, (blk_cell BK106.out 3).trans rfl, (blk_cell BK106.out 4).trans rfl, (blk_cell BK106.out 5).trans rfl, (blk_cell BK106.out 6).trans rfl, (blk_cell BK106.out 7).trans rfl, (blk_cell BK106.out 8).trans rfl, (blk_cell BK106.out 9).trans rfl⟩ (fun hHeld => ?_); refine with_tabW raft_rows.tab4 raft_rows.bits4 (fun HT_ HW_ => ?_)
        generalize w33.drew = w34 at BK106 HB hHeld ⊢
        refine pu 0 (some 12) (bw 37 1) HT_.out (h := ?_)
        refine tk 1 (some 13) (bw 37 3) HT_.out HW_.out hHeld (h := ?_)
        refine one_ (i := 2) (N := some 14) (bw 37 7) rfl rfl (one_of HT_.out (by kernel_rfl)) (by decide) (fun K hK => ?_)
        refine goes_ Try.func34 (by kernel_rfl) rfl #[.int .i64 ((rd_T46 l0 x7_1).f0)] (by rfl) rfl rfl pL ?_
        with_reducible refine (raft_counts.calls ((rd_T46 l0 x7_1).f0) true _ A5.out).mono ?_
        rintro e w' ⟨rfl, ⟨nd, rfl⟩⟩
        refine ⟨_, rfl, ?_⟩
        refine hK.out _ _ ⟨(blk_cell BK106.out 0).trans rfl, (blk_cell BK106.out 1).trans rfl, (blk_cell BK106.out 2).trans rfl, (blk_cell BK106.out 3).trans rfl, (blk_cell BK106.out 4).trans rfl, (blk_cell BK106.out 5).trans rfl, (blk_cell BK106.out 6).trans rfl, (blk_cell BK106.out 7).trans rfl, (blk_cell BK106.out 8).trans rfl, (blk_cell BK106.out 9).trans rfl⟩ (fun hHeld => ?_)
        clear hK K
        refine norm_ (a' := ?_) ?_ ?_
        rotate_left
        ·show Act.put _ (some 14) _ = _
         simp only [Act.put, List.setIfInBounds_toArray, List.set_cons_zero, List.set_cons_succ, i64_w, i32_w]
         rfl
        refine pu 3 (some 15) (bw 37 15) HT_.out (h := ?_)
        refine pu 4 (some 16) (bw 37 31) HT_.out (h := ?_)
        refine pu 5 (some 17) (bw 37 63) HT_.out (h := ?_)
        refine tk 6 (some 18) (bw 37 127) HT_.out HW_.out hHeld (h := ?_)
        refine one_ (i := 7) (N := some 19) (bw 37 255) rfl rfl (one_of HT_.out (by kernel_rfl)) (by decide) (fun K hK => ?_)
        refine goes_ Try.func34 (by kernel_rfl) rfl #[.int .i64 ((rd_T46 l0 x7_1).f1)] (by rfl) rfl rfl pL ?_
        with_reducible refine (raft_counts.calls ((rd_T46 l0 x7_1).f1) false _ A7.out).mono ?_
        rintro e w' ⟨rfl, ⟨nd, rfl⟩⟩
        refine ⟨_, rfl, ?_⟩
        refine hK.out _ _ ⟨(blk_cell BK106.out 0).trans rfl, (blk_cell BK106.out 1).trans rfl, (blk_cell BK106.out 2).trans rfl, (blk_cell BK106.out 3).trans rfl, (blk_cell BK106.out 4).trans rfl, (blk_cell BK106.out 5).trans rfl, (blk_cell BK106.out 6).trans rfl, (blk_cell BK106.out 7).trans rfl, (blk_cell BK106.out 8).trans rfl, (blk_cell BK106.out 9).trans rfl⟩ (fun hHeld => ?_)
        clear hK K
        refine norm_ (a' := ?_) ?_ ?_
        rotate_left
        ·show Act.put _ (some 19) _ = _
         simp only [Act.put, List.setIfInBounds_toArray, List.set_cons_zero, List.set_cons_succ, i64_w, i32_w]
         rfl
        refine pu 8 (some 20) (bw 37 511) HT_.out (h := ?_)
        refine pu 9 (some 21) (bw 37 1023) HT_.out (h := ?_)
        refine pu 10 (some 22) (bw 37 2047) HT_.out (h := ?_)
        refine pd 11 (some 23) (bw 37 4095) HT_.out (h := ?_)
        refine pd 12 (some 24) (bw 37 8191) HT_.out (h := ?_)
        refine pd 13 (some 25) (bw 37 16383) HT_.out (h := ?_)
        refine pd 14 (some 26) (bw 37 32767) HT_.out (h := ?_)
        refine pd 15 (some 27) (bw 37 65535) HT_.out (h := ?_)
        refine pd 16 (some 28) (bw 37 131071) HT_.out (h := ?_)
        refine pd 17 (some 29) (bw 37 262143) HT_.out (h := ?_)
        refine pd 18 (some 30) (bw 37 524287) HT_.out (h := ?_)
        refine pd 19 (some 31) (bw 37 1048575) HT_.out (h := ?_)
        refine pd 20 (some 32) (bw 37 2097151) HT_.out (h := ?_)
        refine pd 21 (some 33) (bw 37 4194303) HT_.out (h := ?_)
        refine pd 22 (some 34) (bw 37 8388607) HT_.out (h := ?_)
        refine pd 23 (some 35) (bw 37 16777215) HT_.out (h := ?_)
        refine pd 24 (some 36) (bw 37 33554431) HT_.out (h := ?_)
        refine pd 25 (some 37) (bw 37 67108863) HT_.out (h := ?_)
        refine pd 26 (some 38) (bw 37 134217727) HT_.out (h := ?_)
        refine pd 27 (some 39) (bw 37 268435455) HT_.out (h := ?_)
        refine pd 28 (some 40) (bw 37 536870911) HT_.out (h := ?_)
        refine pd 29 (some 41) (bw 37 1073741823) HT_.out (h := ?_)
        refine pd 30 (some 42) (bw 37 2147483647) HT_.out (h := ?_)
        refine pd 31 (some 43) (bw 37 4294967295) HT_.out (h := ?_)
        refine pd 32 (some 44) (bw 37 8589934591) HT_.out (h := ?_)
        refine pd 33 (some 45) (bw 37 17179869183) HT_.out (h := ?_)
        refine pd 34 (some 46) (bw 37 34359738367) HT_.out (h := ?_)
        refine pd 35 (some 47) (bw 37 68719476735) HT_.out (h := ?_)
        refine pu 36 (some 48) (bw 37 137438953471) HT_.out (h := ?_)
        refine done_ (done_of HT_.out (by kernel_rfl)) ?_
        try go_wp2
        go_ret
        exact ⟨pX, pE HB.out GE106.out⟩
      ·replace c6 := Bool.eq_false_iff.mpr c6
       subst c6
       have H1 : (some false) = some r := by rw [if_neg (show ¬ (false = true) by decide)] at H; exact H
       clear H
       have H := H1
       clear H1
       obtain rfl := Option.some.inj H
       have p105 : 0 ≤ (x7_1 : Int) := of_decide_eq_true pS
       have q105 : x7_1 < (l0.length : Int) := of_decide_eq_true pS
       obtain ⟨ad105, A105_5, c105_5, e105, hx105_0, hx105_1, hx105_2, hx105_3, hx105_4, hx105_5, hx105_6, hx105_7, hx105_8, hx105_9, hl105_5, hi105_5⟩ := at_T46 HR0.out x7_1 p105 q105
       cases e105
       replace hx105_0 := cU HB.out hx105_0
       replace hx105_1 := cU HB.out hx105_1
       replace hx105_2 := cU HB.out hx105_2
       replace hx105_3 := cU HB.out hx105_3
       replace hx105_4 := cU HB.out hx105_4
       replace hx105_5 := cU HB.out hx105_5
       replace hx105_6 := cU HB.out hx105_6
       replace hx105_7 := cU HB.out hx105_7
       replace hx105_8 := cU HB.out hx105_8
       replace hx105_9 := cU HB.out hx105_9
       have HR105_5 := Aside0.mk hi105_5
       have HC105_5 := Aside0.mk hl105_5
       clear hi105_5 hl105_5
       replace p105 := eq_true p105
       replace q105 := eq_true q105
       try go_wp2_with (first | ((with_reducible refine gate_dst (N := 4) rfl ?_); refine box_event ?hg (N := 4) ?hd (cs := #[.int .i64 0, .int .i64 0, .int .i64 0, .string (⟨#[]⟩ : ByteArray), .bool false, .slice none 0 0, .int .i64 0, .int .i64 0, .int .i64 0, .int .u32 0]) (t := 46) ?hr ?_; (case hd => rfl); (case hg => rfl); (case hr => first | (go_simp; done) | (go_simp; rfl)); intro gb106 hg w35 hbox hb; have n0_ := Aside0.mk (below_step (pB HB.out) hb); have n1_ := Aside0.mk (hbox); have n2_ := Aside0.mk ((by rw [hg]; exact (below_size (pB HB.out)) : w.heap.size ≤ gb106)); have n3_ := n2_; clear HB; have HB := n0_; have BK106 := n1_; have GW106 := n2_; have GE106 := n3_; clear n0_ n1_ n2_ n3_ hb hbox hg; obtain ⟨hcz36_0, hcz36_1, hcz36_2, hcz36_3, hcz36_4, hcz36_5, hcz36_6, hcz36_7, hcz36_8, hcz36_9⟩ := bc10 BK106.out; obtain ⟨hfz36_0, hfz36_1, hfz36_2, hfz36_3, hfz36_4, hfz36_5, hfz36_6, hfz36_7, hfz36_8, hfz36_9⟩ := bf10 BK106.out))
       have n0_ : Aside0 (((((((((((w35.setCell ⟨gb106, 0, none⟩ (.int .i64 ((rd_T46 l0 x7_1).f0))).setCell ⟨gb106, 1, none⟩ (.int .i64 ((rd_T46 l0 x7_1).f1))).setCell ⟨gb106, 2, none⟩ (.int .i64 ((rd_T46 l0 x7_1).f2))).setCell ⟨gb106, 3, none⟩ (.string ((rd_T46 l0 x7_1).f3))).setCell ⟨gb106, 4, none⟩ (.bool ((rd_T46 l0 x7_1).f4.f0))).setCell ⟨gb106, 5, none⟩ (.slice A105_5 ((rd_T46 l0 x7_1).f4.f1).length c105_5)).setCell ⟨gb106, 6, none⟩ (.int .i64 ((rd_T46 l0 x7_1).f4.f2.f0))).setCell ⟨gb106, 7, none⟩ (.int .i64 ((rd_T46 l0 x7_1).f4.f2.f1))).setCell ⟨gb106, 8, none⟩ (.int .i64 ((rd_T46 l0 x7_1).f4.f2.f2))).setCell ⟨gb106, 9, none⟩ (.int .u32 ((rd_T46 l0 x7_1).f4.f2.f3))).heap[gb106]? = some (.cells #[.int .i64 ((rd_T46 l0 x7_1).f0), .int .i64 ((rd_T46 l0 x7_1).f1), .int .i64 ((rd_T46 l0 x7_1).f2), .string ((rd_T46 l0 x7_1).f3), .bool ((rd_T46 l0 x7_1).f4.f0), .slice A105_5 ((rd_T46 l0 x7_1).f4.f1).length c105_5, .int .i64 ((rd_T46 l0 x7_1).f4.f2.f0), .int .i64 ((rd_T46 l0 x7_1).f4.f2.f1), .int .i64 ((rd_T46 l0 x7_1).f4.f2.f2), .int .u32 ((rd_T46 l0 x7_1).f4.f2.f3)] 46 (0, 0))) := ⟨kX0 BK106.out⟩
       have n1_ : Aside0 (Below w.heap.size w ((((((((((w35.setCell ⟨gb106, 0, none⟩ (.int .i64 ((rd_T46 l0 x7_1).f0))).setCell ⟨gb106, 1, none⟩ (.int .i64 ((rd_T46 l0 x7_1).f1))).setCell ⟨gb106, 2, none⟩ (.int .i64 ((rd_T46 l0 x7_1).f2))).setCell ⟨gb106, 3, none⟩ (.string ((rd_T46 l0 x7_1).f3))).setCell ⟨gb106, 4, none⟩ (.bool ((rd_T46 l0 x7_1).f4.f0))).setCell ⟨gb106, 5, none⟩ (.slice A105_5 ((rd_T46 l0 x7_1).f4.f1).length c105_5)).setCell ⟨gb106, 6, none⟩ (.int .i64 ((rd_T46 l0 x7_1).f4.f2.f0))).setCell ⟨gb106, 7, none⟩ (.int .i64 ((rd_T46 l0 x7_1).f4.f2.f1))).setCell ⟨gb106, 8, none⟩ (.int .i64 ((rd_T46 l0 x7_1).f4.f2.f2))).setCell ⟨gb106, 9, none⟩ (.int .u32 ((rd_T46 l0 x7_1).f4.f2.f3)))) := ⟨pE HB.out GE106.out⟩
       (try clear BK106)
       (try clear HB)
       generalize ((((((((((w35.setCell ⟨gb106, 0, none⟩ (.int .i64 ((rd_T46 l0 x7_1).f0))).setCell ⟨gb106, 1, none⟩ (.int .i64 ((rd_T46 l0 x7_1).f1))).setCell ⟨gb106, 2, none⟩ (.int .i64 ((rd_T46 l0 x7_1).f2))).setCell ⟨gb106, 3, none⟩ (.string ((rd_T46 l0 x7_1).f3))).setCell ⟨gb106, 4, none⟩ (.bool ((rd_T46 l0 x7_1).f4.f0))).setCell ⟨gb106, 5, none⟩ (.slice A105_5 ((rd_T46 l0 x7_1).f4.f1).length c105_5)).setCell ⟨gb106, 6, none⟩ (.int .i64 ((rd_T46 l0 x7_1).f4.f2.f0))).setCell ⟨gb106, 7, none⟩ (.int .i64 ((rd_T46 l0 x7_1).f4.f2.f1))).setCell ⟨gb106, 8, none⟩ (.int .i64 ((rd_T46 l0 x7_1).f4.f2.f2))).setCell ⟨gb106, 9, none⟩ (.int .u32 ((rd_T46 l0 x7_1).f4.f2.f3))) = w37 at n0_ n1_ ⊢
       have BK106 := n0_
       have HB := n1_
       clear n0_ n1_
       have n0_ := Aside0.mk (blk_drew BK106.out)
       have n1_ := Aside0.mk (below_drew1 HB.out)
       clear BK106
       clear HB
       have BK106 := n0_
       have HB := n1_
       clear n0_ n1_
       refine start_ (n := 37) (S := fun w' => cG w' gb106 0 (.int .i64 ((rd_T46 l0 x7_1).f0)) ∧ cG w' gb106 1 (.int .i64 ((rd_T46 l0 x7_1).f1)) ∧ cG w' gb106 2 (.int .i64 ((rd_T46 l0 x7_1).f2)) ∧ cG w' gb106 3 (.string ((rd_T46 l0 x7_1).f3)) ∧ cG w' gb106 4 (.bool ((rd_T46 l0 x7_1).f4.f0)) ∧ cG w' gb106 5 (.slice A105_5 ((rd_T46 l0 x7_1).f4.f1).length c105_5) ∧ cG w' gb106 6 (.int .i64 ((rd_T46 l0 x7_1).f4.f2.f0)) ∧ cG w' gb106 7 (.int .i64 ((rd_T46 l0 x7_1).f4.f2.f1)) ∧ cG w' gb106 8 (.int .i64 ((rd_T46 l0 x7_1).f4.f2.f2)) ∧ cG w' gb106 9 (.int .u32 ((rd_T46 l0 x7_1).f4.f2.f3))) (ds := []) #[false, false, false, false, false, false, false, false, false, false, false, false, false, false, false, false, false, false, false, false, false, false, false, false, false, false, false, false, false, false, false, false, false, false, false, false, false] (by kernel_rfl) rfl rfl ⟨(blk_cell BK106.out 0).trans rfl, (blk_cell BK106.out 1).trans rfl, (blk_cell BK106.out 2).trans rfl, (blk_cell BK106.out 3).trans rfl, (blk_cell BK106.out 4).trans rfl, (blk_cell BK106.out 5).trans rfl, (blk_cell BK106.out 6).trans rfl, (blk_cell BK106.out 7).trans rfl, (blk_cell BK106.out 8).trans rfl, (blk_cell BK106.out 9).trans rfl⟩ (fun hHeld => ?_); refine with_tabW raft_rows.tab4 raft_rows.bits4 (fun HT_ HW_ => ?_)
       generalize w37.drew = w38 at BK106 HB hHeld ⊢
       refine pu 0 (some 12) (bw 37 1) HT_.out (h := ?_)
       refine tk 1 (some 13) (bw 37 3) HT_.out HW_.out hHeld (h := ?_)
       refine one_ (i := 2) (N := some 14) (bw 37 7) rfl rfl (one_of HT_.out (by kernel_rfl)) (by decide) (fun K hK => ?_)
       refine goes_ Try.func34 (by kernel_rfl) rfl #[.int .i64 ((rd_T46 l0 x7_1).f0)] (by rfl) rfl rfl pL ?_
       with_reducible refine (raft_counts.calls ((rd_T46 l0 x7_1).f0) false _ A5.out).mono ?_
       rintro e w' ⟨rfl, ⟨nd, rfl⟩⟩
       refine ⟨_, rfl, ?_⟩
       refine hK.out _ _ ⟨(blk_cell BK106.out 0).trans rfl, (blk_cell BK106.out 1).trans rfl, (blk_cell BK106.out 2).trans rfl, (blk_cell BK106.out 3).trans rfl, (blk_cell BK106.out 4).trans rfl, (blk_cell BK106.out 5).trans rfl, (blk_cell BK106.out 6).trans rfl, (blk_cell BK106.out 7).trans rfl, (blk_cell BK106.out 8).trans rfl, (blk_cell BK106.out 9).trans rfl⟩ (fun hHeld => ?_)
       clear hK K
       refine norm_ (a' := ?_) ?_ ?_
       rotate_left
       ·show Act.put _ (some 14) _ = _
        simp only [Act.put, List.setIfInBounds_toArray, List.set_cons_zero, List.set_cons_succ, i64_w, i32_w]
        rfl
       refine pu 3 (some 15) (bw 37 15) HT_.out (h := ?_)
       refine pu 4 (some 16) (bw 37 31) HT_.out (h := ?_)
       refine pd 5 (some 17) (bw 37 63) HT_.out (h := ?_)
       refine pd 6 (some 18) (bw 37 127) HT_.out (h := ?_)
       refine pd 7 (some 19) (bw 37 255) HT_.out (h := ?_)
       refine pd 8 (some 20) (bw 37 511) HT_.out (h := ?_)
       refine pu 9 (some 21) (bw 37 1023) HT_.out (h := ?_)
       refine pu 10 (some 22) (bw 37 2047) HT_.out (h := ?_)
       refine pd 11 (some 23) (bw 37 4095) HT_.out (h := ?_)
       refine pd 12 (some 24) (bw 37 8191) HT_.out (h := ?_)
       refine pd 13 (some 25) (bw 37 16383) HT_.out (h := ?_)
       refine pd 14 (some 26) (bw 37 32767) HT_.out (h := ?_)
       refine pd 15 (some 27) (bw 37 65535) HT_.out (h := ?_)
       refine pd 16 (some 28) (bw 37 131071) HT_.out (h := ?_)
       refine pd 17 (some 29) (bw 37 262143) HT_.out (h := ?_)
       refine pd 18 (some 30) (bw 37 524287) HT_.out (h := ?_)
       refine pd 19 (some 31) (bw 37 1048575) HT_.out (h := ?_)
       refine pd 20 (some 32) (bw 37 2097151) HT_.out (h := ?_)
       refine pd 21 (some 33) (bw 37 4194303) HT_.out (h := ?_)
       refine pd 22 (some 34) (bw 37 8388607) HT_.out (h := ?_)
       refine pd 23 (some 35) (bw 37 16777215) HT_.out (h := ?_)
       refine pd 24 (some 36) (bw 37 33554431) HT_.out (h := ?_)
       refine pd 25 (some 37) (bw 37 67108863) HT_.out (h := ?_)
       refine pd 26 (some 38) (bw 37 134217727) HT_.out (h := ?_)
       refine pd 27 (some 39) (bw 37 268435455) HT_.out (h := ?_)
       refine pd 28 (some 40) (bw 37 536870911) HT_.out (h := ?_)
       refine pd 29 (some 41) (bw 37 1073741823) HT_.out (h := ?_)
       refine pd 30 (some 42) (bw 37 2147483647) HT_.out (h := ?_)
       refine pd 31 (some 43) (bw 37 4294967295) HT_.out (h := ?_)
       refine pd 32 (some 44) (bw 37 8589934591) HT_.out (h := ?_)
       refine pd 33 (some 45) (bw 37 17179869183) HT_.out (h := ?_)
       refine pd 34 (some 46) (bw 37 34359738367) HT_.out (h := ?_)
       refine pd 35 (some 47) (bw 37 68719476735) HT_.out (h := ?_)
       refine pu 36 (some 48) (bw 37 137438953471) HT_.out (h := ?_)
       refine done_ (done_of HT_.out (by kernel_rfl)) ?_
       try go_wp2
       go_ret
       exact ⟨pX, pE HB.out GE106.out⟩
     ·rw [if_neg c4] at H
      exact absurd H (by simp)
    ·rw [if_neg c3] at H
     exact absurd H (by simp)
   ·rw [if_neg c2] at H
    have c2b0 : decide (x7_1 < (l0.length : Int)) = false := decide_eq_false c2
    clear c2
    obtain rfl := Option.some.inj H
    go_wp2
    go_ret
    exact ⟨pX, pB HB.out⟩
end Go.Proofs.Ytinldhpdfomcjaa.PRaftParts
