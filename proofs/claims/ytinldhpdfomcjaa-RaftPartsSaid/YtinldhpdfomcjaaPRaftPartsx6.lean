/- What the law reaches, as plain Lean functions, and that the machine's calls answer just that. -/
import Derived.Test.YtinldhpdfomcjaaPRaftPartsx0
import Derived.Test.YtinldhpdfomcjaaPRaftPartsx3
import Derived.Test.YtinldhpdfomcjaaPRaftPartsx4
import Derived.Test.YtinldhpdfomcjaaPRaftPartsx5
namespace Go.Proofs.Ytinldhpdfomcjaa.PRaftParts
open Go.RowKit Go.Proofs.YtinldhpdfomcjaaW.PrintWords Go.Proofs.YtinldhpdfomcjaaW.PrintLast Go.Proofs.YtinldhpdfomcjaaW.PrintMore
attribute [local go_sem] max2_int min2_int max_two min_two max_three min_three max_four min_four
set_option linter.unusedVariables false
set_option linter.unusedSimpArgs false
attribute [local go_sem] wrap64_l1 wrap64_l2 wrap64_l3 wrap64_l4 wrap64_l5
mutual
def raft_Check.j0 : Nat → Bool → Int → Int → List (S46) → Int → Int → Int → Int → Option (Int)
 | 0, _, _, _, _, _, _, _, _ => none
 | k + 1, x39, x116000, x116001, x116002, x116003, x116004, x116005, x116006 => if x39 = true then (some 1) else (if (x116002.length : Int) > 0 then (if 0 < (x116002.length : Int) then (if ((rd_T46 x116002 0).f0) = (wrap64 (x116000 + 1)) then (raft_Check.j1 k (decide (((rd_T46 x116002 0).f1) < x116001)) x116000 x116001 x116002 x116003 x116004 x116005 x116006) else (raft_Check.j1 k true x116000 x116001 x116002 x116003 x116004 x116005 x116006)) else (none)) else (raft_Check.j1 k false x116000 x116001 x116002 x116003 x116004 x116005 x116006))
def raft_Check.j1 : Nat → Bool → Int → Int → List (S46) → Int → Int → Int → Int → Option (Int)
 | 0, _, _, _, _, _, _, _, _ => none
 | k + 1, x64, x116000, x116001, x116002, x116003, x116004, x116005, x116006 => if x64 = true then (some 1) else (if x116006 < x116000 then (some 1) else (if x116006 > x116005 then (some 1) else (if x116005 > (wrap64 (x116000 + (x116002.length : Int))) then (some 1) else (some 0))))
end
def raft_Check.f (k : Nat) (a0_0 : Int) (a0_1 : Int) (l0_2 : List (S46)) (a0_3 : Int) (a0_4 : Int) (a0_5 : Int) (a0_6 : Int) : Option (Int) := if a0_0 = 0 then (if a0_1 = 0 then (if (l0_2.length : Int) > 1000 then (raft_Check.j0 k true a0_0 a0_1 l0_2 a0_3 a0_4 a0_5 a0_6) else ((raft_rows.f k l0_2).bind fun t116 => (if t116 = true then ((hard_Check.f a0_3 a0_4 a0_5).bind fun t117 => (raft_Check.j0 k (t117 != 0) a0_0 a0_1 l0_2 a0_3 a0_4 a0_5 a0_6)) else (raft_Check.j0 k true a0_0 a0_1 l0_2 a0_3 a0_4 a0_5 a0_6)))) else ((raft_counts.f a0_0).bind fun t118 => (if t118 = true then ((raft_counts.f a0_1).bind fun t119 => (if t119 = true then (if (l0_2.length : Int) > 1000 then (raft_Check.j0 k true a0_0 a0_1 l0_2 a0_3 a0_4 a0_5 a0_6) else ((raft_rows.f k l0_2).bind fun t120 => (if t120 = true then ((hard_Check.f a0_3 a0_4 a0_5).bind fun t121 => (raft_Check.j0 k (t121 != 0) a0_0 a0_1 l0_2 a0_3 a0_4 a0_5 a0_6)) else (raft_Check.j0 k true a0_0 a0_1 l0_2 a0_3 a0_4 a0_5 a0_6)))) else (raft_Check.j0 k true a0_0 a0_1 l0_2 a0_3 a0_4 a0_5 a0_6))) else (raft_Check.j0 k true a0_0 a0_1 l0_2 a0_3 a0_4 a0_5 a0_6)))) else ((raft_counts.f a0_0).bind fun t122 => (if t122 = true then ((raft_counts.f a0_1).bind fun t123 => (if t123 = true then (if (l0_2.length : Int) > 1000 then (raft_Check.j0 k true a0_0 a0_1 l0_2 a0_3 a0_4 a0_5 a0_6) else ((raft_rows.f k l0_2).bind fun t124 => (if t124 = true then ((hard_Check.f a0_3 a0_4 a0_5).bind fun t125 => (raft_Check.j0 k (t125 != 0) a0_0 a0_1 l0_2 a0_3 a0_4 a0_5 a0_6)) else (raft_Check.j0 k true a0_0 a0_1 l0_2 a0_3 a0_4 a0_5 a0_6)))) else (raft_Check.j0 k true a0_0 a0_1 l0_2 a0_3 a0_4 a0_5 a0_6))) else (raft_Check.j0 k true a0_0 a0_1 l0_2 a0_3 a0_4 a0_5 a0_6)))
theorem raft_Check.mono_l : ∀ k, (∀ y0 y1 y2 y3 y4 y5 y6 y7, LeO (raft_Check.j0 k y0 y1 y2 y3 y4 y5 y6 y7) (raft_Check.j0 (k + 1) y0 y1 y2 y3 y4 y5 y6 y7)) ∧ (∀ y0 y1 y2 y3 y4 y5 y6 y7, LeO (raft_Check.j1 k y0 y1 y2 y3 y4 y5 y6 y7) (raft_Check.j1 (k + 1) y0 y1 y2 y3 y4 y5 y6 y7))
 | 0 => ⟨fun _ _ _ _ _ _ _ _ r h => by simp [raft_Check.j0] at h, fun _ _ _ _ _ _ _ _ r h => by simp [raft_Check.j1] at h⟩
 | k + 1 => by
  obtain ⟨ih0, ih1⟩ := raft_Check.mono_l k
  refine ⟨?_, ?_⟩
  ·intro y0 y1 y2 y3 y4 y5 y6 y7
   unfold raft_Check.j0
   repeat' first
   | (with_reducible exact ih0 _ _ _ _ _ _ _ _)
   | (with_reducible exact ih1 _ _ _ _ _ _ _ _)
   | (with_reducible exact raft_rows.mono _ _)
   | (with_reducible exact LeO.refl _)
   | (with_reducible exact LeO.none _)
   | (with_reducible refine LeO.ite ?_ ?_)
   | (with_reducible refine LeO.bind ?_ (fun _ => ?_))
   | exact ih0 _ _ _ _ _ _ _ _
   | exact ih1 _ _ _ _ _ _ _ _
   | exact raft_rows.mono _ _
   | exact LeO.none _
   | refine LeO.ite ?_ ?_
   | refine LeO.bind ?_ (fun _ => ?_)
  ·intro y0 y1 y2 y3 y4 y5 y6 y7
   unfold raft_Check.j1
   repeat' first
   | (with_reducible exact ih0 _ _ _ _ _ _ _ _)
   | (with_reducible exact ih1 _ _ _ _ _ _ _ _)
   | (with_reducible exact raft_rows.mono _ _)
   | (with_reducible exact LeO.refl _)
   | (with_reducible exact LeO.none _)
   | (with_reducible refine LeO.ite ?_ ?_)
   | (with_reducible refine LeO.bind ?_ (fun _ => ?_))
   | exact ih0 _ _ _ _ _ _ _ _
   | exact ih1 _ _ _ _ _ _ _ _
   | exact raft_rows.mono _ _
   | exact LeO.none _
   | refine LeO.ite ?_ ?_
   | refine LeO.bind ?_ (fun _ => ?_)
theorem raft_Check.mono : ∀ a0 a1 a2 a3 a4 a5 a6 k, LeO (raft_Check.f k a0 a1 a2 a3 a4 a5 a6) (raft_Check.f (k + 1) a0 a1 a2 a3 a4 a5 a6) := by
 intro a0 a1 a2 a3 a4 a5 a6 k
 obtain ⟨ih0, ih1⟩ := raft_Check.mono_l k
 unfold raft_Check.f
 repeat' first
   | (with_reducible exact ih0 _ _ _ _ _ _ _ _)
   | (with_reducible exact ih1 _ _ _ _ _ _ _ _)
   | (with_reducible exact raft_rows.mono _ _)
   | (with_reducible exact LeO.refl _)
   | (with_reducible exact LeO.none _)
   | (with_reducible refine LeO.ite ?_ ?_)
   | (with_reducible refine LeO.bind ?_ (fun _ => ?_))
   | exact ih0 _ _ _ _ _ _ _ _
   | exact ih1 _ _ _ _ _ _ _ _
   | exact raft_rows.mono _ _
   | exact LeO.none _
   | refine LeO.ite ?_ ?_
   | refine LeO.bind ?_ (fun _ => ?_)
set_option maxHeartbeats 8000000 in
set_option maxRecDepth 100000 in
theorem raft_Check.calls (k : Nat) (a0_0 : Int) (a0_1 : Int) (A0_2 : Option Addr) (c0_2 : Nat) (l0_2 : List (S46)) (a0_3 : Int) (a0_4 : Int) (a0_5 : Int) (a0_6 : Int) (r : Int) (w : World) (hr0_2 : Kd.C k46 w A0_2 l0_2.length l0_2) (hc0_2 : l0_2.length ≤ c0_2) (h : raft_Check.f k a0_0 a0_1 l0_2 a0_3 a0_4 a0_5 a0_6 = some r) :
  Calls Try.prog 25 #[.agg #[.int .i64 a0_0, .int .i64 a0_1, .slice A0_2 l0_2.length c0_2, .int .i64 a0_3, .int .i64 a0_4, .int .i64 a0_5, .int .i64 a0_6]] w fun e w' => e = .returned (.int .i64 r) ∧ Below w.heap.size w w' := by
 have hu26 := Try.underlying26
 have hu24 := Try.underlying24
 have HR0_2 := Aside0.mk hr0_2
 have HC0_2 := Aside0.mk hc0_2
 clear hr0_2 hc0_2
 have HB := Aside0.mk (Below.refl w.heap.size w)
 have H : (if a0_0 = 0 then (if a0_1 = 0 then (if (l0_2.length : Int) > 1000 then (raft_Check.j0 k true a0_0 a0_1 l0_2 a0_3 a0_4 a0_5 a0_6) else ((raft_rows.f k l0_2).bind fun t116 => (if t116 = true then ((hard_Check.f a0_3 a0_4 a0_5).bind fun t117 => (raft_Check.j0 k (t117 != 0) a0_0 a0_1 l0_2 a0_3 a0_4 a0_5 a0_6)) else (raft_Check.j0 k true a0_0 a0_1 l0_2 a0_3 a0_4 a0_5 a0_6)))) else ((raft_counts.f a0_0).bind fun t118 => (if t118 = true then ((raft_counts.f a0_1).bind fun t119 => (if t119 = true then (if (l0_2.length : Int) > 1000 then (raft_Check.j0 k true a0_0 a0_1 l0_2 a0_3 a0_4 a0_5 a0_6) else ((raft_rows.f k l0_2).bind fun t120 => (if t120 = true then ((hard_Check.f a0_3 a0_4 a0_5).bind fun t121 => (raft_Check.j0 k (t121 != 0) a0_0 a0_1 l0_2 a0_3 a0_4 a0_5 a0_6)) else (raft_Check.j0 k true a0_0 a0_1 l0_2 a0_3 a0_4 a0_5 a0_6)))) else (raft_Check.j0 k true a0_0 a0_1 l0_2 a0_3 a0_4 a0_5 a0_6))) else (raft_Check.j0 k true a0_0 a0_1 l0_2 a0_3 a0_4 a0_5 a0_6)))) else ((raft_counts.f a0_0).bind fun t122 => (if t122 = true then ((raft_counts.f a0_1).bind fun t123 => (if t123 = true then (if (l0_2.length : Int) > 1000 then (raft_Check.j0 k true a0_0 a0_1 l0_2 a0_3 a0_4 a0_5 a0_6) else ((raft_rows.f k l0_2).bind fun t124 => (if t124 = true then ((hard_Check.f a0_3 a0_4 a0_5).bind fun t125 => (raft_Check.j0 k (t125 != 0) a0_0 a0_1 l0_2 a0_3 a0_4 a0_5 a0_6)) else (raft_Check.j0 k true a0_0 a0_1 l0_2 a0_3 a0_4 a0_5 a0_6)))) else (raft_Check.j0 k true a0_0 a0_1 l0_2 a0_3 a0_4 a0_5 a0_6))) else (raft_Check.j0 k true a0_0 a0_1 l0_2 a0_3 a0_4 a0_5 a0_6)))) = some r := h
 clear h
 have HC2 := Aside0.mk H
 clear H
 go_enter Try.func25, Try.ntmps25
 go_upto_region 1 with (first | ((with_reducible refine gate_dst (N := 1) rfl ?_); (try (refine gate_guard (by rfl) ?_; dsimp only)); refine box_event ?hg (N := 1) ?hd (cs := #[.int .i64 a0_0, .int .i64 a0_1, .slice A0_2 l0_2.length c0_2, .int .i64 a0_3, .int .i64 a0_4, .int .i64 a0_5, .int .i64 a0_6]) (t := 26) ?hr ?_; (case hd => rfl); (case hg => rfl); (case hr => first | (go_simp; done) | (go_simp; rfl)); intro gb115 hg w3 hbox hb; have n0_ := Aside0.mk (below_step (pB HB.out) hb); have n1_ := Aside0.mk (hbox); have n2_ := Aside0.mk ((by rw [hg]; exact (below_size (pB HB.out)) : w.heap.size ≤ gb115)); have n3_ := n2_; clear HB; have HB := n0_; have BK115 := n1_; have GW115 := n2_; have GE115 := n3_; clear n0_ n1_ n2_ n3_ hb hbox hg))
 repeat (go_quiet (first | ((with_reducible refine gate_dst (N := 1) rfl ?_); (try (refine gate_guard (by rfl) ?_; dsimp only)); refine box_event ?hg (N := 1) ?hd (cs := #[.int .i64 a0_0, .int .i64 a0_1, .slice A0_2 l0_2.length c0_2, .int .i64 a0_3, .int .i64 a0_4, .int .i64 a0_5, .int .i64 a0_6]) (t := 26) ?hr ?_; (case hd => rfl); (case hg => rfl); (case hr => first | (go_simp; done) | (go_simp; rfl)); intro gb115 hg w3 hbox hb; have n0_ := Aside0.mk (below_step (pB HB.out) hb); have n1_ := Aside0.mk (hbox); have n2_ := Aside0.mk ((by rw [hg]; exact (below_size (pB HB.out)) : w.heap.size ≤ gb115)); have n3_ := n2_; clear HB; have HB := n0_; have BK115 := n1_; have GW115 := n2_; have GE115 := n3_; clear n0_ n1_ n2_ n3_ hb hbox hg)); go_upto_region 1 with (first | ((with_reducible refine gate_dst (N := 1) rfl ?_); (try (refine gate_guard (by rfl) ?_; dsimp only)); refine box_event ?hg (N := 1) ?hd (cs := #[.int .i64 a0_0, .int .i64 a0_1, .slice A0_2 l0_2.length c0_2, .int .i64 a0_3, .int .i64 a0_4, .int .i64 a0_5, .int .i64 a0_6]) (t := 26) ?hr ?_; (case hd => rfl); (case hg => rfl); (case hr => first | (go_simp; done) | (go_simp; rfl)); intro gb115 hg w3 hbox hb; have n0_ := Aside0.mk (below_step (pB HB.out) hb); have n1_ := Aside0.mk (hbox); have n2_ := Aside0.mk ((by rw [hg]; exact (below_size (pB HB.out)) : w.heap.size ≤ gb115)); have n3_ := n2_; clear HB; have HB := n0_; have BK115 := n1_; have GW115 := n2_; have GE115 := n3_; clear n0_ n1_ n2_ n3_ hb hbox hg)))
 (try simp only [Act.put, List.setIfInBounds_toArray, List.set_cons_zero, List.set_cons_succ])
 go_cut [39] (fun v39 wc => ∃ (kq : Nat) (x39_1 : Bool), v39 = .bool x39_1 ∧ Aside0 (raft_Check.j0 kq x39_1 a0_0 a0_1 l0_2 a0_3 a0_4 a0_5 a0_6 = some r) ∧ Aside0 (kq ≤ k) ∧ Aside0 (wc.heap[gb115]? = some (.cells #[.int .i64 a0_0, .int .i64 a0_1, (.slice A0_2 l0_2.length c0_2), .int .i64 a0_3, .int .i64 a0_4, .int .i64 a0_5, .int .i64 a0_6] 26 (0, 0))) ∧ Aside0 (Below w.heap.size w wc))
 case first =>
  have H := HC2.out
  clear HC2
  by_cases c4 : a0_0 = 0
  ·rw [if_pos c4] at H
   have c4b0 : (a0_0 == 0) = true := beq_iff_eq.mpr c4
   have c4b1 : (a0_0 != 0) = false := bne_eq_false_iff_eq.mpr c4
   clear c4
   (first | rw [c4b0] | (simp only [i64_w, i32_w]; rw [c4b0]) | skip)
   by_cases c5 : a0_1 = 0
   ·rw [if_pos c5] at H
    have c5b0 : (a0_1 == 0) = true := beq_iff_eq.mpr c5
    have c5b1 : (a0_1 != 0) = false := bne_eq_false_iff_eq.mpr c5
    clear c5
    by_cases c6 : (l0_2.length : Int) > 1000
    ·rw [if_pos c6] at H
     have c6b0 : decide (1000 < (l0_2.length : Int)) = true := decide_eq_true c6
     have c6b1 : decide (1000 < l0_2.length) = true := decide_eq_true (by omega)
     clear c6
     have H' := Aside0.mk H
     clear H
     obtain ⟨hcz7_0, hcz7_1, hcz7_2, hcz7_3, hcz7_4, hcz7_5, hcz7_6⟩ := bc7 BK115.out
     obtain ⟨hfz7_0, hfz7_1, hfz7_2, hfz7_3, hfz7_4, hfz7_5, hfz7_6⟩ := bf7 BK115.out
     go_wp2
     repeat (go_quiet (fail); try go_wp2)
     go_meet
     case rel => exact ⟨_, (true), (by first | rfl | (simp; done) | (simp [*]; done)), H', ⟨by first | omega | exact Nat.le_refl _⟩, ⟨pK BK115.out⟩, ⟨pE HB.out GE115.out⟩⟩
    ·rw [if_neg c6] at H
     have c6b0 : decide (1000 < (l0_2.length : Int)) = false := decide_eq_false c6
     have c6b1 : decide (1000 < l0_2.length) = false := decide_eq_false (by omega)
     clear c6
     replace H := Option.bind_eq_some_iff.mp H
     obtain ⟨t116, A80, H⟩ := H
     replace H : (if t116 = true then ((hard_Check.f a0_3 a0_4 a0_5).bind fun t117 => (raft_Check.j0 k (t117 != 0) a0_0 a0_1 l0_2 a0_3 a0_4 a0_5 a0_6)) else (raft_Check.j0 k true a0_0 a0_1 l0_2 a0_3 a0_4 a0_5 a0_6)) = some r := H
     have A8 := Aside0.mk A80
     clear A80
     by_cases c9 : t116 = true
     ·subst c9
      have H1 : ((hard_Check.f a0_3 a0_4 a0_5).bind fun t117 => (raft_Check.j0 k (t117 != 0) a0_0 a0_1 l0_2 a0_3 a0_4 a0_5 a0_6)) = some r := by rw [if_pos rfl] at H; exact H
      clear H
      have H := H1
      clear H1
      replace H := Option.bind_eq_some_iff.mp H
      obtain ⟨t117, A100, H⟩ := H
      replace H : (raft_Check.j0 k (t117 != 0) a0_0 a0_1 l0_2 a0_3 a0_4 a0_5 a0_6) = some r := H
      have A10 := Aside0.mk A100
      clear A100
      have H' := Aside0.mk H
      clear H
      obtain ⟨hcz11_0, hcz11_1, hcz11_2, hcz11_3, hcz11_4, hcz11_5, hcz11_6⟩ := bc7 BK115.out
      obtain ⟨hfz11_0, hfz11_1, hfz11_2, hfz11_3, hfz11_4, hfz11_5, hfz11_6⟩ := bf7 BK115.out
      go_wp2_with (first | (go_at_call 26; (with_reducible refine (raft_rows.calls k _ _ l0_2 true _ ?side1 ?side2 A8.out).mono ?_); (case side1 => exact pC (Kd.C_below HR0_2.out HB.out)); (case side2 => exact HC0_2.out); rintro e w12 ⟨rfl, hb⟩; have n0_ := Aside0.mk (kB BK115.out hb); have n1_ := Aside0.mk (below_step (pE HB.out GE115.out) hb); clear BK115 HB; have BK115 := n0_; have HB := n1_; clear n0_ n1_; (try clear hb); (try clear hb2); (try clear hk); (try clear hi); obtain ⟨hcz13_0, hcz13_1, hcz13_2, hcz13_3, hcz13_4, hcz13_5, hcz13_6⟩ := bc7 BK115.out; obtain ⟨hfz13_0, hfz13_1, hfz13_2, hfz13_3, hfz13_4, hfz13_5, hfz13_6⟩ := bf7 BK115.out) | (go_at_call 40; (with_reducible refine (hard_Check.calls a0_3 a0_4 a0_5 t117 _ A10.out).mono ?_); rintro e w14 ⟨rfl, hb⟩; have n0_ := Aside0.mk (kB BK115.out hb); have n1_ := Aside0.mk (below_step (pE HB.out GE115.out) hb); clear BK115 HB; have BK115 := n0_; have HB := n1_; clear n0_ n1_; (try clear hb); (try clear hb2); (try clear hk); (try clear hi)))
      repeat (go_quiet (first | (go_at_call 26; (with_reducible refine (raft_rows.calls k _ _ l0_2 true _ ?side1 ?side2 A8.out).mono ?_); (case side1 => exact pC (Kd.C_below HR0_2.out HB.out)); (case side2 => exact HC0_2.out); rintro e w12 ⟨rfl, hb⟩; have n0_ := Aside0.mk (kB BK115.out hb); have n1_ := Aside0.mk (below_step (pE HB.out GE115.out) hb); clear BK115 HB; have BK115 := n0_; have HB := n1_; clear n0_ n1_; (try clear hb); (try clear hb2); (try clear hk); (try clear hi); obtain ⟨hcz13_0, hcz13_1, hcz13_2, hcz13_3, hcz13_4, hcz13_5, hcz13_6⟩ := bc7 BK115.out; obtain ⟨hfz13_0, hfz13_1, hfz13_2, hfz13_3, hfz13_4, hfz13_5, hfz13_6⟩ := bf7 BK115.out) | (go_at_call 40; (with_reducible refine (hard_Check.calls a0_3 a0_4 a0_5 t117 _ A10.out).mono ?_); rintro e w14 ⟨rfl, hb⟩; have n0_ := Aside0.mk (kB BK115.out hb); have n1_ := Aside0.mk (below_step (pE HB.out GE115.out) hb); clear BK115 HB; have BK115 := n0_; have HB := n1_; clear n0_ n1_; (try clear hb); (try clear hb2); (try clear hk); (try clear hi))); try go_wp2_with (first | (go_at_call 26; (with_reducible refine (raft_rows.calls k _ _ l0_2 true _ ?side1 ?side2 A8.out).mono ?_); (case side1 => exact pC (Kd.C_below HR0_2.out HB.out)); (case side2 => exact HC0_2.out); rintro e w12 ⟨rfl, hb⟩; have n0_ := Aside0.mk (kB BK115.out hb); have n1_ := Aside0.mk (below_step (pE HB.out GE115.out) hb); clear BK115 HB; have BK115 := n0_; have HB := n1_; clear n0_ n1_; (try clear hb); (try clear hb2); (try clear hk); (try clear hi); obtain ⟨hcz13_0, hcz13_1, hcz13_2, hcz13_3, hcz13_4, hcz13_5, hcz13_6⟩ := bc7 BK115.out; obtain ⟨hfz13_0, hfz13_1, hfz13_2, hfz13_3, hfz13_4, hfz13_5, hfz13_6⟩ := bf7 BK115.out) | (go_at_call 40; (with_reducible refine (hard_Check.calls a0_3 a0_4 a0_5 t117 _ A10.out).mono ?_); rintro e w14 ⟨rfl, hb⟩; have n0_ := Aside0.mk (kB BK115.out hb); have n1_ := Aside0.mk (below_step (pE HB.out GE115.out) hb); clear BK115 HB; have BK115 := n0_; have HB := n1_; clear n0_ n1_; (try clear hb); (try clear hb2); (try clear hk); (try clear hi))))
      go_meet
      case rel => exact ⟨_, ((t117 != 0)), (by first | rfl | (simp; done) | (simp [*]; done)), H', ⟨by first | omega | exact Nat.le_refl _⟩, ⟨pK BK115.out⟩, ⟨pE HB.out GE115.out⟩⟩
     ·replace c9 := Bool.eq_false_iff.mpr c9
      subst c9
      have H1 : (raft_Check.j0 k true a0_0 a0_1 l0_2 a0_3 a0_4 a0_5 a0_6) = some r := by rw [if_neg (show ¬ (false = true) by decide)] at H; exact H
      clear H
      have H := H1
      clear H1
      have H' := Aside0.mk H
      clear H
      obtain ⟨hcz15_0, hcz15_1, hcz15_2, hcz15_3, hcz15_4, hcz15_5, hcz15_6⟩ := bc7 BK115.out
      obtain ⟨hfz15_0, hfz15_1, hfz15_2, hfz15_3, hfz15_4, hfz15_5, hfz15_6⟩ := bf7 BK115.out
      go_wp2_with (first | (go_at_call 26; (with_reducible refine (raft_rows.calls k _ _ l0_2 false _ ?side1 ?side2 A8.out).mono ?_); (case side1 => exact pC (Kd.C_below HR0_2.out HB.out)); (case side2 => exact HC0_2.out); rintro e w16 ⟨rfl, hb⟩; have n0_ := Aside0.mk (kB BK115.out hb); have n1_ := Aside0.mk (below_step (pE HB.out GE115.out) hb); clear BK115 HB; have BK115 := n0_; have HB := n1_; clear n0_ n1_; (try clear hb); (try clear hb2); (try clear hk); (try clear hi)))
      repeat (go_quiet (first | (go_at_call 26; (with_reducible refine (raft_rows.calls k _ _ l0_2 false _ ?side1 ?side2 A8.out).mono ?_); (case side1 => exact pC (Kd.C_below HR0_2.out HB.out)); (case side2 => exact HC0_2.out); rintro e w16 ⟨rfl, hb⟩; have n0_ := Aside0.mk (kB BK115.out hb); have n1_ := Aside0.mk (below_step (pE HB.out GE115.out) hb); clear BK115 HB; have BK115 := n0_; have HB := n1_; clear n0_ n1_; (try clear hb); (try clear hb2); (try clear hk); (try clear hi))); try go_wp2_with (first | (go_at_call 26; (with_reducible refine (raft_rows.calls k _ _ l0_2 false _ ?side1 ?side2 A8.out).mono ?_); (case side1 => exact pC (Kd.C_below HR0_2.out HB.out)); (case side2 => exact HC0_2.out); rintro e w16 ⟨rfl, hb⟩; have n0_ := Aside0.mk (kB BK115.out hb); have n1_ := Aside0.mk (below_step (pE HB.out GE115.out) hb); clear BK115 HB; have BK115 := n0_; have HB := n1_; clear n0_ n1_; (try clear hb); (try clear hb2); (try clear hk); (try clear hi))))
      go_meet
      case rel => exact ⟨_, (true), (by first | rfl | (simp; done) | (simp [*]; done)), H', ⟨by first | omega | exact Nat.le_refl _⟩, ⟨pK BK115.out⟩, ⟨pE HB.out GE115.out⟩⟩
   ·rw [if_neg c5] at H
    have c5b0 : (a0_1 == 0) = false := beq_eq_false_iff_ne.mpr c5
    have c5b1 : (a0_1 != 0) = true := bne_iff_ne.mpr c5
    replace H := Option.bind_eq_some_iff.mp H
    obtain ⟨t118, A170, H⟩ := H
    replace H : (if t118 = true then ((raft_counts.f a0_1).bind fun t119 => (if t119 = true then (if (l0_2.length : Int) > 1000 then (raft_Check.j0 k true a0_0 a0_1 l0_2 a0_3 a0_4 a0_5 a0_6) else ((raft_rows.f k l0_2).bind fun t120 => (if t120 = true then ((hard_Check.f a0_3 a0_4 a0_5).bind fun t121 => (raft_Check.j0 k (t121 != 0) a0_0 a0_1 l0_2 a0_3 a0_4 a0_5 a0_6)) else (raft_Check.j0 k true a0_0 a0_1 l0_2 a0_3 a0_4 a0_5 a0_6)))) else (raft_Check.j0 k true a0_0 a0_1 l0_2 a0_3 a0_4 a0_5 a0_6))) else (raft_Check.j0 k true a0_0 a0_1 l0_2 a0_3 a0_4 a0_5 a0_6)) = some r := H
    have A17 := Aside0.mk A170
    clear A170
    by_cases c18 : t118 = true
    ·subst c18
     have H1 : ((raft_counts.f a0_1).bind fun t119 => (if t119 = true then (if (l0_2.length : Int) > 1000 then (raft_Check.j0 k true a0_0 a0_1 l0_2 a0_3 a0_4 a0_5 a0_6) else ((raft_rows.f k l0_2).bind fun t120 => (if t120 = true then ((hard_Check.f a0_3 a0_4 a0_5).bind fun t121 => (raft_Check.j0 k (t121 != 0) a0_0 a0_1 l0_2 a0_3 a0_4 a0_5 a0_6)) else (raft_Check.j0 k true a0_0 a0_1 l0_2 a0_3 a0_4 a0_5 a0_6)))) else (raft_Check.j0 k true a0_0 a0_1 l0_2 a0_3 a0_4 a0_5 a0_6))) = some r := by rw [if_pos rfl] at H; exact H
     clear H
     have H := H1
     clear H1
     replace H := Option.bind_eq_some_iff.mp H
     obtain ⟨t119, A190, H⟩ := H
     replace H : (if t119 = true then (if (l0_2.length : Int) > 1000 then (raft_Check.j0 k true a0_0 a0_1 l0_2 a0_3 a0_4 a0_5 a0_6) else ((raft_rows.f k l0_2).bind fun t120 => (if t120 = true then ((hard_Check.f a0_3 a0_4 a0_5).bind fun t121 => (raft_Check.j0 k (t121 != 0) a0_0 a0_1 l0_2 a0_3 a0_4 a0_5 a0_6)) else (raft_Check.j0 k true a0_0 a0_1 l0_2 a0_3 a0_4 a0_5 a0_6)))) else (raft_Check.j0 k true a0_0 a0_1 l0_2 a0_3 a0_4 a0_5 a0_6)) = some r := H
     have A19 := Aside0.mk A190
     clear A190
     by_cases c20 : t119 = true
     ·subst c20
      have H1 : (if (l0_2.length : Int) > 1000 then (raft_Check.j0 k true a0_0 a0_1 l0_2 a0_3 a0_4 a0_5 a0_6) else ((raft_rows.f k l0_2).bind fun t120 => (if t120 = true then ((hard_Check.f a0_3 a0_4 a0_5).bind fun t121 => (raft_Check.j0 k (t121 != 0) a0_0 a0_1 l0_2 a0_3 a0_4 a0_5 a0_6)) else (raft_Check.j0 k true a0_0 a0_1 l0_2 a0_3 a0_4 a0_5 a0_6)))) = some r := by rw [if_pos rfl] at H; exact H
      clear H
      have H := H1
      clear H1
      by_cases c21 : (l0_2.length : Int) > 1000
      ·rw [if_pos c21] at H
       have c21b0 : decide (1000 < (l0_2.length : Int)) = true := decide_eq_true c21
       have c21b1 : decide (1000 < l0_2.length) = true := decide_eq_true (by omega)
       clear c21
       have H' := Aside0.mk H
       clear H
       obtain ⟨hcz22_0, hcz22_1, hcz22_2, hcz22_3, hcz22_4, hcz22_5, hcz22_6⟩ := bc7 BK115.out
       obtain ⟨hfz22_0, hfz22_1, hfz22_2, hfz22_3, hfz22_4, hfz22_5, hfz22_6⟩ := bf7 BK115.out
       go_wp2_with (first | (go_at_call 34; (with_reducible refine (raft_counts.calls a0_0 true _ A17.out).mono ?_); rintro e w' ⟨rfl, ⟨nd, rfl⟩⟩; (try first | exact ⟨rfl, _, World.drewN_drewN _ _ _⟩ | exact ⟨rfl, _, Eq.trans (World.drewN_drewN _ _ _) (congrArg (World.drewN _) (Nat.add_assoc _ _ _))⟩)) | (go_at_call 34; (with_reducible refine (raft_counts.calls a0_1 true _ A19.out).mono ?_); rintro e w' ⟨rfl, ⟨nd, rfl⟩⟩; (try first | exact ⟨rfl, _, World.drewN_drewN _ _ _⟩ | exact ⟨rfl, _, Eq.trans (World.drewN_drewN _ _ _) (congrArg (World.drewN _) (Nat.add_assoc _ _ _))⟩)))
       repeat (go_quiet (first | (go_at_call 34; (with_reducible refine (raft_counts.calls a0_0 true _ A17.out).mono ?_); rintro e w' ⟨rfl, ⟨nd, rfl⟩⟩; (try first | exact ⟨rfl, _, World.drewN_drewN _ _ _⟩ | exact ⟨rfl, _, Eq.trans (World.drewN_drewN _ _ _) (congrArg (World.drewN _) (Nat.add_assoc _ _ _))⟩)) | (go_at_call 34; (with_reducible refine (raft_counts.calls a0_1 true _ A19.out).mono ?_); rintro e w' ⟨rfl, ⟨nd, rfl⟩⟩; (try first | exact ⟨rfl, _, World.drewN_drewN _ _ _⟩ | exact ⟨rfl, _, Eq.trans (World.drewN_drewN _ _ _) (congrArg (World.drewN _) (Nat.add_assoc _ _ _))⟩))); try go_wp2_with (first | (go_at_call 34; (with_reducible refine (raft_counts.calls a0_0 true _ A17.out).mono ?_); rintro e w' ⟨rfl, ⟨nd, rfl⟩⟩; (try first | exact ⟨rfl, _, World.drewN_drewN _ _ _⟩ | exact ⟨rfl, _, Eq.trans (World.drewN_drewN _ _ _) (congrArg (World.drewN _) (Nat.add_assoc _ _ _))⟩)) | (go_at_call 34; (with_reducible refine (raft_counts.calls a0_1 true _ A19.out).mono ?_); rintro e w' ⟨rfl, ⟨nd, rfl⟩⟩; (try first | exact ⟨rfl, _, World.drewN_drewN _ _ _⟩ | exact ⟨rfl, _, Eq.trans (World.drewN_drewN _ _ _) (congrArg (World.drewN _) (Nat.add_assoc _ _ _))⟩))))
       go_meet
       case rel => exact ⟨_, (true), (by first | rfl | (simp; done) | (simp [*]; done)), H', ⟨by first | omega | exact Nat.le_refl _⟩, ⟨pK BK115.out⟩, ⟨pE HB.out GE115.out⟩⟩
      ·rw [if_neg c21] at H
       have c21b0 : decide (1000 < (l0_2.length : Int)) = false := decide_eq_false c21
       have c21b1 : decide (1000 < l0_2.length) = false := decide_eq_false (by omega)
       clear c21
       replace H := Option.bind_eq_some_iff.mp H
       obtain ⟨t120, A230, H⟩ := H
       replace H : (if t120 = true then ((hard_Check.f a0_3 a0_4 a0_5).bind fun t121 => (raft_Check.j0 k (t121 != 0) a0_0 a0_1 l0_2 a0_3 a0_4 a0_5 a0_6)) else (raft_Check.j0 k true a0_0 a0_1 l0_2 a0_3 a0_4 a0_5 a0_6)) = some r := H
       have A23 := Aside0.mk A230
       clear A230
       by_cases c24 : t120 = true
       ·subst c24
        have H1 : ((hard_Check.f a0_3 a0_4 a0_5).bind fun t121 => (raft_Check.j0 k (t121 != 0) a0_0 a0_1 l0_2 a0_3 a0_4 a0_5 a0_6)) = some r := by rw [if_pos rfl] at H; exact H
        clear H
        have H := H1
        clear H1
        replace H := Option.bind_eq_some_iff.mp H
        obtain ⟨t121, A250, H⟩ := H
        replace H : (raft_Check.j0 k (t121 != 0) a0_0 a0_1 l0_2 a0_3 a0_4 a0_5 a0_6) = some r := H
        have A25 := Aside0.mk A250
        clear A250
        have H' := Aside0.mk H
        clear H
        obtain ⟨hcz26_0, hcz26_1, hcz26_2, hcz26_3, hcz26_4, hcz26_5, hcz26_6⟩ := bc7 BK115.out
        obtain ⟨hfz26_0, hfz26_1, hfz26_2, hfz26_3, hfz26_4, hfz26_5, hfz26_6⟩ := bf7 BK115.out
        go_wp2_with (first | (go_at_call 34; (with_reducible refine (raft_counts.calls a0_0 true _ A17.out).mono ?_); rintro e w' ⟨rfl, ⟨nd, rfl⟩⟩; (try first | exact ⟨rfl, _, World.drewN_drewN _ _ _⟩ | exact ⟨rfl, _, Eq.trans (World.drewN_drewN _ _ _) (congrArg (World.drewN _) (Nat.add_assoc _ _ _))⟩)) | (go_at_call 34; (with_reducible refine (raft_counts.calls a0_1 true _ A19.out).mono ?_); rintro e w' ⟨rfl, ⟨nd, rfl⟩⟩; (try first | exact ⟨rfl, _, World.drewN_drewN _ _ _⟩ | exact ⟨rfl, _, Eq.trans (World.drewN_drewN _ _ _) (congrArg (World.drewN _) (Nat.add_assoc _ _ _))⟩)) | (go_at_call 26; (with_reducible refine (raft_rows.calls k _ _ l0_2 true _ ?side1 ?side2 A23.out).mono ?_); (case side1 => repeat (first | exact (Kd.C_below HR0_2.out (pE HB.out GE115.out)) | (with_reducible refine Kd.C_alloc ?_ _) | (with_reducible refine Kd.C_drewN ?_ _) | (with_reducible refine Kd.C_drew ?_))); (case side2 => exact HC0_2.out); rintro e w27 ⟨rfl, hb⟩; have n0_ := Aside0.mk (kB BK115.out hb); have n1_ := Aside0.mk (below_step (pE HB.out GE115.out) hb); clear BK115 HB; have BK115 := n0_; have HB := n1_; clear n0_ n1_; (try clear hb); (try clear hb2); (try clear hk); (try clear hi); obtain ⟨hcz28_0, hcz28_1, hcz28_2, hcz28_3, hcz28_4, hcz28_5, hcz28_6⟩ := bc7 BK115.out; obtain ⟨hfz28_0, hfz28_1, hfz28_2, hfz28_3, hfz28_4, hfz28_5, hfz28_6⟩ := bf7 BK115.out) | (go_at_call 40; (with_reducible refine (hard_Check.calls a0_3 a0_4 a0_5 t121 _ A25.out).mono ?_); rintro e w29 ⟨rfl, hb⟩; have n0_ := Aside0.mk (kB BK115.out hb); have n1_ := Aside0.mk (below_step (pE HB.out GE115.out) hb); clear BK115 HB; have BK115 := n0_; have HB := n1_; clear n0_ n1_; (try clear hb); (try clear hb2); (try clear hk); (try clear hi)))
        repeat (go_quiet (first | (go_at_call 34; (with_reducible refine (raft_counts.calls a0_0 true _ A17.out).mono ?_); rintro e w' ⟨rfl, ⟨nd, rfl⟩⟩; (try first | exact ⟨rfl, _, World.drewN_drewN _ _ _⟩ | exact ⟨rfl, _, Eq.trans (World.drewN_drewN _ _ _) (congrArg (World.drewN _) (Nat.add_assoc _ _ _))⟩)) | (go_at_call 34; (with_reducible refine (raft_counts.calls a0_1 true _ A19.out).mono ?_); rintro e w' ⟨rfl, ⟨nd, rfl⟩⟩; (try first | exact ⟨rfl, _, World.drewN_drewN _ _ _⟩ | exact ⟨rfl, _, Eq.trans (World.drewN_drewN _ _ _) (congrArg (World.drewN _) (Nat.add_assoc _ _ _))⟩)) | (go_at_call 26; (with_reducible refine (raft_rows.calls k _ _ l0_2 true _ ?side1 ?side2 A23.out).mono ?_); (case side1 => repeat (first | exact (Kd.C_below HR0_2.out (pE HB.out GE115.out)) | (with_reducible refine Kd.C_alloc ?_ _) | (with_reducible refine Kd.C_drewN ?_ _) | (with_reducible refine Kd.C_drew ?_))); (case side2 => exact HC0_2.out); rintro e w27 ⟨rfl, hb⟩; have n0_ := Aside0.mk (kB BK115.out hb); have n1_ := Aside0.mk (below_step (pE HB.out GE115.out) hb); clear BK115 HB; have BK115 := n0_; have HB := n1_; clear n0_ n1_; (try clear hb); (try clear hb2); (try clear hk); (try clear hi); obtain ⟨hcz28_0, hcz28_1, hcz28_2, hcz28_3, hcz28_4, hcz28_5, hcz28_6⟩ := bc7 BK115.out; obtain ⟨hfz28_0, hfz28_1, hfz28_2, hfz28_3, hfz28_4, hfz28_5, hfz28_6⟩ := bf7 BK115.out) | (go_at_call 40; (with_reducible refine (hard_Check.calls a0_3 a0_4 a0_5 t121 _ A25.out).mono ?_); rintro e w29 ⟨rfl, hb⟩; have n0_ := Aside0.mk (kB BK115.out hb); have n1_ := Aside0.mk (below_step (pE HB.out GE115.out) hb); clear BK115 HB; have BK115 := n0_; have HB := n1_; clear n0_ n1_; (try clear hb); (try clear hb2); (try clear hk); (try clear hi))); try go_wp2_with (first | (go_at_call 34; (with_reducible refine (raft_counts.calls a0_0 true _ A17.out).mono ?_); rintro e w' ⟨rfl, ⟨nd, rfl⟩⟩; (try first | exact ⟨rfl, _, World.drewN_drewN _ _ _⟩ | exact ⟨rfl, _, Eq.trans (World.drewN_drewN _ _ _) (congrArg (World.drewN _) (Nat.add_assoc _ _ _))⟩)) | (go_at_call 34; (with_reducible refine (raft_counts.calls a0_1 true _ A19.out).mono ?_); rintro e w' ⟨rfl, ⟨nd, rfl⟩⟩; (try first | exact ⟨rfl, _, World.drewN_drewN _ _ _⟩ | exact ⟨rfl, _, Eq.trans (World.drewN_drewN _ _ _) (congrArg (World.drewN _) (Nat.add_assoc _ _ _))⟩)) | (go_at_call 26; (with_reducible refine (raft_rows.calls k _ _ l0_2 true _ ?side1 ?side2 A23.out).mono ?_); (case side1 => repeat (first | exact (Kd.C_below HR0_2.out (pE HB.out GE115.out)) | (with_reducible refine Kd.C_alloc ?_ _) | (with_reducible refine Kd.C_drewN ?_ _) | (with_reducible refine Kd.C_drew ?_))); (case side2 => exact HC0_2.out); rintro e w27 ⟨rfl, hb⟩; have n0_ := Aside0.mk (kB BK115.out hb); have n1_ := Aside0.mk (below_step (pE HB.out GE115.out) hb); clear BK115 HB; have BK115 := n0_; have HB := n1_; clear n0_ n1_; (try clear hb); (try clear hb2); (try clear hk); (try clear hi); obtain ⟨hcz28_0, hcz28_1, hcz28_2, hcz28_3, hcz28_4, hcz28_5, hcz28_6⟩ := bc7 BK115.out; obtain ⟨hfz28_0, hfz28_1, hfz28_2, hfz28_3, hfz28_4, hfz28_5, hfz28_6⟩ := bf7 BK115.out) | (go_at_call 40; (with_reducible refine (hard_Check.calls a0_3 a0_4 a0_5 t121 _ A25.out).mono ?_); rintro e w29 ⟨rfl, hb⟩; have n0_ := Aside0.mk (kB BK115.out hb); have n1_ := Aside0.mk (below_step (pE HB.out GE115.out) hb); clear BK115 HB; have BK115 := n0_; have HB := n1_; clear n0_ n1_; (try clear hb); (try clear hb2); (try clear hk); (try clear hi))))
        go_meet
        case rel => exact ⟨_, ((t121 != 0)), (by first | rfl | (simp; done) | (simp [*]; done)), H', ⟨by first | omega | exact Nat.le_refl _⟩, ⟨pK BK115.out⟩, ⟨pE HB.out GE115.out⟩⟩
       ·replace c24 := Bool.eq_false_iff.mpr c24
        subst c24
        have H1 : (raft_Check.j0 k true a0_0 a0_1 l0_2 a0_3 a0_4 a0_5 a0_6) = some r := by rw [if_neg (show ¬ (false = true) by decide)] at H; exact H
        clear H
        have H := H1
        clear H1
        have H' := Aside0.mk H
        clear H
        obtain ⟨hcz30_0, hcz30_1, hcz30_2, hcz30_3, hcz30_4, hcz30_5, hcz30_6⟩ := bc7 BK115.out
        obtain ⟨hfz30_0, hfz30_1, hfz30_2, hfz30_3, hfz30_4, hfz30_5, hfz30_6⟩ := bf7 BK115.out
        go_wp2_with (first | (go_at_call 34; (with_reducible refine (raft_counts.calls a0_0 true _ A17.out).mono ?_); rintro e w' ⟨rfl, ⟨nd, rfl⟩⟩; (try first | exact ⟨rfl, _, World.drewN_drewN _ _ _⟩ | exact ⟨rfl, _, Eq.trans (World.drewN_drewN _ _ _) (congrArg (World.drewN _) (Nat.add_assoc _ _ _))⟩)) | (go_at_call 34; (with_reducible refine (raft_counts.calls a0_1 true _ A19.out).mono ?_); rintro e w' ⟨rfl, ⟨nd, rfl⟩⟩; (try first | exact ⟨rfl, _, World.drewN_drewN _ _ _⟩ | exact ⟨rfl, _, Eq.trans (World.drewN_drewN _ _ _) (congrArg (World.drewN _) (Nat.add_assoc _ _ _))⟩)) | (go_at_call 26; (with_reducible refine (raft_rows.calls k _ _ l0_2 false _ ?side1 ?side2 A23.out).mono ?_); (case side1 => repeat (first | exact (Kd.C_below HR0_2.out (pE HB.out GE115.out)) | (with_reducible refine Kd.C_alloc ?_ _) | (with_reducible refine Kd.C_drewN ?_ _) | (with_reducible refine Kd.C_drew ?_))); (case side2 => exact HC0_2.out); rintro e w31 ⟨rfl, hb⟩; have n0_ := Aside0.mk (kB BK115.out hb); have n1_ := Aside0.mk (below_step (pE HB.out GE115.out) hb); clear BK115 HB; have BK115 := n0_; have HB := n1_; clear n0_ n1_; (try clear hb); (try clear hb2); (try clear hk); (try clear hi)))
        repeat (go_quiet (first | (go_at_call 34; (with_reducible refine (raft_counts.calls a0_0 true _ A17.out).mono ?_); rintro e w' ⟨rfl, ⟨nd, rfl⟩⟩; (try first | exact ⟨rfl, _, World.drewN_drewN _ _ _⟩ | exact ⟨rfl, _, Eq.trans (World.drewN_drewN _ _ _) (congrArg (World.drewN _) (Nat.add_assoc _ _ _))⟩)) | (go_at_call 34; (with_reducible refine (raft_counts.calls a0_1 true _ A19.out).mono ?_); rintro e w' ⟨rfl, ⟨nd, rfl⟩⟩; (try first | exact ⟨rfl, _, World.drewN_drewN _ _ _⟩ | exact ⟨rfl, _, Eq.trans (World.drewN_drewN _ _ _) (congrArg (World.drewN _) (Nat.add_assoc _ _ _))⟩)) | (go_at_call 26; (with_reducible refine (raft_rows.calls k _ _ l0_2 false _ ?side1 ?side2 A23.out).mono ?_); (case side1 => repeat (first | exact (Kd.C_below HR0_2.out (pE HB.out GE115.out)) | (with_reducible refine Kd.C_alloc ?_ _) | (with_reducible refine Kd.C_drewN ?_ _) | (with_reducible refine Kd.C_drew ?_))); (case side2 => exact HC0_2.out); rintro e w31 ⟨rfl, hb⟩; have n0_ := Aside0.mk (kB BK115.out hb); have n1_ := Aside0.mk (below_step (pE HB.out GE115.out) hb); clear BK115 HB; have BK115 := n0_; have HB := n1_; clear n0_ n1_; (try clear hb); (try clear hb2); (try clear hk); (try clear hi))); try go_wp2_with (first | (go_at_call 34; (with_reducible refine (raft_counts.calls a0_0 true _ A17.out).mono ?_); rintro e w' ⟨rfl, ⟨nd, rfl⟩⟩; (try first | exact ⟨rfl, _, World.drewN_drewN _ _ _⟩ | exact ⟨rfl, _, Eq.trans (World.drewN_drewN _ _ _) (congrArg (World.drewN _) (Nat.add_assoc _ _ _))⟩)) | (go_at_call 34; (with_reducible refine (raft_counts.calls a0_1 true _ A19.out).mono ?_); rintro e w' ⟨rfl, ⟨nd, rfl⟩⟩; (try first | exact ⟨rfl, _, World.drewN_drewN _ _ _⟩ | exact ⟨rfl, _, Eq.trans (World.drewN_drewN _ _ _) (congrArg (World.drewN _) (Nat.add_assoc _ _ _))⟩)) | (go_at_call 26; (with_reducible refine (raft_rows.calls k _ _ l0_2 false _ ?side1 ?side2 A23.out).mono ?_); (case side1 => repeat (first | exact (Kd.C_below HR0_2.out (pE HB.out GE115.out)) | (with_reducible refine Kd.C_alloc ?_ _) | (with_reducible refine Kd.C_drewN ?_ _) | (with_reducible refine Kd.C_drew ?_))); (case side2 => exact HC0_2.out); rintro e w31 ⟨rfl, hb⟩; have n0_ := Aside0.mk (kB BK115.out hb); have n1_ := Aside0.mk (below_step (pE HB.out GE115.out) hb); clear BK115 HB; have BK115 := n0_; have HB := n1_; clear n0_ n1_; (try clear hb); (try clear hb2); (try clear hk); (try clear hi))))
        go_meet
        case rel => exact ⟨_, (true), (by first | rfl | (simp; done) | (simp [*]; done)), H', ⟨by first | omega | exact Nat.le_refl _⟩, ⟨pK BK115.out⟩, ⟨pE HB.out GE115.out⟩⟩
     ·replace c20 := Bool.eq_false_iff.mpr c20
      subst c20
      have H1 : (raft_Check.j0 k true a0_0 a0_1 l0_2 a0_3 a0_4 a0_5 a0_6) = some r := by rw [if_neg (show ¬ (false = true) by decide)] at H; exact H
      clear H
      have H := H1
      clear H1
      have H' := Aside0.mk H
      clear H
      obtain ⟨hcz32_0, hcz32_1, hcz32_2, hcz32_3, hcz32_4, hcz32_5, hcz32_6⟩ := bc7 BK115.out
      obtain ⟨hfz32_0, hfz32_1, hfz32_2, hfz32_3, hfz32_4, hfz32_5, hfz32_6⟩ := bf7 BK115.out
      go_wp2_with (first | (go_at_call 34; (with_reducible refine (raft_counts.calls a0_0 true _ A17.out).mono ?_); rintro e w' ⟨rfl, ⟨nd, rfl⟩⟩; (try first | exact ⟨rfl, _, World.drewN_drewN _ _ _⟩ | exact ⟨rfl, _, Eq.trans (World.drewN_drewN _ _ _) (congrArg (World.drewN _) (Nat.add_assoc _ _ _))⟩)) | (go_at_call 34; (with_reducible refine (raft_counts.calls a0_1 false _ A19.out).mono ?_); rintro e w' ⟨rfl, ⟨nd, rfl⟩⟩; (try first | exact ⟨rfl, _, World.drewN_drewN _ _ _⟩ | exact ⟨rfl, _, Eq.trans (World.drewN_drewN _ _ _) (congrArg (World.drewN _) (Nat.add_assoc _ _ _))⟩)))
      repeat (go_quiet (first | (go_at_call 34; (with_reducible refine (raft_counts.calls a0_0 true _ A17.out).mono ?_); rintro e w' ⟨rfl, ⟨nd, rfl⟩⟩; (try first | exact ⟨rfl, _, World.drewN_drewN _ _ _⟩ | exact ⟨rfl, _, Eq.trans (World.drewN_drewN _ _ _) (congrArg (World.drewN _) (Nat.add_assoc _ _ _))⟩)) | (go_at_call 34; (with_reducible refine (raft_counts.calls a0_1 false _ A19.out).mono ?_); rintro e w' ⟨rfl, ⟨nd, rfl⟩⟩; (try first | exact ⟨rfl, _, World.drewN_drewN _ _ _⟩ | exact ⟨rfl, _, Eq.trans (World.drewN_drewN _ _ _) (congrArg (World.drewN _) (Nat.add_assoc _ _ _))⟩))); try go_wp2_with (first | (go_at_call 34; (with_reducible refine (raft_counts.calls a0_0 true _ A17.out).mono ?_); rintro e w' ⟨rfl, ⟨nd, rfl⟩⟩; (try first | exact ⟨rfl, _, World.drewN_drewN _ _ _⟩ | exact ⟨rfl, _, Eq.trans (World.drewN_drewN _ _ _) (congrArg (World.drewN _) (Nat.add_assoc _ _ _))⟩)) | (go_at_call 34; (with_reducible refine (raft_counts.calls a0_1 false _ A19.out).mono ?_); rintro e w' ⟨rfl, ⟨nd, rfl⟩⟩; (try first | exact ⟨rfl, _, World.drewN_drewN _ _ _⟩ | exact ⟨rfl, _, Eq.trans (World.drewN_drewN _ _ _) (congrArg (World.drewN _) (Nat.add_assoc _ _ _))⟩))))
      go_meet
      case rel => exact ⟨_, (true), (by first | rfl | (simp; done) | (simp [*]; done)), H', ⟨by first | omega | exact Nat.le_refl _⟩, ⟨pK BK115.out⟩, ⟨pE HB.out GE115.out⟩⟩
    ·replace c18 := Bool.eq_false_iff.mpr c18
     subst c18
     have H1 : (raft_Check.j0 k true a0_0 a0_1 l0_2 a0_3 a0_4 a0_5 a0_6) = some r := by rw [if_neg (show ¬ (false = true) by decide)] at H; exact H
     clear H
     have H := H1
     clear H1
     have H' := Aside0.mk H
     clear H
     obtain ⟨hcz33_0, hcz33_1, hcz33_2, hcz33_3, hcz33_4, hcz33_5, hcz33_6⟩ := bc7 BK115.out
     obtain ⟨hfz33_0, hfz33_1, hfz33_2, hfz33_3, hfz33_4, hfz33_5, hfz33_6⟩ := bf7 BK115.out
     go_wp2_with (first | (go_at_call 34; (with_reducible refine (raft_counts.calls a0_0 false _ A17.out).mono ?_); rintro e w' ⟨rfl, ⟨nd, rfl⟩⟩; (try first | exact ⟨rfl, _, World.drewN_drewN _ _ _⟩ | exact ⟨rfl, _, Eq.trans (World.drewN_drewN _ _ _) (congrArg (World.drewN _) (Nat.add_assoc _ _ _))⟩)))
     repeat (go_quiet (first | (go_at_call 34; (with_reducible refine (raft_counts.calls a0_0 false _ A17.out).mono ?_); rintro e w' ⟨rfl, ⟨nd, rfl⟩⟩; (try first | exact ⟨rfl, _, World.drewN_drewN _ _ _⟩ | exact ⟨rfl, _, Eq.trans (World.drewN_drewN _ _ _) (congrArg (World.drewN _) (Nat.add_assoc _ _ _))⟩))); try go_wp2_with (first | (go_at_call 34; (with_reducible refine (raft_counts.calls a0_0 false _ A17.out).mono ?_); rintro e w' ⟨rfl, ⟨nd, rfl⟩⟩; (try first | exact ⟨rfl, _, World.drewN_drewN _ _ _⟩ | exact ⟨rfl, _, Eq.trans (World.drewN_drewN _ _ _) (congrArg (World.drewN _) (Nat.add_assoc _ _ _))⟩))))
     go_meet
     case rel => exact ⟨_, (true), (by first | rfl | (simp; done) | (simp [*]; done)), H', ⟨by first | omega | exact Nat.le_refl _⟩, ⟨pK BK115.out⟩, ⟨pE HB.out GE115.out⟩⟩
  ·rw [if_neg c4] at H
   have c4b0 : (a0_0 == 0) = false := beq_eq_false_iff_ne.mpr c4
   have c4b1 : (a0_0 != 0) = true := bne_iff_ne.mpr c4
   (first | rw [c4b0] | (simp only [i64_w, i32_w]; rw [c4b0]) | skip)
   replace H := Option.bind_eq_some_iff.mp H
   obtain ⟨t122, A340, H⟩ := H
   replace H : (if t122 = true then ((raft_counts.f a0_1).bind fun t123 => (if t123 = true then (if (l0_2.length : Int) > 1000 then (raft_Check.j0 k true a0_0 a0_1 l0_2 a0_3 a0_4 a0_5 a0_6) else ((raft_rows.f k l0_2).bind fun t124 => (if t124 = true then ((hard_Check.f a0_3 a0_4 a0_5).bind fun t125 => (raft_Check.j0 k (t125 != 0) a0_0 a0_1 l0_2 a0_3 a0_4 a0_5 a0_6)) else (raft_Check.j0 k true a0_0 a0_1 l0_2 a0_3 a0_4 a0_5 a0_6)))) else (raft_Check.j0 k true a0_0 a0_1 l0_2 a0_3 a0_4 a0_5 a0_6))) else (raft_Check.j0 k true a0_0 a0_1 l0_2 a0_3 a0_4 a0_5 a0_6)) = some r := H
   have A34 := Aside0.mk A340
   clear A340
   by_cases c35 : t122 = true
   ·subst c35
    have H1 : ((raft_counts.f a0_1).bind fun t123 => (if t123 = true then (if (l0_2.length : Int) > 1000 then (raft_Check.j0 k true a0_0 a0_1 l0_2 a0_3 a0_4 a0_5 a0_6) else ((raft_rows.f k l0_2).bind fun t124 => (if t124 = true then ((hard_Check.f a0_3 a0_4 a0_5).bind fun t125 => (raft_Check.j0 k (t125 != 0) a0_0 a0_1 l0_2 a0_3 a0_4 a0_5 a0_6)) else (raft_Check.j0 k true a0_0 a0_1 l0_2 a0_3 a0_4 a0_5 a0_6)))) else (raft_Check.j0 k true a0_0 a0_1 l0_2 a0_3 a0_4 a0_5 a0_6))) = some r := by rw [if_pos rfl] at H; exact H
    clear H
    have H := H1
    clear H1
    replace H := Option.bind_eq_some_iff.mp H
    obtain ⟨t123, A360, H⟩ := H
    replace H : (if t123 = true then (if (l0_2.length : Int) > 1000 then (raft_Check.j0 k true a0_0 a0_1 l0_2 a0_3 a0_4 a0_5 a0_6) else ((raft_rows.f k l0_2).bind fun t124 => (if t124 = true then ((hard_Check.f a0_3 a0_4 a0_5).bind fun t125 => (raft_Check.j0 k (t125 != 0) a0_0 a0_1 l0_2 a0_3 a0_4 a0_5 a0_6)) else (raft_Check.j0 k true a0_0 a0_1 l0_2 a0_3 a0_4 a0_5 a0_6)))) else (raft_Check.j0 k true a0_0 a0_1 l0_2 a0_3 a0_4 a0_5 a0_6)) = some r := H
    have A36 := Aside0.mk A360
    clear A360
    by_cases c37 : t123 = true
    ·subst c37
     have H1 : (if (l0_2.length : Int) > 1000 then (raft_Check.j0 k true a0_0 a0_1 l0_2 a0_3 a0_4 a0_5 a0_6) else ((raft_rows.f k l0_2).bind fun t124 => (if t124 = true then ((hard_Check.f a0_3 a0_4 a0_5).bind fun t125 => (raft_Check.j0 k (t125 != 0) a0_0 a0_1 l0_2 a0_3 a0_4 a0_5 a0_6)) else (raft_Check.j0 k true a0_0 a0_1 l0_2 a0_3 a0_4 a0_5 a0_6)))) = some r := by rw [if_pos rfl] at H; exact H
     clear H
     have H := H1
     clear H1
     by_cases c38 : (l0_2.length : Int) > 1000
     ·rw [if_pos c38] at H
      have c38b0 : decide (1000 < (l0_2.length : Int)) = true := decide_eq_true c38
      have c38b1 : decide (1000 < l0_2.length) = true := decide_eq_true (by omega)
      clear c38
      have H' := Aside0.mk H
      clear H
      obtain ⟨hcz39_0, hcz39_1, hcz39_2, hcz39_3, hcz39_4, hcz39_5, hcz39_6⟩ := bc7 BK115.out
      obtain ⟨hfz39_0, hfz39_1, hfz39_2, hfz39_3, hfz39_4, hfz39_5, hfz39_6⟩ := bf7 BK115.out
      go_wp2_with (first | (go_at_call 34; (with_reducible refine (raft_counts.calls a0_0 true _ A34.out).mono ?_); rintro e w' ⟨rfl, ⟨nd, rfl⟩⟩; (try first | exact ⟨rfl, _, World.drewN_drewN _ _ _⟩ | exact ⟨rfl, _, Eq.trans (World.drewN_drewN _ _ _) (congrArg (World.drewN _) (Nat.add_assoc _ _ _))⟩)) | (go_at_call 34; (with_reducible refine (raft_counts.calls a0_1 true _ A36.out).mono ?_); rintro e w' ⟨rfl, ⟨nd, rfl⟩⟩; (try first | exact ⟨rfl, _, World.drewN_drewN _ _ _⟩ | exact ⟨rfl, _, Eq.trans (World.drewN_drewN _ _ _) (congrArg (World.drewN _) (Nat.add_assoc _ _ _))⟩)))
      repeat (go_quiet (first | (go_at_call 34; (with_reducible refine (raft_counts.calls a0_0 true _ A34.out).mono ?_); rintro e w' ⟨rfl, ⟨nd, rfl⟩⟩; (try first | exact ⟨rfl, _, World.drewN_drewN _ _ _⟩ | exact ⟨rfl, _, Eq.trans (World.drewN_drewN _ _ _) (congrArg (World.drewN _) (Nat.add_assoc _ _ _))⟩)) | (go_at_call 34; (with_reducible refine (raft_counts.calls a0_1 true _ A36.out).mono ?_); rintro e w' ⟨rfl, ⟨nd, rfl⟩⟩; (try first | exact ⟨rfl, _, World.drewN_drewN _ _ _⟩ | exact ⟨rfl, _, Eq.trans (World.drewN_drewN _ _ _) (congrArg (World.drewN _) (Nat.add_assoc _ _ _))⟩))); try go_wp2_with (first | (go_at_call 34; (with_reducible refine (raft_counts.calls a0_0 true _ A34.out).mono ?_); rintro e w' ⟨rfl, ⟨nd, rfl⟩⟩; (try first | exact ⟨rfl, _, World.drewN_drewN _ _ _⟩ | exact ⟨rfl, _, Eq.trans (World.drewN_drewN _ _ _) (congrArg (World.drewN _) (Nat.add_assoc _ _ _))⟩)) | (go_at_call 34; (with_reducible refine (raft_counts.calls a0_1 true _ A36.out).mono ?_); rintro e w' ⟨rfl, ⟨nd, rfl⟩⟩; (try first | exact ⟨rfl, _, World.drewN_drewN _ _ _⟩ | exact ⟨rfl, _, Eq.trans (World.drewN_drewN _ _ _) (congrArg (World.drewN _) (Nat.add_assoc _ _ _))⟩))))
      go_meet
      case rel => exact ⟨_, (true), (by first | rfl | (simp; done) | (simp [*]; done)), H', ⟨by first | omega | exact Nat.le_refl _⟩, ⟨pK BK115.out⟩, ⟨pE HB.out GE115.out⟩⟩
     ·rw [if_neg c38] at H
      have c38b0 : decide (1000 < (l0_2.length : Int)) = false := decide_eq_false c38
      have c38b1 : decide (1000 < l0_2.length) = false := decide_eq_false (by omega)
      clear c38
      replace H := Option.bind_eq_some_iff.mp H
      obtain ⟨t124, A400, H⟩ := H
      replace H : (if t124 = true then ((hard_Check.f a0_3 a0_4 a0_5).bind fun t125 => (raft_Check.j0 k (t125 != 0) a0_0 a0_1 l0_2 a0_3 a0_4 a0_5 a0_6)) else (raft_Check.j0 k true a0_0 a0_1 l0_2 a0_3 a0_4 a0_5 a0_6)) = some r := H
      have A40 := Aside0.mk A400
      clear A400
      by_cases c41 : t124 = true
      ·subst c41
       have H1 : ((hard_Check.f a0_3 a0_4 a0_5).bind fun t125 => (raft_Check.j0 k (t125 != 0) a0_0 a0_1 l0_2 a0_3 a0_4 a0_5 a0_6)) = some r := by rw [if_pos rfl] at H; exact H
       clear H
       have H := H1
       clear H1
       replace H := Option.bind_eq_some_iff.mp H
       obtain ⟨t125, A420, H⟩ := H
       replace H : (raft_Check.j0 k (t125 != 0) a0_0 a0_1 l0_2 a0_3 a0_4 a0_5 a0_6) = some r := H
       have A42 := Aside0.mk A420
       clear A420
       have H' := Aside0.mk H
       clear H
       obtain ⟨hcz43_0, hcz43_1, hcz43_2, hcz43_3, hcz43_4, hcz43_5, hcz43_6⟩ := bc7 BK115.out
       obtain ⟨hfz43_0, hfz43_1, hfz43_2, hfz43_3, hfz43_4, hfz43_5, hfz43_6⟩ := bf7 BK115.out
       go_wp2_with (first | (go_at_call 34; (with_reducible refine (raft_counts.calls a0_0 true _ A34.out).mono ?_); rintro e w' ⟨rfl, ⟨nd, rfl⟩⟩; (try first | exact ⟨rfl, _, World.drewN_drewN _ _ _⟩ | exact ⟨rfl, _, Eq.trans (World.drewN_drewN _ _ _) (congrArg (World.drewN _) (Nat.add_assoc _ _ _))⟩)) | (go_at_call 34; (with_reducible refine (raft_counts.calls a0_1 true _ A36.out).mono ?_); rintro e w' ⟨rfl, ⟨nd, rfl⟩⟩; (try first | exact ⟨rfl, _, World.drewN_drewN _ _ _⟩ | exact ⟨rfl, _, Eq.trans (World.drewN_drewN _ _ _) (congrArg (World.drewN _) (Nat.add_assoc _ _ _))⟩)) | (go_at_call 26; (with_reducible refine (raft_rows.calls k _ _ l0_2 true _ ?side1 ?side2 A40.out).mono ?_); (case side1 => repeat (first | exact (Kd.C_below HR0_2.out (pE HB.out GE115.out)) | (with_reducible refine Kd.C_alloc ?_ _) | (with_reducible refine Kd.C_drewN ?_ _) | (with_reducible refine Kd.C_drew ?_))); (case side2 => exact HC0_2.out); rintro e w44 ⟨rfl, hb⟩; have n0_ := Aside0.mk (kB BK115.out hb); have n1_ := Aside0.mk (below_step (pE HB.out GE115.out) hb); clear BK115 HB; have BK115 := n0_; have HB := n1_; clear n0_ n1_; (try clear hb); (try clear hb2); (try clear hk); (try clear hi); obtain ⟨hcz45_0, hcz45_1, hcz45_2, hcz45_3, hcz45_4, hcz45_5, hcz45_6⟩ := bc7 BK115.out; obtain ⟨hfz45_0, hfz45_1, hfz45_2, hfz45_3, hfz45_4, hfz45_5, hfz45_6⟩ := bf7 BK115.out) | (go_at_call 40; (with_reducible refine (hard_Check.calls a0_3 a0_4 a0_5 t125 _ A42.out).mono ?_); rintro e w46 ⟨rfl, hb⟩; have n0_ := Aside0.mk (kB BK115.out hb); have n1_ := Aside0.mk (below_step (pE HB.out GE115.out) hb); clear BK115 HB; have BK115 := n0_; have HB := n1_; clear n0_ n1_; (try clear hb); (try clear hb2); (try clear hk); (try clear hi)))
       repeat (go_quiet (first | (go_at_call 34; (with_reducible refine (raft_counts.calls a0_0 true _ A34.out).mono ?_); rintro e w' ⟨rfl, ⟨nd, rfl⟩⟩; (try first | exact ⟨rfl, _, World.drewN_drewN _ _ _⟩ | exact ⟨rfl, _, Eq.trans (World.drewN_drewN _ _ _) (congrArg (World.drewN _) (Nat.add_assoc _ _ _))⟩)) | (go_at_call 34; (with_reducible refine (raft_counts.calls a0_1 true _ A36.out).mono ?_); rintro e w' ⟨rfl, ⟨nd, rfl⟩⟩; (try first | exact ⟨rfl, _, World.drewN_drewN _ _ _⟩ | exact ⟨rfl, _, Eq.trans (World.drewN_drewN _ _ _) (congrArg (World.drewN _) (Nat.add_assoc _ _ _))⟩)) | (go_at_call 26; (with_reducible refine (raft_rows.calls k _ _ l0_2 true _ ?side1 ?side2 A40.out).mono ?_); (case side1 => repeat (first | exact (Kd.C_below HR0_2.out (pE HB.out GE115.out)) | (with_reducible refine Kd.C_alloc ?_ _) | (with_reducible refine Kd.C_drewN ?_ _) | (with_reducible refine Kd.C_drew ?_))); (case side2 => exact HC0_2.out); rintro e w44 ⟨rfl, hb⟩; have n0_ := Aside0.mk (kB BK115.out hb); have n1_ := Aside0.mk (below_step (pE HB.out GE115.out) hb); clear BK115 HB; have BK115 := n0_; have HB := n1_; clear n0_ n1_; (try clear hb); (try clear hb2); (try clear hk); (try clear hi); obtain ⟨hcz45_0, hcz45_1, hcz45_2, hcz45_3, hcz45_4, hcz45_5, hcz45_6⟩ := bc7 BK115.out; obtain ⟨hfz45_0, hfz45_1, hfz45_2, hfz45_3, hfz45_4, hfz45_5, hfz45_6⟩ := bf7 BK115.out) | (go_at_call 40; (with_reducible refine (hard_Check.calls a0_3 a0_4 a0_5 t125 _ A42.out).mono ?_); rintro e w46 ⟨rfl, hb⟩; have n0_ := Aside0.mk (kB BK115.out hb); have n1_ := Aside0.mk (below_step (pE HB.out GE115.out) hb); clear BK115 HB; have BK115 := n0_; have HB := n1_; clear n0_ n1_; (try clear hb); (try clear hb2); (try clear hk); (try clear hi))); try go_wp2_with (first | (go_at_call 34; (with_reducible refine (raft_counts.calls a0_0 true _ A34.out).mono ?_); rintro e w' ⟨rfl, ⟨nd, rfl⟩⟩; (try first | exact ⟨rfl, _, World.drewN_drewN _ _ _⟩ | exact ⟨rfl, _, Eq.trans (World.drewN_drewN _ _ _) (congrArg (World.drewN _) (Nat.add_assoc _ _ _))⟩)) | (go_at_call 34; (with_reducible refine (raft_counts.calls a0_1 true _ A36.out).mono ?_); rintro e w' ⟨rfl, ⟨nd, rfl⟩⟩; (try first | exact ⟨rfl, _, World.drewN_drewN _ _ _⟩ | exact ⟨rfl, _, Eq.trans (World.drewN_drewN _ _ _) (congrArg (World.drewN _) (Nat.add_assoc _ _ _))⟩)) | (go_at_call 26; (with_reducible refine (raft_rows.calls k _ _ l0_2 true _ ?side1 ?side2 A40.out).mono ?_); (case side1 => repeat (first | exact (Kd.C_below HR0_2.out (pE HB.out GE115.out)) | (with_reducible refine Kd.C_alloc ?_ _) | (with_reducible refine Kd.C_drewN ?_ _) | (with_reducible refine Kd.C_drew ?_))); (case side2 => exact HC0_2.out); rintro e w44 ⟨rfl, hb⟩; have n0_ := Aside0.mk (kB BK115.out hb); have n1_ := Aside0.mk (below_step (pE HB.out GE115.out) hb); clear BK115 HB; have BK115 := n0_; have HB := n1_; clear n0_ n1_; (try clear hb); (try clear hb2); (try clear hk); (try clear hi); obtain ⟨hcz45_0, hcz45_1, hcz45_2, hcz45_3, hcz45_4, hcz45_5, hcz45_6⟩ := bc7 BK115.out; obtain ⟨hfz45_0, hfz45_1, hfz45_2, hfz45_3, hfz45_4, hfz45_5, hfz45_6⟩ := bf7 BK115.out) | (go_at_call 40; (with_reducible refine (hard_Check.calls a0_3 a0_4 a0_5 t125 _ A42.out).mono ?_); rintro e w46 ⟨rfl, hb⟩; have n0_ := Aside0.mk (kB BK115.out hb); have n1_ := Aside0.mk (below_step (pE HB.out GE115.out) hb); clear BK115 HB; have BK115 := n0_; have HB := n1_; clear n0_ n1_; (try clear hb); (try clear hb2); (try clear hk); (try clear hi))))
       go_meet
       case rel => exact ⟨_, ((t125 != 0)), (by first | rfl | (simp; done) | (simp [*]; done)), H', ⟨by first | omega | exact Nat.le_refl _⟩, ⟨pK BK115.out⟩, ⟨pE HB.out GE115.out⟩⟩
      ·replace c41 := Bool.eq_false_iff.mpr c41
       subst c41
       have H1 : (raft_Check.j0 k true a0_0 a0_1 l0_2 a0_3 a0_4 a0_5 a0_6) = some r := by rw [if_neg (show ¬ (false = true) by decide)] at H; exact H
       clear H
       have H := H1
       clear H1
       have H' := Aside0.mk H
       clear H
       obtain ⟨hcz47_0, hcz47_1, hcz47_2, hcz47_3, hcz47_4, hcz47_5, hcz47_6⟩ := bc7 BK115.out
       obtain ⟨hfz47_0, hfz47_1, hfz47_2, hfz47_3, hfz47_4, hfz47_5, hfz47_6⟩ := bf7 BK115.out
       go_wp2_with (first | (go_at_call 34; (with_reducible refine (raft_counts.calls a0_0 true _ A34.out).mono ?_); rintro e w' ⟨rfl, ⟨nd, rfl⟩⟩; (try first | exact ⟨rfl, _, World.drewN_drewN _ _ _⟩ | exact ⟨rfl, _, Eq.trans (World.drewN_drewN _ _ _) (congrArg (World.drewN _) (Nat.add_assoc _ _ _))⟩)) | (go_at_call 34; (with_reducible refine (raft_counts.calls a0_1 true _ A36.out).mono ?_); rintro e w' ⟨rfl, ⟨nd, rfl⟩⟩; (try first | exact ⟨rfl, _, World.drewN_drewN _ _ _⟩ | exact ⟨rfl, _, Eq.trans (World.drewN_drewN _ _ _) (congrArg (World.drewN _) (Nat.add_assoc _ _ _))⟩)) | (go_at_call 26; (with_reducible refine (raft_rows.calls k _ _ l0_2 false _ ?side1 ?side2 A40.out).mono ?_); (case side1 => repeat (first | exact (Kd.C_below HR0_2.out (pE HB.out GE115.out)) | (with_reducible refine Kd.C_alloc ?_ _) | (with_reducible refine Kd.C_drewN ?_ _) | (with_reducible refine Kd.C_drew ?_))); (case side2 => exact HC0_2.out); rintro e w48 ⟨rfl, hb⟩; have n0_ := Aside0.mk (kB BK115.out hb); have n1_ := Aside0.mk (below_step (pE HB.out GE115.out) hb); clear BK115 HB; have BK115 := n0_; have HB := n1_; clear n0_ n1_; (try clear hb); (try clear hb2); (try clear hk); (try clear hi)))
       repeat (go_quiet (first | (go_at_call 34; (with_reducible refine (raft_counts.calls a0_0 true _ A34.out).mono ?_); rintro e w' ⟨rfl, ⟨nd, rfl⟩⟩; (try first | exact ⟨rfl, _, World.drewN_drewN _ _ _⟩ | exact ⟨rfl, _, Eq.trans (World.drewN_drewN _ _ _) (congrArg (World.drewN _) (Nat.add_assoc _ _ _))⟩)) | (go_at_call 34; (with_reducible refine (raft_counts.calls a0_1 true _ A36.out).mono ?_); rintro e w' ⟨rfl, ⟨nd, rfl⟩⟩; (try first | exact ⟨rfl, _, World.drewN_drewN _ _ _⟩ | exact ⟨rfl, _, Eq.trans (World.drewN_drewN _ _ _) (congrArg (World.drewN _) (Nat.add_assoc _ _ _))⟩)) | (go_at_call 26; (with_reducible refine (raft_rows.calls k _ _ l0_2 false _ ?side1 ?side2 A40.out).mono ?_); (case side1 => repeat (first | exact (Kd.C_below HR0_2.out (pE HB.out GE115.out)) | (with_reducible refine Kd.C_alloc ?_ _) | (with_reducible refine Kd.C_drewN ?_ _) | (with_reducible refine Kd.C_drew ?_))); (case side2 => exact HC0_2.out); rintro e w48 ⟨rfl, hb⟩; have n0_ := Aside0.mk (kB BK115.out hb); have n1_ := Aside0.mk (below_step (pE HB.out GE115.out) hb); clear BK115 HB; have BK115 := n0_; have HB := n1_; clear n0_ n1_; (try clear hb); (try clear hb2); (try clear hk); (try clear hi))); try go_wp2_with (first | (go_at_call 34; (with_reducible refine (raft_counts.calls a0_0 true _ A34.out).mono ?_); rintro e w' ⟨rfl, ⟨nd, rfl⟩⟩; (try first | exact ⟨rfl, _, World.drewN_drewN _ _ _⟩ | exact ⟨rfl, _, Eq.trans (World.drewN_drewN _ _ _) (congrArg (World.drewN _) (Nat.add_assoc _ _ _))⟩)) | (go_at_call 34; (with_reducible refine (raft_counts.calls a0_1 true _ A36.out).mono ?_); rintro e w' ⟨rfl, ⟨nd, rfl⟩⟩; (try first | exact ⟨rfl, _, World.drewN_drewN _ _ _⟩ | exact ⟨rfl, _, Eq.trans (World.drewN_drewN _ _ _) (congrArg (World.drewN _) (Nat.add_assoc _ _ _))⟩)) | (go_at_call 26; (with_reducible refine (raft_rows.calls k _ _ l0_2 false _ ?side1 ?side2 A40.out).mono ?_); (case side1 => repeat (first | exact (Kd.C_below HR0_2.out (pE HB.out GE115.out)) | (with_reducible refine Kd.C_alloc ?_ _) | (with_reducible refine Kd.C_drewN ?_ _) | (with_reducible refine Kd.C_drew ?_))); (case side2 => exact HC0_2.out); rintro e w48 ⟨rfl, hb⟩; have n0_ := Aside0.mk (kB BK115.out hb); have n1_ := Aside0.mk (below_step (pE HB.out GE115.out) hb); clear BK115 HB; have BK115 := n0_; have HB := n1_; clear n0_ n1_; (try clear hb); (try clear hb2); (try clear hk); (try clear hi))))
       go_meet
       case rel => exact ⟨_, (true), (by first | rfl | (simp; done) | (simp [*]; done)), H', ⟨by first | omega | exact Nat.le_refl _⟩, ⟨pK BK115.out⟩, ⟨pE HB.out GE115.out⟩⟩
    ·replace c37 := Bool.eq_false_iff.mpr c37
     subst c37
     have H1 : (raft_Check.j0 k true a0_0 a0_1 l0_2 a0_3 a0_4 a0_5 a0_6) = some r := by rw [if_neg (show ¬ (false = true) by decide)] at H; exact H
     clear H
     have H := H1
     clear H1
     have H' := Aside0.mk H
     clear H
     obtain ⟨hcz49_0, hcz49_1, hcz49_2, hcz49_3, hcz49_4, hcz49_5, hcz49_6⟩ := bc7 BK115.out
     obtain ⟨hfz49_0, hfz49_1, hfz49_2, hfz49_3, hfz49_4, hfz49_5, hfz49_6⟩ := bf7 BK115.out
     go_wp2_with (first | (go_at_call 34; (with_reducible refine (raft_counts.calls a0_0 true _ A34.out).mono ?_); rintro e w' ⟨rfl, ⟨nd, rfl⟩⟩; (try first | exact ⟨rfl, _, World.drewN_drewN _ _ _⟩ | exact ⟨rfl, _, Eq.trans (World.drewN_drewN _ _ _) (congrArg (World.drewN _) (Nat.add_assoc _ _ _))⟩)) | (go_at_call 34; (with_reducible refine (raft_counts.calls a0_1 false _ A36.out).mono ?_); rintro e w' ⟨rfl, ⟨nd, rfl⟩⟩; (try first | exact ⟨rfl, _, World.drewN_drewN _ _ _⟩ | exact ⟨rfl, _, Eq.trans (World.drewN_drewN _ _ _) (congrArg (World.drewN _) (Nat.add_assoc _ _ _))⟩)))
     repeat (go_quiet (first | (go_at_call 34; (with_reducible refine (raft_counts.calls a0_0 true _ A34.out).mono ?_); rintro e w' ⟨rfl, ⟨nd, rfl⟩⟩; (try first | exact ⟨rfl, _, World.drewN_drewN _ _ _⟩ | exact ⟨rfl, _, Eq.trans (World.drewN_drewN _ _ _) (congrArg (World.drewN _) (Nat.add_assoc _ _ _))⟩)) | (go_at_call 34; (with_reducible refine (raft_counts.calls a0_1 false _ A36.out).mono ?_); rintro e w' ⟨rfl, ⟨nd, rfl⟩⟩; (try first | exact ⟨rfl, _, World.drewN_drewN _ _ _⟩ | exact ⟨rfl, _, Eq.trans (World.drewN_drewN _ _ _) (congrArg (World.drewN _) (Nat.add_assoc _ _ _))⟩))); try go_wp2_with (first | (go_at_call 34; (with_reducible refine (raft_counts.calls a0_0 true _ A34.out).mono ?_); rintro e w' ⟨rfl, ⟨nd, rfl⟩⟩; (try first | exact ⟨rfl, _, World.drewN_drewN _ _ _⟩ | exact ⟨rfl, _, Eq.trans (World.drewN_drewN _ _ _) (congrArg (World.drewN _) (Nat.add_assoc _ _ _))⟩)) | (go_at_call 34; (with_reducible refine (raft_counts.calls a0_1 false _ A36.out).mono ?_); rintro e w' ⟨rfl, ⟨nd, rfl⟩⟩; (try first | exact ⟨rfl, _, World.drewN_drewN _ _ _⟩ | exact ⟨rfl, _, Eq.trans (World.drewN_drewN _ _ _) (congrArg (World.drewN _) (Nat.add_assoc _ _ _))⟩))))
     go_meet
     case rel => exact ⟨_, (true), (by first | rfl | (simp; done) | (simp [*]; done)), H', ⟨by first | omega | exact Nat.le_refl _⟩, ⟨pK BK115.out⟩, ⟨pE HB.out GE115.out⟩⟩
   ·replace c35 := Bool.eq_false_iff.mpr c35
    subst c35
    have H1 : (raft_Check.j0 k true a0_0 a0_1 l0_2 a0_3 a0_4 a0_5 a0_6) = some r := by rw [if_neg (show ¬ (false = true) by decide)] at H; exact H
    clear H
    have H := H1
    clear H1
    have H' := Aside0.mk H
    clear H
    obtain ⟨hcz50_0, hcz50_1, hcz50_2, hcz50_3, hcz50_4, hcz50_5, hcz50_6⟩ := bc7 BK115.out
    obtain ⟨hfz50_0, hfz50_1, hfz50_2, hfz50_3, hfz50_4, hfz50_5, hfz50_6⟩ := bf7 BK115.out
    go_wp2_with (first | (go_at_call 34; (with_reducible refine (raft_counts.calls a0_0 false _ A34.out).mono ?_); rintro e w' ⟨rfl, ⟨nd, rfl⟩⟩; (try first | exact ⟨rfl, _, World.drewN_drewN _ _ _⟩ | exact ⟨rfl, _, Eq.trans (World.drewN_drewN _ _ _) (congrArg (World.drewN _) (Nat.add_assoc _ _ _))⟩)))
    repeat (go_quiet (first | (go_at_call 34; (with_reducible refine (raft_counts.calls a0_0 false _ A34.out).mono ?_); rintro e w' ⟨rfl, ⟨nd, rfl⟩⟩; (try first | exact ⟨rfl, _, World.drewN_drewN _ _ _⟩ | exact ⟨rfl, _, Eq.trans (World.drewN_drewN _ _ _) (congrArg (World.drewN _) (Nat.add_assoc _ _ _))⟩))); try go_wp2_with (first | (go_at_call 34; (with_reducible refine (raft_counts.calls a0_0 false _ A34.out).mono ?_); rintro e w' ⟨rfl, ⟨nd, rfl⟩⟩; (try first | exact ⟨rfl, _, World.drewN_drewN _ _ _⟩ | exact ⟨rfl, _, Eq.trans (World.drewN_drewN _ _ _) (congrArg (World.drewN _) (Nat.add_assoc _ _ _))⟩))))
    go_meet
    case rel => exact ⟨_, (true), (by first | rfl | (simp; done) | (simp [*]; done)), H', ⟨by first | omega | exact Nat.le_refl _⟩, ⟨pK BK115.out⟩, ⟨pE HB.out GE115.out⟩⟩
 case rest =>
  clear HC2
  try clear c1
  try clear c2
  try clear p2
  try clear c3
  try clear c4
  try clear c4b0
  try clear c4b1
  try clear c5
  try clear c5b0
  try clear c5b1
  try clear c6
  try clear c6b0
  try clear c6b1
  try clear c9
  try clear c18
  try clear c20
  try clear c21
  try clear c21b0
  try clear c21b1
  try clear c24
  try clear c25
  try clear c35
  try clear c37
  try clear c38
  try clear c38b0
  try clear c38b1
  try clear c41
  try clear hcz11_0
  try clear hcz11_1
  try clear hcz11_2
  try clear hcz11_3
  try clear hcz11_4
  try clear hcz11_5
  try clear hcz11_6
  try clear hcz13_0
  try clear hcz13_1
  try clear hcz13_2
  try clear hcz13_3
  try clear hcz13_4
  try clear hcz13_5
  try clear hcz13_6
  try clear hcz15_0
  try clear hcz15_1
  try clear hcz15_2
  try clear hcz15_3
  try clear hcz15_4
  try clear hcz15_5
  try clear hcz15_6
  try clear hcz22_0
  try clear hcz22_1
  try clear hcz22_2
  try clear hcz22_3
  try clear hcz22_4
  try clear hcz22_5
  try clear hcz22_6
  try clear hcz26_0
  try clear hcz26_1
  try clear hcz26_2
  try clear hcz26_3
  try clear hcz26_4
  try clear hcz26_5
  try clear hcz26_6
  try clear hcz28_0
  try clear hcz28_1
  try clear hcz28_2
  try clear hcz28_3
  try clear hcz28_4
  try clear hcz28_5
  try clear hcz28_6
  try clear hcz30_0
  try clear hcz30_1
  try clear hcz30_2
  try clear hcz30_3
  try clear hcz30_4
  try clear hcz30_5
  try clear hcz30_6
  try clear hcz32_0
  try clear hcz32_1
  try clear hcz32_2
  try clear hcz32_3
  try clear hcz32_4
  try clear hcz32_5
  try clear hcz32_6
  try clear hcz33_0
  try clear hcz33_1
  try clear hcz33_2
  try clear hcz33_3
  try clear hcz33_4
  try clear hcz33_5
  try clear hcz33_6
  try clear hcz39_0
  try clear hcz39_1
  try clear hcz39_2
  try clear hcz39_3
  try clear hcz39_4
  try clear hcz39_5
  try clear hcz39_6
  try clear hcz43_0
  try clear hcz43_1
  try clear hcz43_2
  try clear hcz43_3
  try clear hcz43_4
  try clear hcz43_5
  try clear hcz43_6
  try clear hcz45_0
  try clear hcz45_1
  try clear hcz45_2
  try clear hcz45_3
  try clear hcz45_4
  try clear hcz45_5
  try clear hcz45_6
  try clear hcz47_0
  try clear hcz47_1
  try clear hcz47_2
  try clear hcz47_3
  try clear hcz47_4
  try clear hcz47_5
  try clear hcz47_6
  try clear hcz49_0
  try clear hcz49_1
  try clear hcz49_2
  try clear hcz49_3
  try clear hcz49_4
  try clear hcz49_5
  try clear hcz49_6
  try clear hcz50_0
  try clear hcz50_1
  try clear hcz50_2
  try clear hcz50_3
  try clear hcz50_4
  try clear hcz50_5
  try clear hcz50_6
  try clear hcz7_0
  try clear hcz7_1
  try clear hcz7_2
  try clear hcz7_3
  try clear hcz7_4
  try clear hcz7_5
  try clear hcz7_6
  try clear hfz11_0
  try clear hfz11_1
  try clear hfz11_2
  try clear hfz11_3
  try clear hfz11_4
  try clear hfz11_5
  try clear hfz11_6
  try clear hfz13_0
  try clear hfz13_1
  try clear hfz13_2
  try clear hfz13_3
  try clear hfz13_4
  try clear hfz13_5
  try clear hfz13_6
  try clear hfz15_0
  try clear hfz15_1
  try clear hfz15_2
  try clear hfz15_3
  try clear hfz15_4
  try clear hfz15_5
  try clear hfz15_6
  try clear hfz22_0
  try clear hfz22_1
  try clear hfz22_2
  try clear hfz22_3
  try clear hfz22_4
  try clear hfz22_5
  try clear hfz22_6
  try clear hfz26_0
  try clear hfz26_1
  try clear hfz26_2
  try clear hfz26_3
  try clear hfz26_4
  try clear hfz26_5
  try clear hfz26_6
  try clear hfz28_0
  try clear hfz28_1
  try clear hfz28_2
  try clear hfz28_3
  try clear hfz28_4
  try clear hfz28_5
  try clear hfz28_6
  try clear hfz30_0
  try clear hfz30_1
  try clear hfz30_2
  try clear hfz30_3
  try clear hfz30_4
  try clear hfz30_5
  try clear hfz30_6
  try clear hfz32_0
  try clear hfz32_1
  try clear hfz32_2
  try clear hfz32_3
  try clear hfz32_4
  try clear hfz32_5
  try clear hfz32_6
  try clear hfz33_0
  try clear hfz33_1
  try clear hfz33_2
  try clear hfz33_3
  try clear hfz33_4
  try clear hfz33_5
  try clear hfz33_6
  try clear hfz39_0
  try clear hfz39_1
  try clear hfz39_2
  try clear hfz39_3
  try clear hfz39_4
  try clear hfz39_5
  try clear hfz39_6
  try clear hfz43_0
  try clear hfz43_1
  try clear hfz43_2
  try clear hfz43_3
  try clear hfz43_4
  try clear hfz43_5
  try clear hfz43_6
  try clear hfz45_0
  try clear hfz45_1
  try clear hfz45_2
  try clear hfz45_3
  try clear hfz45_4
  try clear hfz45_5
  try clear hfz45_6
  try clear hfz47_0
  try clear hfz47_1
  try clear hfz47_2
  try clear hfz47_3
  try clear hfz47_4
  try clear hfz47_5
  try clear hfz47_6
  try clear hfz49_0
  try clear hfz49_1
  try clear hfz49_2
  try clear hfz49_3
  try clear hfz49_4
  try clear hfz49_5
  try clear hfz49_6
  try clear hfz50_0
  try clear hfz50_1
  try clear hfz50_2
  try clear hfz50_3
  try clear hfz50_4
  try clear hfz50_5
  try clear hfz50_6
  try clear hfz7_0
  try clear hfz7_1
  try clear hfz7_2
  try clear hfz7_3
  try clear hfz7_4
  try clear hfz7_5
  try clear hfz7_6
  obtain ⟨kq, x39_1, rfl, HA, HJ1, BK115, HB⟩ := hcut
  cases kq with
  | zero => exact absurd HA.out (by simp [raft_Check.j0])
  | succ kj1 =>
   have H := HA.out
   clear HA
   simp only [raft_Check.j0] at H
   by_cases c51 : x39_1 = true
   ·subst c51
    have H1 : (some 1) = some r := by rw [if_pos rfl] at H; exact H
    clear H
    have H := H1
    clear H1
    obtain rfl := Option.some.inj H
    go_wp2
    repeat (go_quiet (fail); try go_wp2)
    go_ret
    exact ⟨pX, pE HB.out GE115.out⟩
   ·replace c51 := Bool.eq_false_iff.mpr c51
    subst c51
    have H1 : (if (l0_2.length : Int) > 0 then (if 0 < (l0_2.length : Int) then (if ((rd_T46 l0_2 0).f0) = (wrap64 (a0_0 + 1)) then (raft_Check.j1 kj1 (decide (((rd_T46 l0_2 0).f1) < a0_1)) a0_0 a0_1 l0_2 a0_3 a0_4 a0_5 a0_6) else (raft_Check.j1 kj1 true a0_0 a0_1 l0_2 a0_3 a0_4 a0_5 a0_6)) else (none)) else (raft_Check.j1 kj1 false a0_0 a0_1 l0_2 a0_3 a0_4 a0_5 a0_6)) = some r := by rw [if_neg (show ¬ (false = true) by decide)] at H; exact H
    clear H
    have H := H1
    clear H1
    have HC52 := Aside0.mk H
    clear H
    go_upto_region 3 with (fail)
    repeat (go_quiet (fail); go_upto_region 3 with (fail))
    go_cut [64] (fun v64 wc => ∃ (kq : Nat) (x64_51 : Bool), v64 = .bool x64_51 ∧ Aside0 (raft_Check.j1 kq x64_51 a0_0 a0_1 l0_2 a0_3 a0_4 a0_5 a0_6 = some r) ∧ Aside0 (kq ≤ kj1) ∧ Aside0 (wc.heap[gb115]? = some (.cells #[.int .i64 a0_0, .int .i64 a0_1, (.slice A0_2 l0_2.length c0_2), .int .i64 a0_3, .int .i64 a0_4, .int .i64 a0_5, .int .i64 a0_6] 26 (0, 0))) ∧ Aside0 (Below w.heap.size w wc))
    case first =>
     have H := HC52.out
     clear HC52
     by_cases c53 : (l0_2.length : Int) > 0
     ·rw [if_pos c53] at H
      have c53b0 : decide (0 < (l0_2.length : Int)) = true := decide_eq_true c53
      have c53b1 : decide (0 < l0_2.length) = true := decide_eq_true (by omega)
      clear c53
      (first | rw [c53b0] | (simp only [i64_w, i32_w]; rw [c53b0]) | skip)
      by_cases c54 : 0 < (l0_2.length : Int)
      ·rw [if_pos c54] at H
       have c54b0 : decide (0 < (l0_2.length : Int)) = true := decide_eq_true c54
       have c54b1 : decide (0 < l0_2.length) = true := decide_eq_true (by omega)
       clear c54
       by_cases c55 : ((rd_T46 l0_2 0).f0) = (wrap64 (a0_0 + 1))
       ·rw [if_pos c55] at H
        have c55b0 : (((rd_T46 l0_2 0).f0) == (wrap64 (a0_0 + 1))) = true := beq_iff_eq.mpr c55
        have c55b1 : (((rd_T46 l0_2 0).f0) != (wrap64 (a0_0 + 1))) = false := bne_eq_false_iff_eq.mpr c55
        clear c55
        have H' := Aside0.mk H
        clear H
        obtain ⟨hcz56_0, hcz56_1, hcz56_2, hcz56_3, hcz56_4, hcz56_5, hcz56_6⟩ := bc7 BK115.out
        obtain ⟨hfz56_0, hfz56_1, hfz56_2, hfz56_3, hfz56_4, hfz56_5, hfz56_6⟩ := bf7 BK115.out
        have p126 : 0 ≤ (0 : Int) := (by omega)
        have q126 : 0 < (l0_2.length : Int) := of_decide_eq_true pS
        obtain ⟨ad126, A126_5, c126_5, e126, hx126_0, hx126_1, hx126_2, hx126_3, hx126_4, hx126_5, hx126_6, hx126_7, hx126_8, hx126_9, hl126_5, hi126_5⟩ := at_T46 HR0_2.out 0 p126 q126
        cases e126
        have qi126 : (0 < l0_2.length) = True := eq_true (by omega)
        (try rw [tz] at hx126_0)
        (try rw [show 0 * 10 = 0 from rfl] at hx126_0)
        (try rw [Addr.add_zero'] at hx126_0)
        (try rw [tz] at hx126_1)
        (try rw [show 0 * 10 = 0 from rfl] at hx126_1)
        (try rw [Addr.add_zero'] at hx126_1)
        (try rw [tz] at hx126_2)
        (try rw [show 0 * 10 = 0 from rfl] at hx126_2)
        (try rw [Addr.add_zero'] at hx126_2)
        (try rw [tz] at hx126_3)
        (try rw [show 0 * 10 = 0 from rfl] at hx126_3)
        (try rw [Addr.add_zero'] at hx126_3)
        (try rw [tz] at hx126_4)
        (try rw [show 0 * 10 = 0 from rfl] at hx126_4)
        (try rw [Addr.add_zero'] at hx126_4)
        (try rw [tz] at hx126_5)
        (try rw [show 0 * 10 = 0 from rfl] at hx126_5)
        (try rw [Addr.add_zero'] at hx126_5)
        (try rw [tz] at hx126_6)
        (try rw [show 0 * 10 = 0 from rfl] at hx126_6)
        (try rw [Addr.add_zero'] at hx126_6)
        (try rw [tz] at hx126_7)
        (try rw [show 0 * 10 = 0 from rfl] at hx126_7)
        (try rw [Addr.add_zero'] at hx126_7)
        (try rw [tz] at hx126_8)
        (try rw [show 0 * 10 = 0 from rfl] at hx126_8)
        (try rw [Addr.add_zero'] at hx126_8)
        (try rw [tz] at hx126_9)
        (try rw [show 0 * 10 = 0 from rfl] at hx126_9)
        (try rw [Addr.add_zero'] at hx126_9)
        replace hx126_0 := cU HB.out hx126_0
        replace hx126_1 := cU HB.out hx126_1
        replace hx126_2 := cU HB.out hx126_2
        replace hx126_3 := cU HB.out hx126_3
        replace hx126_4 := cU HB.out hx126_4
        replace hx126_5 := cU HB.out hx126_5
        replace hx126_6 := cU HB.out hx126_6
        replace hx126_7 := cU HB.out hx126_7
        replace hx126_8 := cU HB.out hx126_8
        replace hx126_9 := cU HB.out hx126_9
        have HR126_5 := Aside0.mk hi126_5
        have HC126_5 := Aside0.mk hl126_5
        clear hi126_5 hl126_5
        replace p126 := eq_true p126
        replace q126 := eq_true q126
        have p127 : 0 ≤ (0 : Int) := (by omega)
        have q127 : 0 < (l0_2.length : Int) := of_decide_eq_true pS
        obtain ⟨ad127, A127_5, c127_5, e127, hx127_0, hx127_1, hx127_2, hx127_3, hx127_4, hx127_5, hx127_6, hx127_7, hx127_8, hx127_9, hl127_5, hi127_5⟩ := at_T46 HR0_2.out 0 p127 q127
        obtain rfl : ad126 = ad127 := (by injection e127)
        have qi127 : (0 < l0_2.length) = True := eq_true (by omega)
        (try rw [tz] at hx127_0)
        (try rw [show 0 * 10 = 0 from rfl] at hx127_0)
        (try rw [Addr.add_zero'] at hx127_0)
        (try rw [tz] at hx127_1)
        (try rw [show 0 * 10 = 0 from rfl] at hx127_1)
        (try rw [Addr.add_zero'] at hx127_1)
        (try rw [tz] at hx127_2)
        (try rw [show 0 * 10 = 0 from rfl] at hx127_2)
        (try rw [Addr.add_zero'] at hx127_2)
        (try rw [tz] at hx127_3)
        (try rw [show 0 * 10 = 0 from rfl] at hx127_3)
        (try rw [Addr.add_zero'] at hx127_3)
        (try rw [tz] at hx127_4)
        (try rw [show 0 * 10 = 0 from rfl] at hx127_4)
        (try rw [Addr.add_zero'] at hx127_4)
        (try rw [tz] at hx127_5)
        (try rw [show 0 * 10 = 0 from rfl] at hx127_5)
        (try rw [Addr.add_zero'] at hx127_5)
        (try rw [tz] at hx127_6)
        (try rw [show 0 * 10 = 0 from rfl] at hx127_6)
        (try rw [Addr.add_zero'] at hx127_6)
        (try rw [tz] at hx127_7)
        (try rw [show 0 * 10 = 0 from rfl] at hx127_7)
        (try rw [Addr.add_zero'] at hx127_7)
        (try rw [tz] at hx127_8)
        (try rw [show 0 * 10 = 0 from rfl] at hx127_8)
        (try rw [Addr.add_zero'] at hx127_8)
        (try rw [tz] at hx127_9)
        (try rw [show 0 * 10 = 0 from rfl] at hx127_9)
        (try rw [Addr.add_zero'] at hx127_9)
        replace hx127_0 := cU HB.out hx127_0
        replace hx127_1 := cU HB.out hx127_1
        replace hx127_2 := cU HB.out hx127_2
        replace hx127_3 := cU HB.out hx127_3
        replace hx127_4 := cU HB.out hx127_4
        replace hx127_5 := cU HB.out hx127_5
        replace hx127_6 := cU HB.out hx127_6
        replace hx127_7 := cU HB.out hx127_7
        replace hx127_8 := cU HB.out hx127_8
        replace hx127_9 := cU HB.out hx127_9
        have HR127_5 := Aside0.mk hi127_5
        have HC127_5 := Aside0.mk hl127_5
        clear hi127_5 hl127_5
        replace p127 := eq_true p127
        replace q127 := eq_true q127
        have ea_ := Option.some.inj (hx126_5.symm.trans hx127_5)
        injection ea_ with ea_ en_ ec_
        subst ea_
        subst ec_
        clear en_
        go_wp2
        repeat (go_quiet (fail); try go_wp2)
        go_meet
        case rel => exact ⟨_, (decide (((rd_T46 l0_2 0).f1) < a0_1)), (by first | rfl | (simp; done) | (simp [*]; done)), H', ⟨by have := HJ1.out; first | omega | exact Nat.le_refl _⟩, ⟨pK BK115.out⟩, ⟨pE HB.out GE115.out⟩⟩
       ·rw [if_neg c55] at H
        have c55b0 : (((rd_T46 l0_2 0).f0) == (wrap64 (a0_0 + 1))) = false := beq_eq_false_iff_ne.mpr c55
        have c55b1 : (((rd_T46 l0_2 0).f0) != (wrap64 (a0_0 + 1))) = true := bne_iff_ne.mpr c55
        have H' := Aside0.mk H
        clear H
        obtain ⟨hcz57_0, hcz57_1, hcz57_2, hcz57_3, hcz57_4, hcz57_5, hcz57_6⟩ := bc7 BK115.out
        obtain ⟨hfz57_0, hfz57_1, hfz57_2, hfz57_3, hfz57_4, hfz57_5, hfz57_6⟩ := bf7 BK115.out
        have p126 : 0 ≤ (0 : Int) := (by omega)
        have q126 : 0 < (l0_2.length : Int) := of_decide_eq_true pS
        obtain ⟨ad126, A126_5, c126_5, e126, hx126_0, hx126_1, hx126_2, hx126_3, hx126_4, hx126_5, hx126_6, hx126_7, hx126_8, hx126_9, hl126_5, hi126_5⟩ := at_T46 HR0_2.out 0 p126 q126
        cases e126
        have qi126 : (0 < l0_2.length) = True := eq_true (by omega)
        (try rw [tz] at hx126_0)
        (try rw [show 0 * 10 = 0 from rfl] at hx126_0)
        (try rw [Addr.add_zero'] at hx126_0)
        (try rw [tz] at hx126_1)
        (try rw [show 0 * 10 = 0 from rfl] at hx126_1)
        (try rw [Addr.add_zero'] at hx126_1)
        (try rw [tz] at hx126_2)
        (try rw [show 0 * 10 = 0 from rfl] at hx126_2)
        (try rw [Addr.add_zero'] at hx126_2)
        (try rw [tz] at hx126_3)
        (try rw [show 0 * 10 = 0 from rfl] at hx126_3)
        (try rw [Addr.add_zero'] at hx126_3)
        (try rw [tz] at hx126_4)
        (try rw [show 0 * 10 = 0 from rfl] at hx126_4)
        (try rw [Addr.add_zero'] at hx126_4)
        (try rw [tz] at hx126_5)
        (try rw [show 0 * 10 = 0 from rfl] at hx126_5)
        (try rw [Addr.add_zero'] at hx126_5)
        (try rw [tz] at hx126_6)
        (try rw [show 0 * 10 = 0 from rfl] at hx126_6)
        (try rw [Addr.add_zero'] at hx126_6)
        (try rw [tz] at hx126_7)
        (try rw [show 0 * 10 = 0 from rfl] at hx126_7)
        (try rw [Addr.add_zero'] at hx126_7)
        (try rw [tz] at hx126_8)
        (try rw [show 0 * 10 = 0 from rfl] at hx126_8)
        (try rw [Addr.add_zero'] at hx126_8)
        (try rw [tz] at hx126_9)
        (try rw [show 0 * 10 = 0 from rfl] at hx126_9)
        (try rw [Addr.add_zero'] at hx126_9)
        replace hx126_0 := cU HB.out hx126_0
        replace hx126_1 := cU HB.out hx126_1
        replace hx126_2 := cU HB.out hx126_2
        replace hx126_3 := cU HB.out hx126_3
        replace hx126_4 := cU HB.out hx126_4
        replace hx126_5 := cU HB.out hx126_5
        replace hx126_6 := cU HB.out hx126_6
        replace hx126_7 := cU HB.out hx126_7
        replace hx126_8 := cU HB.out hx126_8
        replace hx126_9 := cU HB.out hx126_9
        have HR126_5 := Aside0.mk hi126_5
        have HC126_5 := Aside0.mk hl126_5
        clear hi126_5 hl126_5
        replace p126 := eq_true p126
        replace q126 := eq_true q126
        go_wp2
        repeat (go_quiet (fail); try go_wp2)
        go_meet
        case rel => exact ⟨_, (true), (by first | rfl | (simp; done) | (simp [*]; done)), H', ⟨by have := HJ1.out; first | omega | exact Nat.le_refl _⟩, ⟨pK BK115.out⟩, ⟨pE HB.out GE115.out⟩⟩
      ·rw [if_neg c54] at H
       exact absurd H (by simp)
     ·rw [if_neg c53] at H
      have c53b0 : decide (0 < (l0_2.length : Int)) = false := decide_eq_false c53
      have c53b1 : decide (0 < l0_2.length) = false := decide_eq_false (by omega)
      clear c53
      (first | rw [c53b0] | (simp only [i64_w, i32_w]; rw [c53b0]) | skip)
      have H' := Aside0.mk H
      clear H
      obtain ⟨hcz58_0, hcz58_1, hcz58_2, hcz58_3, hcz58_4, hcz58_5, hcz58_6⟩ := bc7 BK115.out
      obtain ⟨hfz58_0, hfz58_1, hfz58_2, hfz58_3, hfz58_4, hfz58_5, hfz58_6⟩ := bf7 BK115.out
      go_wp2
      repeat (go_quiet (fail); try go_wp2)
      go_meet
      case rel => exact ⟨_, (false), (by first | rfl | (simp; done) | (simp [*]; done)), H', ⟨by have := HJ1.out; first | omega | exact Nat.le_refl _⟩, ⟨pK BK115.out⟩, ⟨pE HB.out GE115.out⟩⟩
    case rest =>
     clear HC52
     try clear c1
     try clear p1
     try clear q1
     try clear hx1
     try clear qi1
     try clear c2
     try clear p2
     try clear c3
     try clear c4
     try clear c4b0
     try clear c4b1
     try clear c5
     try clear c5b0
     try clear c5b1
     try clear c6
     try clear c6b0
     try clear c6b1
     try clear p6
     try clear c9
     try clear c12
     try clear p12
     try clear q12
     try clear hx12
     try clear qi12
     try clear c18
     try clear c20
     try clear c21
     try clear c21b0
     try clear c21b1
     try clear c24
     try clear c25
     try clear c35
     try clear c37
     try clear c38
     try clear c38b0
     try clear c38b1
     try clear c41
     try clear c51
     try clear c53
     try clear c53b0
     try clear c53b1
     try clear c54
     try clear c54b0
     try clear c54b1
     try clear c55
     try clear c55b0
     try clear c55b1
     try clear hcz11_0
     try clear hcz11_1
     try clear hcz11_2
     try clear hcz11_3
     try clear hcz11_4
     try clear hcz11_5
     try clear hcz11_6
     try clear hcz13_0
     try clear hcz13_1
     try clear hcz13_2
     try clear hcz13_3
     try clear hcz13_4
     try clear hcz13_5
     try clear hcz13_6
     try clear hcz15_0
     try clear hcz15_1
     try clear hcz15_2
     try clear hcz15_3
     try clear hcz15_4
     try clear hcz15_5
     try clear hcz15_6
     try clear hcz22_0
     try clear hcz22_1
     try clear hcz22_2
     try clear hcz22_3
     try clear hcz22_4
     try clear hcz22_5
     try clear hcz22_6
     try clear hcz26_0
     try clear hcz26_1
     try clear hcz26_2
     try clear hcz26_3
     try clear hcz26_4
     try clear hcz26_5
     try clear hcz26_6
     try clear hcz28_0
     try clear hcz28_1
     try clear hcz28_2
     try clear hcz28_3
     try clear hcz28_4
     try clear hcz28_5
     try clear hcz28_6
     try clear hcz30_0
     try clear hcz30_1
     try clear hcz30_2
     try clear hcz30_3
     try clear hcz30_4
     try clear hcz30_5
     try clear hcz30_6
     try clear hcz32_0
     try clear hcz32_1
     try clear hcz32_2
     try clear hcz32_3
     try clear hcz32_4
     try clear hcz32_5
     try clear hcz32_6
     try clear hcz33_0
     try clear hcz33_1
     try clear hcz33_2
     try clear hcz33_3
     try clear hcz33_4
     try clear hcz33_5
     try clear hcz33_6
     try clear hcz39_0
     try clear hcz39_1
     try clear hcz39_2
     try clear hcz39_3
     try clear hcz39_4
     try clear hcz39_5
     try clear hcz39_6
     try clear hcz43_0
     try clear hcz43_1
     try clear hcz43_2
     try clear hcz43_3
     try clear hcz43_4
     try clear hcz43_5
     try clear hcz43_6
     try clear hcz45_0
     try clear hcz45_1
     try clear hcz45_2
     try clear hcz45_3
     try clear hcz45_4
     try clear hcz45_5
     try clear hcz45_6
     try clear hcz47_0
     try clear hcz47_1
     try clear hcz47_2
     try clear hcz47_3
     try clear hcz47_4
     try clear hcz47_5
     try clear hcz47_6
     try clear hcz49_0
     try clear hcz49_1
     try clear hcz49_2
     try clear hcz49_3
     try clear hcz49_4
     try clear hcz49_5
     try clear hcz49_6
     try clear hcz50_0
     try clear hcz50_1
     try clear hcz50_2
     try clear hcz50_3
     try clear hcz50_4
     try clear hcz50_5
     try clear hcz50_6
     try clear hcz56_0
     try clear hcz56_1
     try clear hcz56_2
     try clear hcz56_3
     try clear hcz56_4
     try clear hcz56_5
     try clear hcz56_6
     try clear hcz57_0
     try clear hcz57_1
     try clear hcz57_2
     try clear hcz57_3
     try clear hcz57_4
     try clear hcz57_5
     try clear hcz57_6
     try clear hcz58_0
     try clear hcz58_1
     try clear hcz58_2
     try clear hcz58_3
     try clear hcz58_4
     try clear hcz58_5
     try clear hcz58_6
     try clear hcz7_0
     try clear hcz7_1
     try clear hcz7_2
     try clear hcz7_3
     try clear hcz7_4
     try clear hcz7_5
     try clear hcz7_6
     try clear hfz11_0
     try clear hfz11_1
     try clear hfz11_2
     try clear hfz11_3
     try clear hfz11_4
     try clear hfz11_5
     try clear hfz11_6
     try clear hfz13_0
     try clear hfz13_1
     try clear hfz13_2
     try clear hfz13_3
     try clear hfz13_4
     try clear hfz13_5
     try clear hfz13_6
     try clear hfz15_0
     try clear hfz15_1
     try clear hfz15_2
     try clear hfz15_3
     try clear hfz15_4
     try clear hfz15_5
     try clear hfz15_6
     try clear hfz22_0
     try clear hfz22_1
     try clear hfz22_2
     try clear hfz22_3
     try clear hfz22_4
     try clear hfz22_5
     try clear hfz22_6
     try clear hfz26_0
     try clear hfz26_1
     try clear hfz26_2
     try clear hfz26_3
     try clear hfz26_4
     try clear hfz26_5
     try clear hfz26_6
     try clear hfz28_0
     try clear hfz28_1
     try clear hfz28_2
     try clear hfz28_3
     try clear hfz28_4
     try clear hfz28_5
     try clear hfz28_6
     try clear hfz30_0
     try clear hfz30_1
     try clear hfz30_2
     try clear hfz30_3
     try clear hfz30_4
     try clear hfz30_5
     try clear hfz30_6
     try clear hfz32_0
     try clear hfz32_1
     try clear hfz32_2
     try clear hfz32_3
     try clear hfz32_4
     try clear hfz32_5
     try clear hfz32_6
     try clear hfz33_0
     try clear hfz33_1
     try clear hfz33_2
     try clear hfz33_3
     try clear hfz33_4
     try clear hfz33_5
     try clear hfz33_6
     try clear hfz39_0
     try clear hfz39_1
     try clear hfz39_2
     try clear hfz39_3
     try clear hfz39_4
     try clear hfz39_5
     try clear hfz39_6
     try clear hfz43_0
     try clear hfz43_1
     try clear hfz43_2
     try clear hfz43_3
     try clear hfz43_4
     try clear hfz43_5
     try clear hfz43_6
     try clear hfz45_0
     try clear hfz45_1
     try clear hfz45_2
     try clear hfz45_3
     try clear hfz45_4
     try clear hfz45_5
     try clear hfz45_6
     try clear hfz47_0
     try clear hfz47_1
     try clear hfz47_2
     try clear hfz47_3
     try clear hfz47_4
     try clear hfz47_5
     try clear hfz47_6
     try clear hfz49_0
     try clear hfz49_1
     try clear hfz49_2
     try clear hfz49_3
     try clear hfz49_4
     try clear hfz49_5
     try clear hfz49_6
     try clear hfz50_0
     try clear hfz50_1
     try clear hfz50_2
     try clear hfz50_3
     try clear hfz50_4
     try clear hfz50_5
     try clear hfz50_6
     try clear hfz56_0
     try clear hfz56_1
     try clear hfz56_2
     try clear hfz56_3
     try clear hfz56_4
     try clear hfz56_5
     try clear hfz56_6
     try clear hfz57_0
     try clear hfz57_1
     try clear hfz57_2
     try clear hfz57_3
     try clear hfz57_4
     try clear hfz57_5
     try clear hfz57_6
     try clear hfz58_0
     try clear hfz58_1
     try clear hfz58_2
     try clear hfz58_3
     try clear hfz58_4
     try clear hfz58_5
     try clear hfz58_6
     try clear hfz7_0
     try clear hfz7_1
     try clear hfz7_2
     try clear hfz7_3
     try clear hfz7_4
     try clear hfz7_5
     try clear hfz7_6
     try clear hx126_0
     try clear hx126_1
     try clear hx126_2
     try clear hx126_3
     try clear hx126_4
     try clear hx126_5
     try clear hx126_6
     try clear hx126_7
     try clear hx126_8
     try clear hx126_9
     try clear hx127_0
     try clear hx127_1
     try clear hx127_2
     try clear hx127_3
     try clear hx127_4
     try clear hx127_5
     try clear hx127_6
     try clear hx127_7
     try clear hx127_8
     try clear hx127_9
     try clear p126
     try clear p127
     try clear p2
     try clear q126
     try clear q127
     obtain ⟨kq, x64_51, rfl, HA, HJ51, BK115, HB⟩ := hcut
     cases kq with
     | zero => exact absurd HA.out (by simp [raft_Check.j1])
     | succ kj51 =>
      have H := HA.out
      clear HA
      simp only [raft_Check.j1] at H
      by_cases c59 : x64_51 = true
      ·subst c59
       have H1 : (some 1) = some r := by rw [if_pos rfl] at H; exact H
       clear H
       have H := H1
       clear H1
       obtain rfl := Option.some.inj H
       go_wp2
       repeat (go_quiet (fail); try go_wp2)
       go_ret
       exact ⟨pX, pE HB.out GE115.out⟩
      ·replace c59 := Bool.eq_false_iff.mpr c59
       subst c59
       have H1 : (if a0_6 < a0_0 then (some 1) else (if a0_6 > a0_5 then (some 1) else (if a0_5 > (wrap64 (a0_0 + (l0_2.length : Int))) then (some 1) else (some 0)))) = some r := by rw [if_neg (show ¬ (false = true) by decide)] at H; exact H
       clear H
       have H := H1
       clear H1
       by_cases c60 : a0_6 < a0_0
       ·rw [if_pos c60] at H
        have c60b0 : decide (a0_6 < a0_0) = true := decide_eq_true c60
        clear c60
        obtain rfl := Option.some.inj H
        obtain ⟨hcz61_0, hcz61_1, hcz61_2, hcz61_3, hcz61_4, hcz61_5, hcz61_6⟩ := bc7 BK115.out
        obtain ⟨hfz61_0, hfz61_1, hfz61_2, hfz61_3, hfz61_4, hfz61_5, hfz61_6⟩ := bf7 BK115.out
        go_wp2
        repeat (go_quiet (fail); try go_wp2)
        go_ret
        exact ⟨pX, pE HB.out GE115.out⟩
       ·rw [if_neg c60] at H
        have c60b0 : decide (a0_6 < a0_0) = false := decide_eq_false c60
        clear c60
        by_cases c62 : a0_6 > a0_5
        ·rw [if_pos c62] at H
         have c62b0 : decide (a0_5 < a0_6) = true := decide_eq_true c62
         clear c62
         obtain rfl := Option.some.inj H
         obtain ⟨hcz63_0, hcz63_1, hcz63_2, hcz63_3, hcz63_4, hcz63_5, hcz63_6⟩ := bc7 BK115.out
         obtain ⟨hfz63_0, hfz63_1, hfz63_2, hfz63_3, hfz63_4, hfz63_5, hfz63_6⟩ := bf7 BK115.out
         go_wp2
         repeat (go_quiet (fail); try go_wp2)
         go_ret
         exact ⟨pX, pE HB.out GE115.out⟩
        ·rw [if_neg c62] at H
         have c62b0 : decide (a0_5 < a0_6) = false := decide_eq_false c62
         clear c62
         by_cases c64 : a0_5 > (wrap64 (a0_0 + (l0_2.length : Int)))
         ·rw [if_pos c64] at H
          have c64b0 : decide ((wrap64 (a0_0 + (l0_2.length : Int))) < a0_5) = true := decide_eq_true c64
          clear c64
          obtain rfl := Option.some.inj H
          obtain ⟨hcz65_0, hcz65_1, hcz65_2, hcz65_3, hcz65_4, hcz65_5, hcz65_6⟩ := bc7 BK115.out
          obtain ⟨hfz65_0, hfz65_1, hfz65_2, hfz65_3, hfz65_4, hfz65_5, hfz65_6⟩ := bf7 BK115.out
          go_wp2
          repeat (go_quiet (fail); try go_wp2)
          go_ret
          exact ⟨pX, pE HB.out GE115.out⟩
         ·rw [if_neg c64] at H
          have c64b0 : decide ((wrap64 (a0_0 + (l0_2.length : Int))) < a0_5) = false := decide_eq_false c64
          clear c64
          obtain rfl := Option.some.inj H
          obtain ⟨hcz66_0, hcz66_1, hcz66_2, hcz66_3, hcz66_4, hcz66_5, hcz66_6⟩ := bc7 BK115.out
          obtain ⟨hfz66_0, hfz66_1, hfz66_2, hfz66_3, hfz66_4, hfz66_5, hfz66_6⟩ := bf7 BK115.out
          go_wp2
          repeat (go_quiet (fail); try go_wp2)
          go_ret
          exact ⟨pX, pE HB.out GE115.out⟩
end Go.Proofs.Ytinldhpdfomcjaa.PRaftParts
