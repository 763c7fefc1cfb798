/- What the law reaches, as plain Lean functions, and that the machine's calls answer just that. -/
import Derived.Test.YtinldhpdfomcjaaPRaftPartsx0
import Derived.Test.YtinldhpdfomcjaaPRaftPartsx3
import Derived.Test.YtinldhpdfomcjaaPRaftPartsx8
import Derived.Test.YtinldhpdfomcjaaPRaftPartsx9
import Derived.Test.YtinldhpdfomcjaaPRaftPartsx12
namespace Go.Proofs.Ytinldhpdfomcjaa.PRaftParts
open Go.RowKit Go.Proofs.YtinldhpdfomcjaaW.PrintWords Go.Proofs.YtinldhpdfomcjaaW.PrintLast Go.Proofs.YtinldhpdfomcjaaW.PrintMore
attribute [local go_sem] max2_int min2_int max_two min_two max_three min_three max_four min_four
set_option linter.unusedVariables false
set_option linter.unusedSimpArgs false
attribute [local go_sem] wrap64_l1 wrap64_l2 wrap64_l3 wrap64_l4 wrap64_l5
theorem kX1a {w0 : World} {g : Nat} {o : Obj} {Q : Prop} {N0 : Prop} (h : w0.heap[g]? = some o) (n0 : N0) (e : w0.heap[g]? = some o → N0 → Q := by intro h_ n0_; (with_reducible repeat (first | exact h_ | refine blk_drewN ?_ _ | refine blk_drew ?_ | refine blk_alloc ?_ _ | apply bp3 | apply bp6 | apply bp7 | apply bp10 | apply blk_far (hp := n0_))); first | done | exact h_) : Q := e h n0
mutual
def garnerlaw23_RaftParts.j0 : Nat → List (S46) → Int → Bool → Int → Int → List (S46) → Int → Int → Int → Int → Option (Bool)
 | 0, _, _, _, _, _, _, _, _, _, _ => none
 | k + 1, x1, x2, x26, x249000, x249001, x249002, x249003, x249004, x249005, x249006 => if x26 = true then ((garnerlaw23_awake.f k).bind fun t251 => (some t251)) else (if (wrap64 ((x1.length : Int) - 1)) = 0 then (none) else ((raft_Put.f k x249000 x249001 x249002 x249003 x249004 x249005 x249006 x1).bind fun bt252 => (if 0 ≤ (wrap64 (1 + (Int.tmod (wrap64 (x2)) (wrap64 ((x1.length : Int) - 1))))) then (if (wrap64 (1 + (Int.tmod (wrap64 (x2)) (wrap64 ((x1.length : Int) - 1))))) ≤ (x1.length : Int) then ((raft_Put.f k x249000 x249001 x249002 x249003 x249004 x249005 x249006 (x1.take ((wrap64 (1 + (Int.tmod (wrap64 (x2)) (wrap64 ((x1.length : Int) - 1))))) : Int).toNat)).bind fun bt267 => (if bt252.2.2.2.2.2.2.2 = 0 then (garnerlaw23_RaftParts.j1 k x1 (wrap64 (1 + (Int.tmod (wrap64 (x2)) (wrap64 ((x1.length : Int) - 1))))) (bt267.2.2.2.2.2.2.2 != 0) bt252.1 bt252.2.1 bt252.2.2.1 bt252.2.2.2.1 bt252.2.2.2.2.1 bt252.2.2.2.2.2.1 bt252.2.2.2.2.2.2.1 bt267.1 bt267.2.1 bt267.2.2.1 bt267.2.2.2.1 bt267.2.2.2.2.1 bt267.2.2.2.2.2.1 bt267.2.2.2.2.2.2.1) else (garnerlaw23_RaftParts.j1 k x1 (wrap64 (1 + (Int.tmod (wrap64 (x2)) (wrap64 ((x1.length : Int) - 1))))) true bt252.1 bt252.2.1 bt252.2.2.1 bt252.2.2.2.1 bt252.2.2.2.2.1 bt252.2.2.2.2.2.1 bt252.2.2.2.2.2.2.1 bt267.1 bt267.2.1 bt267.2.2.1 bt267.2.2.2.1 bt267.2.2.2.2.1 bt267.2.2.2.2.2.1 bt267.2.2.2.2.2.2.1))) else (none)) else (none))))
def garnerlaw23_RaftParts.j1 : Nat → List (S46) → Int → Bool → Int → Int → List (S46) → Int → Int → Int → Int → Int → Int → List (S46) → Int → Int → Int → Int → Option (Bool)
 | 0, _, _, _, _, _, _, _, _, _, _, _, _, _, _, _, _, _ => none
 | k + 1, x1, x7, x54, x263000, x263001, x263002, x263003, x263004, x263005, x263006, x278000, x278001, x278002, x278003, x278004, x278005, x278006 => if x54 = true then ((garnerlaw23_awake.f k).bind fun t278 => (some t278)) else (if 0 ≤ x7 then (if x7 ≤ (x1.length : Int) then ((raft_Put.f k x278000 x278001 x278002 x278003 x278004 x278005 x278006 (x1.drop (x7 : Int).toNat)).bind fun bt283 => (if bt283.2.2.2.2.2.2.2 = 0 then ((garnerref23_Same.f k bt283.1 bt283.2.1 bt283.2.2.1 bt283.2.2.2.1 bt283.2.2.2.2.1 bt283.2.2.2.2.2.1 bt283.2.2.2.2.2.2.1 x263000 x263001 x263002 x263003 x263004 x263005 x263006).bind fun t294 => (if t294 = true then ((garnerlaw23_awake.f k).bind fun t295 => (some t295)) else (some false))) else (some false))) else (none)) else (none))
end
def garnerlaw23_RaftParts.f (k : Nat) (a0_0 : Int) (a0_1 : Int) (l0_2 : List (S46)) (a0_3 : Int) (a0_4 : Int) (a0_5 : Int) (a0_6 : Int) (l1 : List (S46)) (a2 : Int) : Option (Bool) := (garnerlaw23_Light.f k a0_0 a0_1 l0_2 a0_3 a0_4 a0_5 a0_6).bind fun t249 => (if t249 = true then ((garnerlaw06_Light.f k l1).bind fun t250 => (if t250 = true then (garnerlaw23_RaftParts.j0 k l1 a2 (decide ((l1.length : Int) < 2)) a0_0 a0_1 l0_2 a0_3 a0_4 a0_5 a0_6) else (garnerlaw23_RaftParts.j0 k l1 a2 true a0_0 a0_1 l0_2 a0_3 a0_4 a0_5 a0_6))) else (garnerlaw23_RaftParts.j0 k l1 a2 true a0_0 a0_1 l0_2 a0_3 a0_4 a0_5 a0_6))
theorem garnerlaw23_RaftParts.mono_l : ∀ k, (∀ y0 y1 y2 y3 y4 y5 y6 y7 y8 y9, LeO (garnerlaw23_RaftParts.j0 k y0 y1 y2 y3 y4 y5 y6 y7 y8 y9) (garnerlaw23_RaftParts.j0 (k + 1) y0 y1 y2 y3 y4 y5 y6 y7 y8 y9)) ∧ (∀ y0 y1 y2 y3 y4 y5 y6 y7 y8 y9 y10 y11 y12 y13 y14 y15 y16, LeO (garnerlaw23_RaftParts.j1 k y0 y1 y2 y3 y4 y5 y6 y7 y8 y9 y10 y11 y12 y13 y14 y15 y16) (garnerlaw23_RaftParts.j1 (k + 1) y0 y1 y2 y3 y4 y5 y6 y7 y8 y9 y10 y11 y12 y13 y14 y15 y16))
 | 0 => ⟨fun _ _ _ _ _ _ _ _ _ _ r h => by simp [garnerlaw23_RaftParts.j0] at h, fun _ _ _ _ _ _ _ _ _ _ _ _ _ _ _ _ _ r h => by simp [garnerlaw23_RaftParts.j1] at h⟩
 | k + 1 => by
  obtain ⟨ih0, ih1⟩ := garnerlaw23_RaftParts.mono_l k
  refine ⟨?_, ?_⟩
  ·intro y0 y1 y2 y3 y4 y5 y6 y7 y8 y9
   unfold garnerlaw23_RaftParts.j0
   repeat' first
   | (with_reducible exact ih0 _ _ _ _ _ _ _ _ _ _)
   | (with_reducible exact ih1 _ _ _ _ _ _ _ _ _ _ _ _ _ _ _ _ _)
   | (with_reducible exact garnerlaw06_Light.mono _ _)
   | (with_reducible exact garnerlaw23_Light.mono _ _ _ _ _ _ _ _)
   | (with_reducible exact garnerlaw23_awake.mono _)
   | (with_reducible exact garnerref23_Same.mono _ _ _ _ _ _ _ _ _ _ _ _ _ _ _)
   | (with_reducible exact raft_Put.mono _ _ _ _ _ _ _ _ _)
   | (with_reducible exact LeO.refl _)
   | (with_reducible exact LeO.none _)
   | (with_reducible refine LeO.ite ?_ ?_)
   | (with_reducible refine LeO.bind ?_ (fun _ => ?_))
   | exact ih0 _ _ _ _ _ _ _ _ _ _
   | exact ih1 _ _ _ _ _ _ _ _ _ _ _ _ _ _ _ _ _
   | exact garnerlaw06_Light.mono _ _
   | exact garnerlaw23_Light.mono _ _ _ _ _ _ _ _
   | exact garnerlaw23_awake.mono _
   | exact garnerref23_Same.mono _ _ _ _ _ _ _ _ _ _ _ _ _ _ _
   | exact raft_Put.mono _ _ _ _ _ _ _ _ _
   | exact LeO.none _
   | refine LeO.ite ?_ ?_
   | refine LeO.bind ?_ (fun _ => ?_)
  ·intro y0 y1 y2 y3 y4 y5 y6 y7 y8 y9 y10 y11 y12 y13 y14 y15 y16
   unfold garnerlaw23_RaftParts.j1
   repeat' first
   | (with_reducible exact ih0 _ _ _ _ _ _ _ _ _ _)
   | (with_reducible exact ih1 _ _ _ _ _ _ _ _ _ _ _ _ _ _ _ _ _)
   | (with_reducible exact garnerlaw06_Light.mono _ _)
   | (with_reducible exact garnerlaw23_Light.mono _ _ _ _ _ _ _ _)
   | (with_reducible exact garnerlaw23_awake.mono _)
   | (with_reducible exact garnerref23_Same.mono _ _ _ _ _ _ _ _ _ _ _ _ _ _ _)
   | (with_reducible exact raft_Put.mono _ _ _ _ _ _ _ _ _)
   | (with_reducible exact LeO.refl _)
   | (with_reducible exact LeO.none _)
   | (with_reducible refine LeO.ite ?_ ?_)
   | (with_reducible refine LeO.bind ?_ (fun _ => ?_))
   | exact ih0 _ _ _ _ _ _ _ _ _ _
   | exact ih1 _ _ _ _ _ _ _ _ _ _ _ _ _ _ _ _ _
   | exact garnerlaw06_Light.mono _ _
   | exact garnerlaw23_Light.mono _ _ _ _ _ _ _ _
   | exact garnerlaw23_awake.mono _
   | exact garnerref23_Same.mono _ _ _ _ _ _ _ _ _ _ _ _ _ _ _
   | exact raft_Put.mono _ _ _ _ _ _ _ _ _
   | exact LeO.none _
   | refine LeO.ite ?_ ?_
   | refine LeO.bind ?_ (fun _ => ?_)
theorem garnerlaw23_RaftParts.mono : ∀ a0 a1 a2 a3 a4 a5 a6 a7 a8 k, LeO (garnerlaw23_RaftParts.f k a0 a1 a2 a3 a4 a5 a6 a7 a8) (garnerlaw23_RaftParts.f (k + 1) a0 a1 a2 a3 a4 a5 a6 a7 a8) := by
 intro a0 a1 a2 a3 a4 a5 a6 a7 a8 k
 obtain ⟨ih0, ih1⟩ := garnerlaw23_RaftParts.mono_l k
 unfold garnerlaw23_RaftParts.f
 repeat' first
   | (with_reducible exact ih0 _ _ _ _ _ _ _ _ _ _)
   | (with_reducible exact ih1 _ _ _ _ _ _ _ _ _ _ _ _ _ _ _ _ _)
   | (with_reducible exact garnerlaw06_Light.mono _ _)
   | (with_reducible exact garnerlaw23_Light.mono _ _ _ _ _ _ _ _)
   | (with_reducible exact garnerlaw23_awake.mono _)
   | (with_reducible exact garnerref23_Same.mono _ _ _ _ _ _ _ _ _ _ _ _ _ _ _)
   | (with_reducible exact raft_Put.mono _ _ _ _ _ _ _ _ _)
   | (with_reducible exact LeO.refl _)
   | (with_reducible exact LeO.none _)
   | (with_reducible refine LeO.ite ?_ ?_)
   | (with_reducible refine LeO.bind ?_ (fun _ => ?_))
   | exact ih0 _ _ _ _ _ _ _ _ _ _
   | exact ih1 _ _ _ _ _ _ _ _ _ _ _ _ _ _ _ _ _
   | exact garnerlaw06_Light.mono _ _
   | exact garnerlaw23_Light.mono _ _ _ _ _ _ _ _
   | exact garnerlaw23_awake.mono _
   | exact garnerref23_Same.mono _ _ _ _ _ _ _ _ _ _ _ _ _ _ _
   | exact raft_Put.mono _ _ _ _ _ _ _ _ _
   | exact LeO.none _
   | refine LeO.ite ?_ ?_
   | refine LeO.bind ?_ (fun _ => ?_)
def garnerlaw23_RaftParts.T5 : Bool × List (List Nat × List Nat) := (true, [([], []), ([], []), ([], []), ([1, 2], [1, 2]), ([0, 3], [0, 3]), ([4], [4]), ([5], [5]), ([5], [5]), ([], []), ([8, 6, 4, 0, 1, 2, 3, 4, 5, 6, 8], [6, 8]), ([7, 9, 0, 1, 2, 3, 4, 5, 6, 7, 8, 9], [7])])
def garnerlaw23_RaftParts.B5 : List Nat := [0, 0, 0, 6, 15, 31, 63, 63, 0, 383, 1023]
theorem garnerlaw23_RaftParts.tab5 : rtab .any (opsOf Try.f3 5) = garnerlaw23_RaftParts.T5 := by kernel_rfl
theorem garnerlaw23_RaftParts.bits5 : waitsOk garnerlaw23_RaftParts.T5.2 garnerlaw23_RaftParts.B5 = true := by kernel_rfl
def garnerlaw23_RaftParts.T8 : Bool × List (List Nat × List Nat) := (true, [([], []), ([], []), ([], []), ([1, 2], [1, 2]), ([0, 3], [0, 3]), ([4], [4]), ([5], [5]), ([5], [5]), ([], []), ([8, 6, 4, 0, 1, 2, 3, 4, 5, 6, 8], [6, 8]), ([7, 9, 0, 1, 2, 3, 4, 5, 6, 7, 8, 9], [7])])
def garnerlaw23_RaftParts.B8 : List Nat := [0, 0, 0, 6, 15, 31, 63, 63, 0, 383, 1023]
theorem garnerlaw23_RaftParts.tab8 : rtab .any (opsOf Try.f3 8) = garnerlaw23_RaftParts.T8 := by kernel_rfl
theorem garnerlaw23_RaftParts.bits8 : waitsOk garnerlaw23_RaftParts.T8.2 garnerlaw23_RaftParts.B8 = true := by kernel_rfl
set_option maxHeartbeats 8000000 in
set_option maxRecDepth 100000 in
theorem garnerlaw23_RaftParts.calls (k : Nat) (a0_0 : Int) (a0_1 : Int) (A0_2 : Option Addr) (c0_2 : Nat) (l0_2 : List (S46)) (a0_3 : Int) (a0_4 : Int) (a0_5 : Int) (a0_6 : Int) (A1 : Option Addr) (c1 : Nat) (l1 : List (S46)) (a2 : Int) (r : Bool) (w : World) (hr0_2 : Kd.C k46 w A0_2 l0_2.length l0_2) (hc0_2 : l0_2.length ≤ c0_2) (hr1 : Kd.C k46 w A1 l1.length l1) (hc1 : l1.length ≤ c1) (h : garnerlaw23_RaftParts.f k a0_0 a0_1 l0_2 a0_3 a0_4 a0_5 a0_6 l1 a2 = some r) :
  Calls Try.prog 3 #[.agg #[.int .i64 a0_0, .int .i64 a0_1, .slice A0_2 l0_2.length c0_2, .int .i64 a0_3, .int .i64 a0_4, .int .i64 a0_5, .int .i64 a0_6], .slice A1 l1.length c1, .int .u8 a2] w fun e w' => e = .returned (.bool r) ∧ Below w.heap.size w w' := by
 have hu26 := Try.underlying26
 have HR0_2 := Aside0.mk hr0_2
 have HC0_2 := Aside0.mk hc0_2
 clear hr0_2 hc0_2
 have HR1 := Aside0.mk hr1
 have HC1 := Aside0.mk hc1
 clear hr1 hc1
 have HB := Aside0.mk (Below.refl w.heap.size w)
 have H : ((garnerlaw23_Light.f k a0_0 a0_1 l0_2 a0_3 a0_4 a0_5 a0_6).bind fun t249 => (if t249 = true then ((garnerlaw06_Light.f k l1).bind fun t250 => (if t250 = true then (garnerlaw23_RaftParts.j0 k l1 a2 (decide ((l1.length : Int) < 2)) a0_0 a0_1 l0_2 a0_3 a0_4 a0_5 a0_6) else (garnerlaw23_RaftParts.j0 k l1 a2 true a0_0 a0_1 l0_2 a0_3 a0_4 a0_5 a0_6))) else (garnerlaw23_RaftParts.j0 k l1 a2 true a0_0 a0_1 l0_2 a0_3 a0_4 a0_5 a0_6))) = some r := h
 clear h
 have HC4 := Aside0.mk H
 clear H
 go_enter Try.func3, Try.ntmps3
 go_upto_region 1 with (first | ((with_reducible refine gate_dst (N := 3) rfl ?_); (try (refine gate_guard (by rfl) ?_; dsimp only)); refine box_event ?hg (N := 3) ?hd (cs := #[.int .i64 a0_0, .int .i64 a0_1, .slice A0_2 l0_2.length c0_2, .int .i64 a0_3, .int .i64 a0_4, .int .i64 a0_5, .int .i64 a0_6]) (t := 26) ?hr ?_; (case hd => rfl); (case hg => rfl); (case hr => first | (go_simp; done) | (go_simp; rfl)); intro gb248 hg w5 hbox hb; have n0_ := Aside0.mk (below_step (pB HB.out) hb); have n1_ := Aside0.mk (hbox); have n2_ := Aside0.mk ((by rw [hg]; exact (below_size (pB HB.out)) : w.heap.size ≤ gb248)); have n3_ := n2_; clear HB; have HB := n0_; have BK248 := n1_; have GW248 := n2_; have GE248 := n3_; clear n0_ n1_ n2_ n3_ hb hbox hg))
 (try simp only [Act.put, List.setIfInBounds_toArray, List.set_cons_zero, List.set_cons_succ])
 go_cut [26] (fun v26 wc => ∃ (kq : Nat) (x26_3 : Bool), v26 = .bool x26_3 ∧ Aside0 (garnerlaw23_RaftParts.j0 kq l1 a2 x26_3 a0_0 a0_1 l0_2 a0_3 a0_4 a0_5 a0_6 = some r) ∧ Aside0 (kq ≤ k) ∧ Aside0 (wc.heap[gb248]? = some (.cells #[.int .i64 a0_0, .int .i64 a0_1, (.slice A0_2 l0_2.length c0_2), .int .i64 a0_3, .int .i64 a0_4, .int .i64 a0_5, .int .i64 a0_6] 26 (0, 0))) ∧ Aside0 (Below w.heap.size w wc))
 case first =>
  have H := HC4.out
  clear HC4
  replace H := Option.bind_eq_some_iff.mp H
  obtain ⟨t249, A60, H⟩ := H
  replace H : (if t249 = true then ((garnerlaw06_Light.f k l1).bind fun t250 => (if t250 = true then (garnerlaw23_RaftParts.j0 k l1 a2 (decide ((l1.length : Int) < 2)) a0_0 a0_1 l0_2 a0_3 a0_4 a0_5 a0_6) else (garnerlaw23_RaftParts.j0 k l1 a2 true a0_0 a0_1 l0_2 a0_3 a0_4 a0_5 a0_6))) else (garnerlaw23_RaftParts.j0 k l1 a2 true a0_0 a0_1 l0_2 a0_3 a0_4 a0_5 a0_6)) = some r := H
  have A6 := Aside0.mk A60
  clear A60
  by_cases c7 : t249 = true
  ·subst c7
   have H1 : ((garnerlaw06_Light.f k l1).bind fun t250 => (if t250 = true then (garnerlaw23_RaftParts.j0 k l1 a2 (decide ((l1.length : Int) < 2)) a0_0 a0_1 l0_2 a0_3 a0_4 a0_5 a0_6) else (garnerlaw23_RaftParts.j0 k l1 a2 true a0_0 a0_1 l0_2 a0_3 a0_4 a0_5 a0_6))) = some r := by rw [if_pos rfl] at H; exact H
   clear H
   have H := H1
   clear H1
   replace H := Option.bind_eq_some_iff.mp H
   obtain ⟨t250, A80, H⟩ := H
   replace H : (if t250 = true then (garnerlaw23_RaftParts.j0 k l1 a2 (decide ((l1.length : Int) < 2)) a0_0 a0_1 l0_2 a0_3 a0_4 a0_5 a0_6) else (garnerlaw23_RaftParts.j0 k l1 a2 true a0_0 a0_1 l0_2 a0_3 a0_4 a0_5 a0_6)) = some r := H
   have A8 := Aside0.mk A80
   clear A80
   by_cases c9 : t250 = true
   ·subst c9
    have H1 : (garnerlaw23_RaftParts.j0 k l1 a2 (decide ((l1.length : Int) < 2)) a0_0 a0_1 l0_2 a0_3 a0_4 a0_5 a0_6) = some r := by rw [if_pos rfl] at H; exact H
    clear H
    have H := H1
    clear H1
    have H' := Aside0.mk H
    clear H
    obtain ⟨hcz10_0, hcz10_1, hcz10_2, hcz10_3, hcz10_4, hcz10_5, hcz10_6⟩ := bc7 BK248.out
    obtain ⟨hfz10_0, hfz10_1, hfz10_2, hfz10_3, hfz10_4, hfz10_5, hfz10_6⟩ := bf7 BK248.out
    go_wp2_with (first | ((with_reducible refine gate_callee (f := 6) rfl ?_); refine goesL_ (some 15) rfl rfl Try.func6 (by kernel_rfl) rfl #[.agg #[.int .i64 a0_0, .int .i64 a0_1, .slice A0_2 l0_2.length c0_2, .int .i64 a0_3, .int .i64 a0_4, .int .i64 a0_5, .int .i64 a0_6]] rfl pL ?_; (with_reducible refine (garnerlaw23_Light.calls k a0_0 a0_1 _ _ l0_2 a0_3 a0_4 a0_5 a0_6 true _ ?side1 ?side2 A6.out).mono ?_); (case side1 => exact pC (Kd.C_below HR0_2.out HB.out)); (case side2 => exact HC0_2.out); rintro e w11 ⟨rfl, hb⟩; refine ⟨_, rfl, ?_⟩; have n0_ := Aside0.mk (kB BK248.out hb); have n1_ := Aside0.mk (below_step (pE HB.out GE248.out) hb); clear BK248 HB; have BK248 := n0_; have HB := n1_; clear n0_ n1_; (try clear hb); (try clear hb2); (try clear hk); (try clear hi)) | (go_at_call 7; (with_reducible refine (garnerlaw06_Light.calls k _ _ l1 true _ ?side1 ?side2 A8.out).mono ?_); (case side1 => exact pC (Kd.C_below HR1.out HB.out)); (case side2 => exact HC1.out); rintro e w' ⟨rfl, ⟨nd, rfl⟩⟩))
    go_meet
    case rel => exact ⟨_, (decide ((l1.length : Int) < 2)), (by first | rfl | (simp; done) | (simp [*]; done)), H', ⟨by first | omega | exact Nat.le_refl _⟩, ⟨pK BK248.out⟩, ⟨pE HB.out GE248.out⟩⟩
   ·replace c9 := Bool.eq_false_iff.mpr c9
    subst c9
    have H1 : (garnerlaw23_RaftParts.j0 k l1 a2 true a0_0 a0_1 l0_2 a0_3 a0_4 a0_5 a0_6) = some r := by rw [if_neg (show ¬ (false = true) by decide)] at H; exact H
    clear H
    have H := H1
    clear H1
    have H' := Aside0.mk H
    clear H
    obtain ⟨hcz12_0, hcz12_1, hcz12_2, hcz12_3, hcz12_4, hcz12_5, hcz12_6⟩ := bc7 BK248.out
    obtain ⟨hfz12_0, hfz12_1, hfz12_2, hfz12_3, hfz12_4, hfz12_5, hfz12_6⟩ := bf7 BK248.out
    go_wp2_with (first | ((with_reducible refine gate_callee (f := 6) rfl ?_); refine goesL_ (some 15) rfl rfl Try.func6 (by kernel_rfl) rfl #[.agg #[.int .i64 a0_0, .int .i64 a0_1, .slice A0_2 l0_2.length c0_2, .int .i64 a0_3, .int .i64 a0_4, .int .i64 a0_5, .int .i64 a0_6]] rfl pL ?_; (with_reducible refine (garnerlaw23_Light.calls k a0_0 a0_1 _ _ l0_2 a0_3 a0_4 a0_5 a0_6 true _ ?side1 ?side2 A6.out).mono ?_); (case side1 => exact pC (Kd.C_below HR0_2.out HB.out)); (case side2 => exact HC0_2.out); rintro e w13 ⟨rfl, hb⟩; refine ⟨_, rfl, ?_⟩; have n0_ := Aside0.mk (kB BK248.out hb); have n1_ := Aside0.mk (below_step (pE HB.out GE248.out) hb); clear BK248 HB; have BK248 := n0_; have HB := n1_; clear n0_ n1_; (try clear hb); (try clear hb2); (try clear hk); (try clear hi)) | (go_at_call 7; (with_reducible refine (garnerlaw06_Light.calls k _ _ l1 false _ ?side1 ?side2 A8.out).mono ?_); (case side1 => exact pC (Kd.C_below HR1.out HB.out)); (case side2 => exact HC1.out); rintro e w' ⟨rfl, ⟨nd, rfl⟩⟩))
    go_meet
    case rel => exact ⟨_, (true), (by first | rfl | (simp; done) | (simp [*]; done)), H', ⟨by first | omega | exact Nat.le_refl _⟩, ⟨pK BK248.out⟩, ⟨pE HB.out GE248.out⟩⟩
  ·replace c7 := Bool.eq_false_iff.mpr c7
   subst c7
   have H1 : (garnerlaw23_RaftParts.j0 k l1 a2 true a0_0 a0_1 l0_2 a0_3 a0_4 a0_5 a0_6) = some r := by rw [if_neg (show ¬ (false = true) by decide)] at H; exact H
   clear H
   have H := H1
   clear H1
   have H' := Aside0.mk H
   clear H
   obtain ⟨hcz14_0, hcz14_1, hcz14_2, hcz14_3, hcz14_4, hcz14_5, hcz14_6⟩ := bc7 BK248.out
   obtain ⟨hfz14_0, hfz14_1, hfz14_2, hfz14_3, hfz14_4, hfz14_5, hfz14_6⟩ := bf7 BK248.out
   go_wp2_with (first | ((with_reducible refine gate_callee (f := 6) rfl ?_); refine goesL_ (some 15) rfl rfl Try.func6 (by kernel_rfl) rfl #[.agg #[.int .i64 a0_0, .int .i64 a0_1, .slice A0_2 l0_2.length c0_2, .int .i64 a0_3, .int .i64 a0_4, .int .i64 a0_5, .int .i64 a0_6]] rfl pL ?_; (with_reducible refine (garnerlaw23_Light.calls k a0_0 a0_1 _ _ l0_2 a0_3 a0_4 a0_5 a0_6 false _ ?side1 ?side2 A6.out).mono ?_); (case side1 => exact pC (Kd.C_below HR0_2.out HB.out)); (case side2 => exact HC0_2.out); rintro e w15 ⟨rfl, hb⟩; refine ⟨_, rfl, ?_⟩; have n0_ := Aside0.mk (kB BK248.out hb); have n1_ := Aside0.mk (below_step (pE HB.out GE248.out) hb); clear BK248 HB; have BK248 := n0_; have HB := n1_; clear n0_ n1_; (try clear hb); (try clear hb2); (try clear hk); (try clear hi)))
   go_meet
   case rel => exact ⟨_, (true), (by first | rfl | (simp; done) | (simp [*]; done)), H', ⟨by first | omega | exact Nat.le_refl _⟩, ⟨pK BK248.out⟩, ⟨pE HB.out GE248.out⟩⟩
 case rest =>
  clear HC4
  try clear c1
  try clear p2
  try clear c3
  try clear c6
  try clear c7
  try clear c9
  try clear hcz10_0
  try clear hcz10_1
  try clear hcz10_2
  try clear hcz10_3
  try clear hcz10_4
  try clear hcz10_5
  try clear hcz10_6
  try clear hcz12_0
  try clear hcz12_1
  try clear hcz12_2
  try clear hcz12_3
  try clear hcz12_4
  try clear hcz12_5
  try clear hcz12_6
  try clear hcz14_0
  try clear hcz14_1
  try clear hcz14_2
  try clear hcz14_3
  try clear hcz14_4
  try clear hcz14_5
  try clear hcz14_6
  try clear hfz10_0
  try clear hfz10_1
  try clear hfz10_2
  try clear hfz10_3
  try clear hfz10_4
  try clear hfz10_5
  try clear hfz10_6
  try clear hfz12_0
  try clear hfz12_1
  try clear hfz12_2
  try clear hfz12_3
  try clear hfz12_4
  try clear hfz12_5
  try clear hfz12_6
  try clear hfz14_0
  try clear hfz14_1
  try clear hfz14_2
  try clear hfz14_3
  try clear hfz14_4
  try clear hfz14_5
  try clear hfz14_6
  obtain ⟨kq, x26_3, rfl, HA, HJ3, BK248, HB⟩ := hcut
  cases kq with
  | zero => exact absurd HA.out (by simp [garnerlaw23_RaftParts.j0])
  | succ kj3 =>
   have H := HA.out
   clear HA
   simp only [garnerlaw23_RaftParts.j0] at H
   by_cases c16 : x26_3 = true
   ·subst c16
    have H1 : ((garnerlaw23_awake.f kj3).bind fun t251 => (some t251)) = some r := by rw [if_pos rfl] at H; exact H
    clear H
    have H := H1
    clear H1
    replace H := Option.bind_eq_some_iff.mp H
    obtain ⟨t251, A170, H⟩ := H
    replace H : (some t251) = some r := H
    have A17 := Aside0.mk A170
    clear A170
    obtain rfl := Option.some.inj H
    go_wp2_with (first | ((with_reducible refine gate_callee (f := 8) rfl ?_); refine goesL_ (some 27) rfl rfl Try.func8 (by kernel_rfl) rfl #[] rfl pL ?_; (with_reducible refine (garnerlaw23_awake.calls kj3  t251 _ A17.out).mono ?_); rintro e w18 ⟨rfl, hb⟩; refine ⟨_, rfl, ?_⟩; have n0_ := Aside0.mk (kB BK248.out hb); have n1_ := Aside0.mk (below_step (pE HB.out GE248.out) hb); clear BK248 HB; have BK248 := n0_; have HB := n1_; clear n0_ n1_; (try clear hb); (try clear hb2); (try clear hk); (try clear hi)))
    go_ret
    exact ⟨pX, pE HB.out GE248.out⟩
   ·replace c16 := Bool.eq_false_iff.mpr c16
    subst c16
    have H1 : (if (wrap64 ((l1.length : Int) - 1)) = 0 then (none) else ((raft_Put.f kj3 a0_0 a0_1 l0_2 a0_3 a0_4 a0_5 a0_6 l1).bind fun bt252 => (if 0 ≤ (wrap64 (1 + (Int.tmod (wrap64 (a2)) (wrap64 ((l1.length : Int) - 1))))) then (if (wrap64 (1 + (Int.tmod (wrap64 (a2)) (wrap64 ((l1.length : Int) - 1))))) ≤ (l1.length : Int) then ((raft_Put.f kj3 a0_0 a0_1 l0_2 a0_3 a0_4 a0_5 a0_6 (l1.take ((wrap64 (1 + (Int.tmod (wrap64 (a2)) (wrap64 ((l1.length : Int) - 1))))) : Int).toNat)).bind fun bt267 => (if bt252.2.2.2.2.2.2.2 = 0 then (garnerlaw23_RaftParts.j1 kj3 l1 (wrap64 (1 + (Int.tmod (wrap64 (a2)) (wrap64 ((l1.length : Int) - 1))))) (bt267.2.2.2.2.2.2.2 != 0) bt252.1 bt252.2.1 bt252.2.2.1 bt252.2.2.2.1 bt252.2.2.2.2.1 bt252.2.2.2.2.2.1 bt252.2.2.2.2.2.2.1 bt267.1 bt267.2.1 bt267.2.2.1 bt267.2.2.2.1 bt267.2.2.2.2.1 bt267.2.2.2.2.2.1 bt267.2.2.2.2.2.2.1) else (garnerlaw23_RaftParts.j1 kj3 l1 (wrap64 (1 + (Int.tmod (wrap64 (a2)) (wrap64 ((l1.length : Int) - 1))))) true bt252.1 bt252.2.1 bt252.2.2.1 bt252.2.2.2.1 bt252.2.2.2.2.1 bt252.2.2.2.2.2.1 bt252.2.2.2.2.2.2.1 bt267.1 bt267.2.1 bt267.2.2.1 bt267.2.2.2.1 bt267.2.2.2.2.1 bt267.2.2.2.2.2.1 bt267.2.2.2.2.2.2.1))) else (none)) else (none)))) = some r := by rw [if_neg (show ¬ (false = true) by decide)] at H; exact H
    clear H
    have H := H1
    clear H1
    by_cases c19 : (wrap64 ((l1.length : Int) - 1)) = 0
    ·rw [if_pos c19] at H
     exact absurd H (by simp)
    ·rw [if_neg c19] at H
     have c19b0 : ((wrap64 ((l1.length : Int) - 1)) == 0) = false := beq_eq_false_iff_ne.mpr c19
     have c19b1 : ((wrap64 ((l1.length : Int) - 1)) != 0) = true := bne_iff_ne.mpr c19
     replace H := Option.bind_eq_some_iff.mp H
     obtain ⟨⟨t252, t253, t254, t257, t258, t259, t260, t261⟩, A200, H⟩ := H
     replace H : (if 0 ≤ (wrap64 (1 + (Int.tmod (wrap64 (a2)) (wrap64 ((l1.length : Int) - 1))))) then (if (wrap64 (1 + (Int.tmod (wrap64 (a2)) (wrap64 ((l1.length : Int) - 1))))) ≤ (l1.length : Int) then ((raft_Put.f kj3 a0_0 a0_1 l0_2 a0_3 a0_4 a0_5 a0_6 (l1.take ((wrap64 (1 + (Int.tmod (wrap64 (a2)) (wrap64 ((l1.length : Int) - 1))))) : Int).toNat)).bind fun bt267 => (if t261 = 0 then (garnerlaw23_RaftParts.j1 kj3 l1 (wrap64 (1 + (Int.tmod (wrap64 (a2)) (wrap64 ((l1.length : Int) - 1))))) (bt267.2.2.2.2.2.2.2 != 0) t252 t253 t254 t257 t258 t259 t260 bt267.1 bt267.2.1 bt267.2.2.1 bt267.2.2.2.1 bt267.2.2.2.2.1 bt267.2.2.2.2.2.1 bt267.2.2.2.2.2.2.1) else (garnerlaw23_RaftParts.j1 kj3 l1 (wrap64 (1 + (Int.tmod (wrap64 (a2)) (wrap64 ((l1.length : Int) - 1))))) true t252 t253 t254 t257 t258 t259 t260 bt267.1 bt267.2.1 bt267.2.2.1 bt267.2.2.2.1 bt267.2.2.2.2.1 bt267.2.2.2.2.2.1 bt267.2.2.2.2.2.2.1))) else (none)) else (none)) = some r := H
     have A20 := Aside0.mk A200
     clear A200
     obtain ⟨ji21, hji21⟩ : ∃ j_ : Int, (wrap64 (1 + (Int.tmod (wrap64 (a2)) (wrap64 ((l1.length : Int) - 1))))) = j_ := ⟨_, rfl⟩
     replace H : (if 0 ≤ (ji21) then (if (ji21) ≤ (l1.length : Int) then ((raft_Put.f kj3 a0_0 a0_1 l0_2 a0_3 a0_4 a0_5 a0_6 (l1.take ((ji21) : Int).toNat)).bind fun bt267 => (if t261 = 0 then (garnerlaw23_RaftParts.j1 kj3 l1 ji21 (bt267.2.2.2.2.2.2.2 != 0) t252 t253 t254 t257 t258 t259 t260 bt267.1 bt267.2.1 bt267.2.2.1 bt267.2.2.2.1 bt267.2.2.2.2.1 bt267.2.2.2.2.2.1 bt267.2.2.2.2.2.2.1) else (garnerlaw23_RaftParts.j1 kj3 l1 ji21 true t252 t253 t254 t257 t258 t259 t260 bt267.1 bt267.2.1 bt267.2.2.1 bt267.2.2.2.1 bt267.2.2.2.2.1 bt267.2.2.2.2.2.1 bt267.2.2.2.2.2.2.1))) else (none)) else (none)) = some r := by first | (rw [hji21] at H; exact H) | (simp only [hji21] at H ⊢; exact H)
     (try rw [hji21] at c19b0)
     (try rw [hji21] at c19b1)
     (try rw [hji21] at A20)
     have hji21w : (IntKind.i64.wrap (1 + (Int.tmod (wrap64 (a2)) (wrap64 ((l1.length : Int) - 1))))) = ji21 := (i64_w _).trans hji21
     by_cases c22 : 0 ≤ (ji21)
     ·rw [if_pos c22] at H
      have c22b0 := eq_true c22
      have c22b1 : decide (0 ≤ (ji21)) = true := decide_eq_true c22
      clear c22
      by_cases c23 : (ji21) ≤ (l1.length : Int)
      ·rw [if_pos c23] at H
       have c23b0 := eq_true c23
       have c23b1 : decide ((ji21) ≤ (l1.length : Int)) = true := decide_eq_true c23
       clear c23
       obtain ⟨y263, hy263⟩ : ∃ y_ : List (S46), y_ = (l1.take ((ji21) : Int).toNat) := ⟨_, rfl⟩
       replace H : ((raft_Put.f kj3 a0_0 a0_1 l0_2 a0_3 a0_4 a0_5 a0_6 y263).bind fun bt267 => (if t261 = 0 then (garnerlaw23_RaftParts.j1 kj3 l1 ji21 (bt267.2.2.2.2.2.2.2 != 0) t252 t253 t254 t257 t258 t259 t260 bt267.1 bt267.2.1 bt267.2.2.1 bt267.2.2.2.1 bt267.2.2.2.2.1 bt267.2.2.2.2.2.1 bt267.2.2.2.2.2.2.1) else (garnerlaw23_RaftParts.j1 kj3 l1 ji21 true t252 t253 t254 t257 t258 t259 t260 bt267.1 bt267.2.1 bt267.2.2.1 bt267.2.2.2.1 bt267.2.2.2.2.1 bt267.2.2.2.2.2.1 bt267.2.2.2.2.2.2.1))) = some r := by first | (rw [hy263]; with_reducible exact H) | (have H2_ := (Option.bind_some _ _).symm.trans H; rw [hy263]; with_reducible exact H2_) | (have H2_ := (Option.bind_some _ _).symm.trans H; with_reducible exact H2_) | with_reducible exact H | (rw [hy263]; exact H) | exact H
       have Ny263 := Aside0.mk hy263
       clear hy263
       replace H := Option.bind_eq_some_iff.mp H
       obtain ⟨⟨t267, t268, t269, t272, t273, t274, t275, t276⟩, A240, H⟩ := H
       replace H : (if t261 = 0 then (garnerlaw23_RaftParts.j1 kj3 l1 ji21 (t276 != 0) t252 t253 t254 t257 t258 t259 t260 t267 t268 t269 t272 t273 t274 t275) else (garnerlaw23_RaftParts.j1 kj3 l1 ji21 true t252 t253 t254 t257 t258 t259 t260 t267 t268 t269 t272 t273 t274 t275)) = some r := H
       have A24 := Aside0.mk A240
       clear A240
       have HC25 := Aside0.mk H
       clear H
       obtain ⟨hcz26_0, hcz26_1, hcz26_2, hcz26_3, hcz26_4, hcz26_5, hcz26_6⟩ := bc7 BK248.out
       obtain ⟨hfz26_0, hfz26_1, hfz26_2, hfz26_3, hfz26_4, hfz26_5, hfz26_6⟩ := bf7 BK248.out
       try go_wp2_with (first | ((with_reducible refine gate_callee (f := 9) rfl ?_); refine goesL_ (some 38) rfl rfl Try.func9 (by kernel_rfl) rfl #[.agg #[.int .i64 a0_0, .int .i64 a0_1, .slice A0_2 l0_2.length c0_2, .int .i64 a0_3, .int .i64 a0_4, .int .i64 a0_5, .int .i64 a0_6], .slice A1 l1.length c1] rfl pL ?_; (with_reducible refine (raft_Put.calls kj3 a0_0 a0_1 _ _ l0_2 a0_3 a0_4 a0_5 a0_6 _ _ l1 t252 t253 t254 t257 t258 t259 t260 t261 _ ?side1 ?side2 ?side3 ?side4 A20.out).mono ?_); (case side1 => exact pC (Kd.C_below HR0_2.out HB.out)); (case side2 => exact HC0_2.out); (case side3 => exact pC (Kd.C_below HR1.out HB.out)); (case side4 => exact HC1.out); rintro e w27 ⟨v255, rfl, ho0, hb⟩; refine ⟨_, rfl, ?_⟩; have n0_ := Aside0.mk (Kd.N_lower (Kd.N_mono (ok' := fun k_ => k_ ≠ gb248) ho0 (fun k_ hk_ => (kF BK248.out k_ hk_))) (below_size (pE HB.out GE248.out))); have n1_ := Aside0.mk (kB BK248.out hb); have n2_ := Aside0.mk (below_step (pE HB.out GE248.out) hb); clear BK248 HB; have HO256 := n0_; have BK248 := n1_; have HB := n2_; clear n0_ n1_ n2_; (try clear hb); (try clear hb2); (try clear hk); (try clear hi); (try clear ho0)) | ((with_reducible refine gate_dst (N := 8) rfl ?_); (try (refine gate_guard (by rfl) ?_; dsimp only)); refine box_event ?hg (N := 8) ?hd (cs := #[.int .i64 0, .int .i64 0, .slice none 0 0, .int .i64 0, .int .i64 0, .int .i64 0, .int .i64 0]) (t := 26) ?hr ?_; (case hd => rfl); (case hg => rfl); (case hr => first | (go_simp; done) | (go_simp; rfl)); intro gb262 hg w28 hbox hb; have n0_ := Aside0.mk (Kd.N_below (Kd.N_elderB (pN HO256.out) gb262 (Nat.le_of_eq hg.symm)) hb); have n1_ := Aside0.mk (kB BK248.out hb); have n2_ := Aside0.mk (below_step (pE HB.out GE248.out) hb); have n3_ := Aside0.mk (hbox); have n4_ := Aside0.mk ((by rw [hg]; exact (below_size (pE HB.out GE248.out)) : w.heap.size ≤ gb262)); have n5_ := n4_; have n6_ := Aside0.mk ((by rw [hg]; exact Nat.ne_of_lt (kL BK248.out) : gb248 ≠ gb262)); have n7_ := Aside0.mk ((by rw [hg]; exact Nat.ne_of_gt (kL BK248.out) : gb262 ≠ gb248)); clear HO256 BK248 HB; have HO256 := n0_; have BK248 := n1_; have HB := n2_; have BK262 := n3_; have GW262 := n4_; have GE262 := n5_; have NB248_262 := n6_; have NB262_248 := n7_; clear n0_ n1_ n2_ n3_ n4_ n5_ n6_ n7_ hb hbox hg; have hnb29 := NB262_248.out; have hnc29 := NB248_262.out; obtain ⟨hcz30_0, hcz30_1, hcz30_2, hcz30_3, hcz30_4, hcz30_5, hcz30_6⟩ := bc7 BK262.out; obtain ⟨hfz30_0, hfz30_1, hfz30_2, hfz30_3, hfz30_4, hfz30_5, hfz30_6⟩ := bf7 BK262.out; obtain ⟨Ao31, co31, eo31⟩ := Kd.N_slice HO256.out; subst eo31))
       have n0_ : Aside0 (Kd.N k46 46 (((((((w28.setCell ⟨gb262, 0, none⟩ (.int .i64 t252)).setCell ⟨gb262, 1, none⟩ (.int .i64 t253)).setCell ⟨gb262, 2, none⟩ (.slice Ao31 t254.length co31)).setCell ⟨gb262, 3, none⟩ (.int .i64 t257)).setCell ⟨gb262, 4, none⟩ (.int .i64 t258)).setCell ⟨gb262, 5, none⟩ (.int .i64 t259)).setCell ⟨gb262, 6, none⟩ (.int .i64 t260)) w.heap.size (fun k_ => k_ ≠ gb248 ∧ k_ ≠ gb262) (.slice Ao31 t254.length co31) t254) := ⟨by (with_reducible repeat (first | apply Kd.N_alloc | apply Kd.N_drewN | apply Kd.N_drew)); exact Kd.N_mono (Nf7 (g := gb262) (Kd.N_mono HO256.out (fun k_ hk => (⟨hk, hk.2⟩ : _ ∧ k_ ≠ gb262))) (fun _ hk => hk.2)) (fun _ hk => ⟨hk.1.1, hk.1.2⟩)⟩
       have n1_ : Aside0 ((((((((w28.setCell ⟨gb262, 0, none⟩ (.int .i64 t252)).setCell ⟨gb262, 1, none⟩ (.int .i64 t253)).setCell ⟨gb262, 2, none⟩ (.slice Ao31 t254.length co31)).setCell ⟨gb262, 3, none⟩ (.int .i64 t257)).setCell ⟨gb262, 4, none⟩ (.int .i64 t258)).setCell ⟨gb262, 5, none⟩ (.int .i64 t259)).setCell ⟨gb262, 6, none⟩ (.int .i64 t260)).heap[gb248]? = some (.cells #[.int .i64 a0_0, .int .i64 a0_1, .slice A0_2 l0_2.length c0_2, .int .i64 a0_3, .int .i64 a0_4, .int .i64 a0_5, .int .i64 a0_6] 26 (0, 0))) := ⟨kX1a BK248.out NB248_262.out⟩
       have n2_ : Aside0 ((((((((w28.setCell ⟨gb262, 0, none⟩ (.int .i64 t252)).setCell ⟨gb262, 1, none⟩ (.int .i64 t253)).setCell ⟨gb262, 2, none⟩ (.slice Ao31 t254.length co31)).setCell ⟨gb262, 3, none⟩ (.int .i64 t257)).setCell ⟨gb262, 4, none⟩ (.int .i64 t258)).setCell ⟨gb262, 5, none⟩ (.int .i64 t259)).setCell ⟨gb262, 6, none⟩ (.int .i64 t260)).heap[gb262]? = some (.cells #[.int .i64 t252, .int .i64 t253, .slice Ao31 t254.length co31, .int .i64 t257, .int .i64 t258, .int .i64 t259, .int .i64 t260] 26 (0, 0))) := ⟨kX0 BK262.out⟩
       have n3_ : Aside0 (Below w.heap.size w (((((((w28.setCell ⟨gb262, 0, none⟩ (.int .i64 t252)).setCell ⟨gb262, 1, none⟩ (.int .i64 t253)).setCell ⟨gb262, 2, none⟩ (.slice Ao31 t254.length co31)).setCell ⟨gb262, 3, none⟩ (.int .i64 t257)).setCell ⟨gb262, 4, none⟩ (.int .i64 t258)).setCell ⟨gb262, 5, none⟩ (.int .i64 t259)).setCell ⟨gb262, 6, none⟩ (.int .i64 t260))) := ⟨pE2 HB.out GE248.out GE262.out⟩
       (try clear HO256)
       (try clear BK248)
       (try clear BK262)
       (try clear HB)
       generalize (((((((w28.setCell ⟨gb262, 0, none⟩ (.int .i64 t252)).setCell ⟨gb262, 1, none⟩ (.int .i64 t253)).setCell ⟨gb262, 2, none⟩ (.slice Ao31 t254.length co31)).setCell ⟨gb262, 3, none⟩ (.int .i64 t257)).setCell ⟨gb262, 4, none⟩ (.int .i64 t258)).setCell ⟨gb262, 5, none⟩ (.int .i64 t259)).setCell ⟨gb262, 6, none⟩ (.int .i64 t260)) = w32 at n0_ n1_ n2_ n3_ ⊢
       have HO256 := n0_
       have BK248 := n1_
       have BK262 := n2_
       have HB := n3_
       clear n0_ n1_ n2_ n3_
       have n0_ := Aside0.mk (Kd.N_drew HO256.out)
       have n1_ := Aside0.mk (blk_drew BK248.out)
       have n2_ := Aside0.mk (blk_drew BK262.out)
       have n3_ := Aside0.mk (below_drew1 HB.out)
       clear HO256
       clear BK248
       clear BK262
       clear HB
       have HO256 := n0_
       have BK248 := n1_
       have BK262 := n2_
       have HB := n3_
       clear n0_ n1_ n2_ n3_
       have q34 : ((ji21) : Int) ≤ ((l1.length : Int) : Int) := of_decide_eq_true pS
       obtain ⟨i034, hi034, _, hsz34, _⟩ := info_parts info46
       have hroom34 : l1.length ≤ c1 := HC1.out
       have hC34 : Kd.C k46 _ A1 l1.length l1 := HR1.out
       have hcut34 := cut_to (P := Try.prog) 22 46 .i64 Try.underlying22 hi034 A1 l1.length c1 (ji21) (of_decide_eq_true pS) q34 hroom34
       have hr34 := Kd.C_take (m := ((ji21) : Int).toNat) hC34 (by omega)
       have hy34 : y263.length = ((ji21) : Int).toNat := (by rw [Ny263.out, List.length_take]; omega)
       rw [← Ny263.out] at hr34
       rw [← hy34] at hcut34
       have HR266 := Aside0.mk hr34
       have HC266 := Aside0.mk (show y263.length ≤ c1 from by omega)
       clear hr34 hC34 hroom34 hi034 hsz34
       have KY34 := Aside0.mk hy34
       clear hy34
       replace q34 := eq_true q34
       refine start_ (n := 11) (S := fun w' => cG w' gb248 0 (.int .i64 a0_0) ∧ cG w' gb248 1 (.int .i64 a0_1) ∧ cG w' gb248 2 (.slice A0_2 l0_2.length c0_2) ∧ cG w' gb248 3 (.int .i64 a0_3) ∧ cG w' gb248 4 (.int .i64 a0_4) ∧ cG w' gb248 5 (.int .i64 a0_5) ∧ cG w' gb248 6 (.int .i64 a0_6)) (ds := []) #[false, false, false, false, false, false, false, false, false, false, false] (by kernel_rfl) rfl rfl ⟨(blk_cell BK248.out 0).trans rfl, (blk_cell BK248.out 1).trans rfl, (blk_cell BK248.out 2).trans rfl, (blk_cell BK248.out 3).trans rfl, (blk_cell BK248.out 4).trans rfl, (blk_cell BK248.out 5).trans rfl, (blk_cell BK248.out 6).trans rfl⟩ (fun hHeld => ?_); refine with_tabW garnerlaw23_RaftParts.tab5 garnerlaw23_RaftParts.bits5 (fun HT_ HW_ => ?_)
       generalize w32.drew = w33 at HO256 BK248 BK262 HB HR266 hHeld ⊢
       refine pu 1 (some 43) (bw 11 2) HT_.out (h := ?_)
       refine pu 2 (some 44) (bw 11 6) HT_.out (h := ?_)
       refine pu 3 (some 45) (bw 11 14) HT_.out (h := ?_)
       refine tk 0 (some 42) (bw 11 15) HT_.out HW_.out hHeld (h := ?_)
       refine join_ (σ := Value × Nat) 2 #[true, true, true, true, true, true, true, true, true, false, false] (fun s_ => [(46, .tuple #[.agg #[.int .i64 t267, .int .i64 t268, s_.1, .int .i64 t272, .int .i64 t273, .int .i64 t274, .int .i64 t275], .int .i64 t276]), (10, .pointer (some ⟨s_.2, 0, none⟩)), (41, .tuple #[.agg #[.int .i64 t267, .int .i64 t268, s_.1, .int .i64 t272, .int .i64 t273, .int .i64 t274, .int .i64 t275], .int .i64 t276]), (47, .agg #[.int .i64 t267, .int .i64 t268, s_.1, .int .i64 t272, .int .i64 t273, .int .i64 t274, .int .i64 t275]), (48, .int .i64 t276)]) (fun s_ w' => (cG w' gb248 0 (.int .i64 a0_0) ∧ cG w' gb248 1 (.int .i64 a0_1) ∧ cG w' gb248 2 (.slice A0_2 l0_2.length c0_2) ∧ cG w' gb248 3 (.int .i64 a0_3) ∧ cG w' gb248 4 (.int .i64 a0_4) ∧ cG w' gb248 5 (.int .i64 a0_5) ∧ cG w' gb248 6 (.int .i64 a0_6)) ∧ (Kd.N k46 46 w' w.heap.size (fun k_ => some k_ ≠ (s_.1 : Value).ownBlock ∧ k_ ≠ gb248 ∧ k_ ≠ gb262 ∧ k_ ≠ s_.2) (.slice Ao31 t254.length co31) t254) ∧ (Kd.N k46 46 w' w.heap.size (fun k_ => some k_ ≠ (.slice Ao31 t254.length co31 : Value).ownBlock ∧ k_ ≠ gb248 ∧ k_ ≠ gb262 ∧ k_ ≠ s_.2) s_.1 t269) ∧ (w'.heap[gb248]? = some (.cells #[.int .i64 a0_0, .int .i64 a0_1, .slice A0_2 l0_2.length c0_2, .int .i64 a0_3, .int .i64 a0_4, .int .i64 a0_5, .int .i64 a0_6] 26 (0, 0))) ∧ (w'.heap[gb262]? = some (.cells #[.int .i64 t252, .int .i64 t253, .slice Ao31 t254.length co31, .int .i64 t257, .int .i64 t258, .int .i64 t259, .int .i64 t260] 26 (0, 0))) ∧ (w'.heap[s_.2]? = some (.cells #[.int .i64 0, .int .i64 0, .slice none 0 0, .int .i64 0, .int .i64 0, .int .i64 0, .int .i64 0] 26 (0, 0))) ∧ (w.heap.size ≤ s_.2) ∧ (w.heap.size ≤ s_.2) ∧ (gb248 ≠ s_.2) ∧ (s_.2 ≠ gb248) ∧ (gb262 ≠ s_.2) ∧ (s_.2 ≠ gb262) ∧ (Below w.heap.size w w')) ?_ ?_
       rotate_left
       ·intro hCont
        refine two_ (i := 4) (j := 8) (Ni := some 46) (Nj := some 10) (bw 11 31) #[true, true, true, true, false, false, false, false, true, false, false] rfl rfl rfl rfl (two_of HT_.out (by kernel_rfl)) (by decide) (by decide) (fun K hK => ?_) (fun K hK => ?_)
        ·skip
         refine goes_ Try.func9 (by kernel_rfl) rfl #[.agg #[.int .i64 a0_0, .int .i64 a0_1, .slice A0_2 l0_2.length c0_2, .int .i64 a0_3, .int .i64 a0_4, .int .i64 a0_5, .int .i64 a0_6], .slice A1 y263.length c1] (by rfl) rfl rfl pL ?_
         with_reducible refine (raft_Put.calls kj3 a0_0 a0_1 _ _ l0_2 a0_3 a0_4 a0_5 a0_6 _ _ y263 t267 t268 t269 t272 t273 t274 t275 t276 _ ?side1 ?side2 ?side3 ?side4 A24.out).mono ?_
         (case side1 => exact pC (Kd.C_below HR0_2.out HB.out))
         (case side2 => exact HC0_2.out)
         (case side3 => exact pC (Kd.C_below HR266.out HB.out))
         (case side4 => exact HC266.out)
         rintro e w35 ⟨v270, rfl, ho0, hb⟩
         refine ⟨_, rfl, ?_⟩
         have n0_ := Aside0.mk (Kd.N_elder' (pN HO256.out) (Kd.N_base ho0) hb)
         have n1_ := Aside0.mk (Kd.N_lower (Kd.N_mono (ok' := fun k_ => some k_ ≠ (.slice Ao31 t254.length co31 : Value).ownBlock ∧ k_ ≠ gb248 ∧ k_ ≠ gb262) ho0 (fun k_ hk_ => ⟨(Kd.fresh' (Kd.N_lt (pN HO256.out)) k_ hk_), (kF BK248.out k_ hk_), (kF BK262.out k_ hk_)⟩)) (below_size (pE2 HB.out GE248.out GE262.out)))
         have n2_ := Aside0.mk (kB BK248.out hb)
         have n3_ := Aside0.mk (kB BK262.out hb)
         have n4_ := Aside0.mk (below_step (pE2 HB.out GE248.out GE262.out) hb)
         clear HO256
         clear BK248
         clear BK262
         clear HB
         have HO256 := n0_
         have HO271 := n1_
         have BK248 := n2_
         have BK262 := n3_
         have HB := n4_
         clear n0_ n1_ n2_ n3_ n4_
         (try clear hb)
         (try clear hb2)
         (try clear hk)
         (try clear hi)
         (try clear ho0)
         refine hK.out _ _ ⟨(blk_cell BK248.out 0).trans rfl, (blk_cell BK248.out 1).trans rfl, (blk_cell BK248.out 2).trans rfl, (blk_cell BK248.out 3).trans rfl, (blk_cell BK248.out 4).trans rfl, (blk_cell BK248.out 5).trans rfl, (blk_cell BK248.out 6).trans rfl⟩ (fun hHeld => ?_)
         clear hK K
         refine norm_ (a' := ?_) ?_ ?_
         rotate_left
         ·show Act.put _ (some 46) _ = _
          simp only [Act.put, List.setIfInBounds_toArray, List.set_cons_zero, List.set_cons_succ, i64_w, i32_w]
          rfl
         refine pu 5 (some 41) (bw 11 63) HT_.out (h := ?_)
         refine pu 6 (some 47) (bw 11 127) HT_.out (h := ?_)
         refine pu 7 (some 48) (bw 11 255) HT_.out (h := ?_)
         refine one_ (i := 8) (N := some 10) (bw 11 511) rfl rfl (one_of HT_.out (by kernel_rfl)) (by decide) (fun K hK => ?_)
         refine box_step ?hg (N := 10) ?hd (cs := #[.int .i64 0, .int .i64 0, .slice none 0 0, .int .i64 0, .int .i64 0, .int .i64 0, .int .i64 0]) (t := 26) ?hr ?_; (case hd => rfl); (case hg => rfl); (case hr => first | (go_simp; done) | (go_simp; rfl))
         intro gb277 hg w36 hbox hb
         have n0_ := Aside0.mk (Kd.N_below (Kd.N_elderB (pN HO256.out) gb277 (Nat.le_of_eq hg.symm)) hb)
         have n1_ := Aside0.mk (Kd.N_below (Kd.N_elderB (pN HO271.out) gb277 (Nat.le_of_eq hg.symm)) hb)
         have n2_ := Aside0.mk (kB BK248.out hb)
         have n3_ := Aside0.mk (kB BK262.out hb)
         have n4_ := Aside0.mk (below_step (pE2 HB.out GE248.out GE262.out) hb)
         have n5_ := Aside0.mk (hbox)
         have n6_ := Aside0.mk ((by rw [hg]; exact (below_size (pE2 HB.out GE248.out GE262.out)) : w.heap.size ≤ gb277))
         have n7_ := Aside0.mk ((by rw [hg]; exact (below_size (pE2 HB.out GE248.out GE262.out)) : w.heap.size ≤ gb277))
         have n8_ := Aside0.mk ((by rw [hg]; exact Nat.ne_of_lt (kL BK248.out) : gb248 ≠ gb277))
         have n9_ := Aside0.mk ((by rw [hg]; exact Nat.ne_of_gt (kL BK248.out) : gb277 ≠ gb248))
         have n10_ := Aside0.mk ((by rw [hg]; exact Nat.ne_of_lt (kL BK262.out) : gb262 ≠ gb277))
         have n11_ := Aside0.mk ((by rw [hg]; exact Nat.ne_of_gt (kL BK262.out) : gb277 ≠ gb262))
         clear HO256
         clear HO271
         clear BK248
         clear BK262
         clear HB
         have HO256 := n0_
         have HO271 := n1_
         have BK248 := n2_
         have BK262 := n3_
         have HB := n4_
         have BK277 := n5_
         have GW277 := n6_
         have GE277 := n7_
         have NB248_277 := n8_
         have NB277_248 := n9_
         have NB262_277 := n10_
         have NB277_262 := n11_
         clear n0_ n1_ n2_ n3_ n4_ n5_ n6_ n7_ n8_ n9_ n10_ n11_
         clear hb hbox hg
         refine hK.out _ _ ⟨(blk_cell BK248.out 0).trans rfl, (blk_cell BK248.out 1).trans rfl, (blk_cell BK248.out 2).trans rfl, (blk_cell BK248.out 3).trans rfl, (blk_cell BK248.out 4).trans rfl, (blk_cell BK248.out 5).trans rfl, (blk_cell BK248.out 6).trans rfl⟩ (fun hHeld => ?_)
         clear hK K
         refine norm_ (a' := ?_) ?_ ?_
         rotate_left
         ·show Act.put _ (some 10) _ = _
          simp only [Act.put, List.setIfInBounds_toArray, List.set_cons_zero, List.set_cons_succ, i64_w, i32_w]
          rfl
         exact norm_ (by simp only [putAll, Act.put, List.setIfInBounds_toArray, List.set_cons_zero, List.set_cons_succ]) (hCont (v270, gb277) _ ⟨hHeld, (by (with_reducible repeat (first | apply Kd.N_alloc | apply Kd.N_drewN | apply Kd.N_drew)); exact Kd.N_mono HO256.out (fun _ hk => ⟨hk.1.2, ⟨hk.1.1.1, ⟨hk.1.1.2, hk.2⟩⟩⟩)), (by (with_reducible repeat (first | apply Kd.N_alloc | apply Kd.N_drewN | apply Kd.N_drew)); exact Kd.N_mono HO271.out (fun _ hk => ⟨hk.1.1, ⟨hk.1.2.1, ⟨hk.1.2.2, hk.2⟩⟩⟩)), (pK BK248.out), (pK BK262.out), (pK BK277.out), GW277.out, GE277.out, NB248_277.out, NB277_248.out, NB262_277.out, NB277_262.out, (pE3 HB.out GE248.out GE262.out GE277.out)⟩)
        ·skip
         refine box_step ?hg (N := 10) ?hd (cs := #[.int .i64 0, .int .i64 0, .slice none 0 0, .int .i64 0, .int .i64 0, .int .i64 0, .int .i64 0]) (t := 26) ?hr ?_; (case hd => rfl); (case hg => rfl); (case hr => first | (go_simp; done) | (go_simp; rfl))
         intro gb277 hg w35 hbox hb
         have n0_ := Aside0.mk (Kd.N_below (Kd.N_elderB (pN HO256.out) gb277 (Nat.le_of_eq hg.symm)) hb)
         have n1_ := Aside0.mk (kB BK248.out hb)
         have n2_ := Aside0.mk (kB BK262.out hb)
         have n3_ := Aside0.mk (below_step (pE2 HB.out GE248.out GE262.out) hb)
         have n4_ := Aside0.mk (hbox)
         have n5_ := Aside0.mk ((by rw [hg]; exact (below_size (pE2 HB.out GE248.out GE262.out)) : w.heap.size ≤ gb277))
         have n6_ := Aside0.mk ((by rw [hg]; exact (below_size (pE2 HB.out GE248.out GE262.out)) : w.heap.size ≤ gb277))
         have n7_ := Aside0.mk ((by rw [hg]; exact Nat.ne_of_lt (kL BK248.out) : gb248 ≠ gb277))
         have n8_ := Aside0.mk ((by rw [hg]; exact Nat.ne_of_gt (kL BK248.out) : gb277 ≠ gb248))
         have n9_ := Aside0.mk ((by rw [hg]; exact Nat.ne_of_lt (kL BK262.out) : gb262 ≠ gb277))
         have n10_ := Aside0.mk ((by rw [hg]; exact Nat.ne_of_gt (kL BK262.out) : gb277 ≠ gb262))
         clear HO256
         clear BK248
         clear BK262
         clear HB
         have HO256 := n0_
         have BK248 := n1_
         have BK262 := n2_
         have HB := n3_
         have BK277 := n4_
         have GW277 := n5_
         have GE277 := n6_
         have NB248_277 := n7_
         have NB277_248 := n8_
         have NB262_277 := n9_
         have NB277_262 := n10_
         clear n0_ n1_ n2_ n3_ n4_ n5_ n6_ n7_ n8_ n9_ n10_
         clear hb hbox hg
         refine hK.out _ _ ⟨(blk_cell BK248.out 0).trans rfl, (blk_cell BK248.out 1).trans rfl, (blk_cell BK248.out 2).trans rfl, (blk_cell BK248.out 3).trans rfl, (blk_cell BK248.out 4).trans rfl, (blk_cell BK248.out 5).trans rfl, (blk_cell BK248.out 6).trans rfl⟩ (fun hHeld => ?_)
         clear hK K
         refine norm_ (a' := ?_) ?_ ?_
         rotate_left
         ·show Act.put _ (some 10) _ = _
          simp only [Act.put, List.setIfInBounds_toArray, List.set_cons_zero, List.set_cons_succ, i64_w, i32_w]
          rfl
         refine one_ (i := 4) (N := some 46) (bw 11 287) rfl rfl (one_of HT_.out (by kernel_rfl)) (by decide) (fun K hK => ?_)
         refine goes_ Try.func9 (by kernel_rfl) rfl #[.agg #[.int .i64 a0_0, .int .i64 a0_1, .slice A0_2 l0_2.length c0_2, .int .i64 a0_3, .int .i64 a0_4, .int .i64 a0_5, .int .i64 a0_6], .slice A1 y263.length c1] (by rfl) rfl rfl pL ?_
         with_reducible refine (raft_Put.calls kj3 a0_0 a0_1 _ _ l0_2 a0_3 a0_4 a0_5 a0_6 _ _ y263 t267 t268 t269 t272 t273 t274 t275 t276 _ ?side1 ?side2 ?side3 ?side4 A24.out).mono ?_
         (case side1 => exact pC (Kd.C_below HR0_2.out HB.out))
         (case side2 => exact HC0_2.out)
         (case side3 => exact pC (Kd.C_below HR266.out HB.out))
         (case side4 => exact HC266.out)
         rintro e w36 ⟨v270, rfl, ho0, hb⟩
         refine ⟨_, rfl, ?_⟩
         have n0_ := Aside0.mk (Kd.N_elder' (pN HO256.out) (Kd.N_base ho0) hb)
         have n1_ := Aside0.mk (Kd.N_lower (Kd.N_mono (ok' := fun k_ => some k_ ≠ (.slice Ao31 t254.length co31 : Value).ownBlock ∧ k_ ≠ gb248 ∧ k_ ≠ gb262 ∧ k_ ≠ gb277) ho0 (fun k_ hk_ => ⟨(Kd.fresh' (Kd.N_lt (pN HO256.out)) k_ hk_), (kF BK248.out k_ hk_), (kF BK262.out k_ hk_), (kF BK277.out k_ hk_)⟩)) (below_size (pE3 HB.out GE248.out GE262.out GE277.out)))
         have n2_ := Aside0.mk (kB BK248.out hb)
         have n3_ := Aside0.mk (kB BK262.out hb)
         have n4_ := Aside0.mk (kB BK277.out hb)
         have n5_ := Aside0.mk (below_step (pE3 HB.out GE248.out GE262.out GE277.out) hb)
         clear HO256
         clear BK248
         clear BK262
         clear BK277
         clear HB
         have HO256 := n0_
         have HO271 := n1_
         have BK248 := n2_
         have BK262 := n3_
         have BK277 := n4_
         have HB := n5_
         clear n0_ n1_ n2_ n3_ n4_ n5_
         (try clear hb)
         (try clear hb2)
         (try clear hk)
         (try clear hi)
         (try clear ho0)
         refine hK.out _ _ ⟨(blk_cell BK248.out 0).trans rfl, (blk_cell BK248.out 1).trans rfl, (blk_cell BK248.out 2).trans rfl, (blk_cell BK248.out 3).trans rfl, (blk_cell BK248.out 4).trans rfl, (blk_cell BK248.out 5).trans rfl, (blk_cell BK248.out 6).trans rfl⟩ (fun hHeld => ?_)
         clear hK K
         refine norm_ (a' := ?_) ?_ ?_
         rotate_left
         ·show Act.put _ (some 46) _ = _
          simp only [Act.put, List.setIfInBounds_toArray, List.set_cons_zero, List.set_cons_succ, i64_w, i32_w]
          rfl
         refine pu 5 (some 41) (bw 11 319) HT_.out (h := ?_)
         refine pu 6 (some 47) (bw 11 383) HT_.out (h := ?_)
         refine pu 7 (some 48) (bw 11 511) HT_.out (h := ?_)
         exact norm_ (by simp only [putAll, Act.put, List.setIfInBounds_toArray, List.set_cons_zero, List.set_cons_succ]) (hCont (v270, gb277) _ ⟨hHeld, (by (with_reducible repeat (first | apply Kd.N_alloc | apply Kd.N_drewN | apply Kd.N_drew)); exact Kd.N_mono HO256.out (fun _ hk => ⟨hk.2, ⟨hk.1.1.1, ⟨hk.1.1.2, hk.1.2⟩⟩⟩)), (pN HO271.out), (pK BK248.out), (pK BK262.out), (pK BK277.out), GW277.out, GE277.out, NB248_277.out, NB277_248.out, NB262_277.out, NB277_262.out, (pE3 HB.out GE248.out GE262.out GE277.out)⟩)
       rintro ⟨v270, gb277⟩ w37 ⟨hS_, h0_, h1_, h2_, h3_, h4_, h5_, h6_, h7_, h8_, h9_, h10_, h11_⟩
       have n0_ : Aside0 (Kd.N k46 46 w37 w.heap.size (fun k_ => some k_ ≠ (v270 : Value).ownBlock ∧ k_ ≠ gb248 ∧ k_ ≠ gb262 ∧ k_ ≠ gb277) (.slice Ao31 t254.length co31) t254) := ⟨h0_⟩
       have n1_ : Aside0 (Kd.N k46 46 w37 w.heap.size (fun k_ => some k_ ≠ (.slice Ao31 t254.length co31 : Value).ownBlock ∧ k_ ≠ gb248 ∧ k_ ≠ gb262 ∧ k_ ≠ gb277) v270 t269) := ⟨h1_⟩
       have n2_ : Aside0 (w37.heap[gb248]? = some (.cells #[.int .i64 a0_0, .int .i64 a0_1, .slice A0_2 l0_2.length c0_2, .int .i64 a0_3, .int .i64 a0_4, .int .i64 a0_5, .int .i64 a0_6] 26 (0, 0))) := ⟨h2_⟩
       have n3_ : Aside0 (w37.heap[gb262]? = some (.cells #[.int .i64 t252, .int .i64 t253, .slice Ao31 t254.length co31, .int .i64 t257, .int .i64 t258, .int .i64 t259, .int .i64 t260] 26 (0, 0))) := ⟨h3_⟩
       have n4_ : Aside0 (w37.heap[gb277]? = some (.cells #[.int .i64 0, .int .i64 0, .slice none 0 0, .int .i64 0, .int .i64 0, .int .i64 0, .int .i64 0] 26 (0, 0))) := ⟨h4_⟩
       have n5_ : Aside0 (w.heap.size ≤ gb277) := ⟨h5_⟩
       have n6_ : Aside0 (w.heap.size ≤ gb277) := ⟨h6_⟩
       have n7_ : Aside0 (gb248 ≠ gb277) := ⟨h7_⟩
       have n8_ : Aside0 (gb277 ≠ gb248) := ⟨h8_⟩
       have n9_ : Aside0 (gb262 ≠ gb277) := ⟨h9_⟩
       have n10_ : Aside0 (gb277 ≠ gb262) := ⟨h10_⟩
       have n11_ : Aside0 (Below w.heap.size w w37) := ⟨h11_⟩
       clear HO256
       clear BK248
       clear BK262
       clear HB
       clear h0_ h1_ h2_ h3_ h4_ h5_ h6_ h7_ h8_ h9_ h10_ h11_
       have HO256 := n0_
       have HO271 := n1_
       have BK248 := n2_
       have BK262 := n3_
       have BK277 := n4_
       have GW277 := n5_
       have GE277 := n6_
       have NB248_277 := n7_
       have NB277_248 := n8_
       have NB262_277 := n9_
       have NB277_262 := n10_
       have HB := n11_
       clear n0_ n1_ n2_ n3_ n4_ n5_ n6_ n7_ n8_ n9_ n10_ n11_
       have hHeld : w37.cell? ⟨gb248, 0, none⟩ = some (.int .i64 a0_0) ∧ w37.cell? ⟨gb248, 1, none⟩ = some (.int .i64 a0_1) ∧ w37.cell? ⟨gb248, 2, none⟩ = some (.slice A0_2 l0_2.length c0_2) ∧ w37.cell? ⟨gb248, 3, none⟩ = some (.int .i64 a0_3) ∧ w37.cell? ⟨gb248, 4, none⟩ = some (.int .i64 a0_4) ∧ w37.cell? ⟨gb248, 5, none⟩ = some (.int .i64 a0_5) ∧ w37.cell? ⟨gb248, 6, none⟩ = some (.int .i64 a0_6) := hS_
       obtain ⟨Ao40, co40, eo40⟩ := Kd.N_slice HO271.out
       (first | subst eo40 | (injection eo40 with f1_ f2_ f3_; have f4_ := f1_.symm; have f5_ := f3_.symm; clear f1_ f2_ f3_; subst f4_; subst f5_))
       refine norm_ (a' := ?_) ?_ ?_
       rotate_left
       ·simp only [putAll, Act.put, List.setIfInBounds_toArray, List.set_cons_zero, List.set_cons_succ]
        rfl
       refine one_ (i := 9) (N := none) (bw 11 1023) rfl rfl (one_of HT_.out (by kernel_rfl)) (by decide) (fun K hK => ?_)
       have hs38 : w37.cell? ⟨gb277, 0, none⟩ = some (.int .i64 0) := (blk_cell BK277.out 0).trans rfl
       have hfs38 := blk_frozen BK277.out 0
       have hns38_0 := NB248_277.out
       have hns38_1 := NB262_277.out
       have hms38_0 := NB277_248.out
       have hms38_1 := NB277_262.out
       have hs39 : w37.cell? ⟨gb277, 1, none⟩ = some (.int .i64 0) := (blk_cell BK277.out 1).trans rfl
       have hfs39 := blk_frozen BK277.out 1
       have hns39_0 := NB248_277.out
       have hns39_1 := NB262_277.out
       have hms39_0 := NB277_248.out
       have hms39_1 := NB277_262.out
       have hs41 : w37.cell? ⟨gb277, 2, none⟩ = some (.slice none 0 0) := (blk_cell BK277.out 2).trans rfl
       have hfs41 := blk_frozen BK277.out 2
       have hns41_0 := NB248_277.out
       have hns41_1 := NB262_277.out
       have hms41_0 := NB277_248.out
       have hms41_1 := NB277_262.out
       have hs42 : w37.cell? ⟨gb277, 3, none⟩ = some (.int .i64 0) := (blk_cell BK277.out 3).trans rfl
       have hfs42 := blk_frozen BK277.out 3
       have hns42_0 := NB248_277.out
       have hns42_1 := NB262_277.out
       have hms42_0 := NB277_248.out
       have hms42_1 := NB277_262.out
       have hs43 : w37.cell? ⟨gb277, 4, none⟩ = some (.int .i64 0) := (blk_cell BK277.out 4).trans rfl
       have hfs43 := blk_frozen BK277.out 4
       have hns43_0 := NB248_277.out
       have hns43_1 := NB262_277.out
       have hms43_0 := NB277_248.out
       have hms43_1 := NB277_262.out
       have hs44 : w37.cell? ⟨gb277, 5, none⟩ = some (.int .i64 0) := (blk_cell BK277.out 5).trans rfl
       have hfs44 := blk_frozen BK277.out 5
       have hns44_0 := NB248_277.out
       have hns44_1 := NB262_277.out
       have hms44_0 := NB277_248.out
       have hms44_1 := NB277_262.out
       have hs45 : w37.cell? ⟨gb277, 6, none⟩ = some (.int .i64 0) := (blk_cell BK277.out 6).trans rfl
       have hfs45 := blk_frozen BK277.out 6
       have hns45_0 := NB248_277.out
       have hns45_1 := NB262_277.out
       have hms45_0 := NB277_248.out
       have hms45_1 := NB277_262.out
       refine skip_ (w1 := ?_) (by rfl) rfl ?_ ?_
       rotate_left
       ·go_simp
        rfl
       refine hK.out _ _ ⟨(cX1 hHeld.1 NB248_277.out), (cX1 hHeld.2.1 NB248_277.out), (cX1 hHeld.2.2.1 NB248_277.out), (cX1 hHeld.2.2.2.1 NB248_277.out), (cX1 hHeld.2.2.2.2.1 NB248_277.out), (cX1 hHeld.2.2.2.2.2.1 NB248_277.out), (cX1 hHeld.2.2.2.2.2.2 NB248_277.out)⟩ (fun hHeld => ?_)
       clear hK K
       refine pu 10 (some 11) (bw 11 2047) HT_.out (h := ?_)
       refine done_ (done_of HT_.out (by kernel_rfl)) ?_
       go_upto_region 6 with (fail)
       go_cut [54] (fun v54 wc => ∃ (kq : Nat) (x54_24 : Bool), v54 = .bool x54_24 ∧ Aside0 (garnerlaw23_RaftParts.j1 kq l1 ji21 x54_24 t252 t253 t254 t257 t258 t259 t260 t267 t268 t269 t272 t273 t274 t275 = some r) ∧ Aside0 (kq ≤ kj3) ∧ Aside0 (Kd.N k46 46 wc w.heap.size (fun k_ => some k_ ≠ ((.slice Ao40 t269.length co40) : Value).ownBlock ∧ k_ ≠ gb248 ∧ k_ ≠ gb262 ∧ k_ ≠ gb277) (.slice Ao31 t254.length co31) t254) ∧ Aside0 (Kd.N k46 46 wc w.heap.size (fun k_ => some k_ ≠ ((.slice Ao31 t254.length co31) : Value).ownBlock ∧ k_ ≠ gb248 ∧ k_ ≠ gb262 ∧ k_ ≠ gb277) (.slice Ao40 t269.length co40) t269) ∧ Aside0 (wc.heap[gb248]? = some (.cells #[.int .i64 a0_0, .int .i64 a0_1, (.slice A0_2 l0_2.length c0_2), .int .i64 a0_3, .int .i64 a0_4, .int .i64 a0_5, .int .i64 a0_6] 26 (0, 0))) ∧ Aside0 (wc.heap[gb262]? = some (.cells #[.int .i64 t252, .int .i64 t253, (.slice Ao31 t254.length co31), .int .i64 t257, .int .i64 t258, .int .i64 t259, .int .i64 t260] 26 (0, 0))) ∧ Aside0 (wc.heap[gb277]? = some (.cells #[.int .i64 t267, .int .i64 t268, (.slice Ao40 t269.length co40), .int .i64 t272, .int .i64 t273, .int .i64 t274, .int .i64 t275] 26 (0, 0))) ∧ Aside0 (Below w.heap.size w wc))
       case first =>
        have H := HC25.out
        clear HC25
        by_cases c46 : t261 = 0
        ·rw [if_pos c46] at H
         have c46b0 : (t261 == 0) = true := beq_iff_eq.mpr c46
         have c46b1 : (t261 != 0) = false := bne_eq_false_iff_eq.mpr c46
         clear c46
         (first | rw [c46b0] | (simp only [i64_w, i32_w]; rw [c46b0]) | skip)
         have H' := Aside0.mk H
         clear H
         go_wp2
         go_meet
         case rel => exact ⟨_, ((t276 != 0)), (by first | rfl | (simp; done) | (simp [*]; done)), H', ⟨by have := HJ3.out; first | omega | exact Nat.le_refl _⟩, ⟨by (with_reducible repeat (first | apply Kd.N_alloc | apply Kd.N_drewN | apply Kd.N_drew)); exact Kd.N_mono (Nf7 (g := gb277) (Kd.N_mono HO256.out (fun k_ hk => (⟨hk, hk.2.2.2⟩ : _ ∧ k_ ≠ gb277))) (fun _ hk => hk.2)) (fun _ hk => ⟨hk.1.1, ⟨hk.1.2.1, ⟨hk.1.2.2.1, hk.1.2.2.2⟩⟩⟩)⟩, ⟨by (with_reducible repeat (first | apply Kd.N_alloc | apply Kd.N_drewN | apply Kd.N_drew)); exact Kd.N_mono (Nf7 (g := gb277) (Kd.N_mono HO271.out (fun k_ hk => (⟨hk, hk.2.2.2⟩ : _ ∧ k_ ≠ gb277))) (fun _ hk => hk.2)) (fun _ hk => ⟨hk.1.1, ⟨hk.1.2.1, ⟨hk.1.2.2.1, hk.1.2.2.2⟩⟩⟩)⟩, ⟨kX1a BK248.out NB248_277.out⟩, ⟨kX1a BK262.out NB262_277.out⟩, ⟨kX0 BK277.out⟩, ⟨pE3 HB.out GE248.out GE262.out GE277.out⟩⟩
        ·rw [if_neg c46] at H
         have c46b0 : (t261 == 0) = false := beq_eq_false_iff_ne.mpr c46
         have c46b1 : (t261 != 0) = true := bne_iff_ne.mpr c46
         (first | rw [c46b0] | (simp only [i64_w, i32_w]; rw [c46b0]) | skip)
         have H' := Aside0.mk H
         clear H
         go_wp2
         go_meet
         case rel => exact ⟨_, (true), (by first | rfl | (simp; done) | (simp [*]; done)), H', ⟨by have := HJ3.out; first | omega | exact Nat.le_refl _⟩, ⟨by (with_reducible repeat (first | apply Kd.N_alloc | apply Kd.N_drewN | apply Kd.N_drew)); exact Kd.N_mono (Nf7 (g := gb277) (Kd.N_mono HO256.out (fun k_ hk => (⟨hk, hk.2.2.2⟩ : _ ∧ k_ ≠ gb277))) (fun _ hk => hk.2)) (fun _ hk => ⟨hk.1.1, ⟨hk.1.2.1, ⟨hk.1.2.2.1, hk.1.2.2.2⟩⟩⟩)⟩, ⟨by (with_reducible repeat (first | apply Kd.N_alloc | apply Kd.N_drewN | apply Kd.N_drew)); exact Kd.N_mono (Nf7 (g := gb277) (Kd.N_mono HO271.out (fun k_ hk => (⟨hk, hk.2.2.2⟩ : _ ∧ k_ ≠ gb277))) (fun _ hk => hk.2)) (fun _ hk => ⟨hk.1.1, ⟨hk.1.2.1, ⟨hk.1.2.2.1, hk.1.2.2.2⟩⟩⟩)⟩, ⟨kX1a BK248.out NB248_277.out⟩, ⟨kX1a BK262.out NB262_277.out⟩, ⟨kX0 BK277.out⟩, ⟨pE3 HB.out GE248.out GE262.out GE277.out⟩⟩
       case rest =>
        clear HC25
        try clear c1
        try clear c2
        try clear p2
        try clear c3
        try clear q3
        try clear c4
        try clear c6
        try clear p6
        try clear c7
        try clear c8
        try clear c9
        try clear c16
        try clear c19
        try clear c19b0
        try clear c19b1
        try clear c22
        try clear c22b0
        try clear c22b1
        try clear c23
        try clear c23b0
        try clear c23b1
        try clear c29
        try clear q34
        try clear c46
        try clear c46b0
        try clear c46b1
        try clear hcz10_0
        try clear hcz10_1
        try clear hcz10_2
        try clear hcz10_3
        try clear hcz10_4
        try clear hcz10_5
        try clear hcz10_6
        try clear hcz12_0
        try clear hcz12_1
        try clear hcz12_2
        try clear hcz12_3
        try clear hcz12_4
        try clear hcz12_5
        try clear hcz12_6
        try clear hcz14_0
        try clear hcz14_1
        try clear hcz14_2
        try clear hcz14_3
        try clear hcz14_4
        try clear hcz14_5
        try clear hcz14_6
        try clear hcz26_0
        try clear hcz26_1
        try clear hcz26_2
        try clear hcz26_3
        try clear hcz26_4
        try clear hcz26_5
        try clear hcz26_6
        try clear hcz30_0
        try clear hcz30_1
        try clear hcz30_2
        try clear hcz30_3
        try clear hcz30_4
        try clear hcz30_5
        try clear hcz30_6
        try clear hfz10_0
        try clear hfz10_1
        try clear hfz10_2
        try clear hfz10_3
        try clear hfz10_4
        try clear hfz10_5
        try clear hfz10_6
        try clear hfz12_0
        try clear hfz12_1
        try clear hfz12_2
        try clear hfz12_3
        try clear hfz12_4
        try clear hfz12_5
        try clear hfz12_6
        try clear hfz14_0
        try clear hfz14_1
        try clear hfz14_2
        try clear hfz14_3
        try clear hfz14_4
        try clear hfz14_5
        try clear hfz14_6
        try clear hfz26_0
        try clear hfz26_1
        try clear hfz26_2
        try clear hfz26_3
        try clear hfz26_4
        try clear hfz26_5
        try clear hfz26_6
        try clear hfz30_0
        try clear hfz30_1
        try clear hfz30_2
        try clear hfz30_3
        try clear hfz30_4
        try clear hfz30_5
        try clear hfz30_6
        try clear p2
        try clear q34
        obtain ⟨kq, x54_24, rfl, HA, HJ24, HO_263002, HO_278002, BK248, BK262, BK277, HB⟩ := hcut
        cases kq with
        | zero => exact absurd HA.out (by simp [garnerlaw23_RaftParts.j1])
        | succ kj24 =>
         have H := HA.out
         clear HA
         simp only [garnerlaw23_RaftParts.j1] at H
         by_cases c47 : x54_24 = true
         ·subst c47
          have H1 : ((garnerlaw23_awake.f kj24).bind fun t278 => (some t278)) = some r := by rw [if_pos rfl] at H; exact H
          clear H
          have H := H1
          clear H1
          replace H := Option.bind_eq_some_iff.mp H
          obtain ⟨t278, A480, H⟩ := H
          replace H : (some t278) = some r := H
          have A48 := Aside0.mk A480
          clear A480
          obtain rfl := Option.some.inj H
          go_wp2_with (first | ((with_reducible refine gate_callee (f := 8) rfl ?_); refine goesL_ (some 55) rfl rfl Try.func8 (by kernel_rfl) rfl #[] rfl pL ?_; (with_reducible refine (garnerlaw23_awake.calls kj24  t278 _ A48.out).mono ?_); rintro e w49 ⟨rfl, hb⟩; refine ⟨_, rfl, ?_⟩; have n0_ := Aside0.mk (Kd.N_below (pN HO_263002.out) hb); have n1_ := Aside0.mk (Kd.N_below (pN HO_278002.out) hb); have n2_ := Aside0.mk (kB BK248.out hb); have n3_ := Aside0.mk (kB BK262.out hb); have n4_ := Aside0.mk (kB BK277.out hb); have n5_ := Aside0.mk (below_step (pE3 HB.out GE248.out GE262.out GE277.out) hb); clear HO_263002 HO_278002 BK248 BK262 BK277 HB; have HO_263002 := n0_; have HO_278002 := n1_; have BK248 := n2_; have BK262 := n3_; have BK277 := n4_; have HB := n5_; clear n0_ n1_ n2_ n3_ n4_ n5_; (try clear hb); (try clear hb2); (try clear hk); (try clear hi)))
          go_ret
          exact ⟨by first | rfl | (simp [errW_none, errW_some] <;> rfl) | (simp only [← hji21]; first | rfl | (simp [errW_none, errW_some] <;> rfl)) | (simp [*, errW_none, errW_some] <;> rfl), pE3 HB.out GE248.out GE262.out GE277.out⟩
         ·replace c47 := Bool.eq_false_iff.mpr c47
          subst c47
          have H1 : (if 0 ≤ ji21 then (if ji21 ≤ (l1.length : Int) then ((raft_Put.f kj24 t267 t268 t269 t272 t273 t274 t275 (l1.drop (ji21 : Int).toNat)).bind fun bt283 => (if bt283.2.2.2.2.2.2.2 = 0 then ((garnerref23_Same.f kj24 bt283.1 bt283.2.1 bt283.2.2.1 bt283.2.2.2.1 bt283.2.2.2.2.1 bt283.2.2.2.2.2.1 bt283.2.2.2.2.2.2.1 t252 t253 t254 t257 t258 t259 t260).bind fun t294 => (if t294 = true then ((garnerlaw23_awake.f kj24).bind fun t295 => (some t295)) else (some false))) else (some false))) else (none)) else (none)) = some r := by rw [if_neg (show ¬ (false = true) by decide)] at H; exact H
          clear H
          have H := H1
          clear H1
          by_cases c50 : 0 ≤ ji21
          ·rw [if_pos c50] at H
           have c50b0 := eq_true c50
           have c50b1 : decide (0 ≤ ji21) = true := decide_eq_true c50
           clear c50
           by_cases c51 : ji21 ≤ (l1.length : Int)
           ·rw [if_pos c51] at H
            have c51b0 := eq_true c51
            have c51b1 : decide (ji21 ≤ (l1.length : Int)) = true := decide_eq_true c51
            clear c51
            obtain ⟨y279, hy279⟩ : ∃ y_ : List (S46), y_ = (l1.drop (ji21 : Int).toNat) := ⟨_, rfl⟩
            replace H : ((raft_Put.f kj24 t267 t268 t269 t272 t273 t274 t275 y279).bind fun bt283 => (if bt283.2.2.2.2.2.2.2 = 0 then ((garnerref23_Same.f kj24 bt283.1 bt283.2.1 bt283.2.2.1 bt283.2.2.2.1 bt283.2.2.2.2.1 bt283.2.2.2.2.2.1 bt283.2.2.2.2.2.2.1 t252 t253 t254 t257 t258 t259 t260).bind fun t294 => (if t294 = true then ((garnerlaw23_awake.f kj24).bind fun t295 => (some t295)) else (some false))) else (some false))) = some r := by first | (rw [hy279]; with_reducible exact H) | (have H2_ := (Option.bind_some _ _).symm.trans H; rw [hy279]; with_reducible exact H2_) | (have H2_ := (Option.bind_some _ _).symm.trans H; with_reducible exact H2_) | with_reducible exact H | (rw [hy279]; exact H) | exact H
            have Ny279 := Aside0.mk hy279
            clear hy279
            replace H := Option.bind_eq_some_iff.mp H
            obtain ⟨⟨t283, t284, t285, t288, t289, t290, t291, t292⟩, A520, H⟩ := H
            replace H : (if t292 = 0 then ((garnerref23_Same.f kj24 t283 t284 t285 t288 t289 t290 t291 t252 t253 t254 t257 t258 t259 t260).bind fun t294 => (if t294 = true then ((garnerlaw23_awake.f kj24).bind fun t295 => (some t295)) else (some false))) else (some false)) = some r := H
            have A52 := Aside0.mk A520
            clear A520
            by_cases c53 : t292 = 0
            ·rw [if_pos c53] at H
             have c53b0 : (t292 == 0) = true := beq_iff_eq.mpr c53
             have c53b1 : (t292 != 0) = false := bne_eq_false_iff_eq.mpr c53
             clear c53
             replace H := Option.bind_eq_some_iff.mp H
             obtain ⟨t294, A540, H⟩ := H
             replace H : (if t294 = true then ((garnerlaw23_awake.f kj24).bind fun t295 => (some t295)) else (some false)) = some r := H
             have A54 := Aside0.mk A540
             clear A540
             by_cases c55 : t294 = true
             ·subst c55
              have H1 : ((garnerlaw23_awake.f kj24).bind fun t295 => (some t295)) = some r := by rw [if_pos rfl] at H; exact H
              clear H
              have H := H1
              clear H1
              replace H := Option.bind_eq_some_iff.mp H
              obtain ⟨t295, A560, H⟩ := H
              replace H : (some t295) = some r := H
              have A56 := Aside0.mk A560
              clear A560
              obtain rfl := Option.some.inj H
              try go_wp2
              have n0_ := Aside0.mk (Kd.N_drew HO_263002.out)
              have n1_ := Aside0.mk (Kd.N_drew HO_278002.out)
              have n2_ := Aside0.mk (blk_drew BK248.out)
              have n3_ := Aside0.mk (blk_drew BK262.out)
              have n4_ := Aside0.mk (blk_drew BK277.out)
              have n5_ := Aside0.mk (below_drew1 HB.out)
              clear HO_263002
              clear HO_278002
              clear BK248
              clear BK262
              clear BK277
              clear HB
              have HO_263002 := n0_
              have HO_278002 := n1_
              have BK248 := n2_
              have BK262 := n3_
              have BK277 := n4_
              have HB := n5_
              clear n0_ n1_ n2_ n3_ n4_ n5_
              have q58 : (ji21 : Int) ≤ ((l1.length : Int) : Int) := of_decide_eq_true pS
              obtain ⟨i058, hi058, _, hsz58, _⟩ := info_parts info46
              have hroom58 : l1.length ≤ c1 := HC1.out
              have hC58 : Kd.C k46 _ A1 l1.length l1 := HR1.out
              have q058 : (0 : Int) ≤ (ji21 : Int) := of_decide_eq_true pS
              have hcut58 := cut_from (P := Try.prog) 22 46 .i64 Try.underlying22 hi058 10 hsz58 A1 l1.length c1 ji21 q058 q58
              have hr58 := Kd.C_drop (m := (ji21 : Int).toNat) (c := c1) hC58 (by omega) hroom58
              obtain ⟨A58, hA58⟩ : ∃ AX_, AX_ = (if c1 = (ji21 : Int).toNat then A1 else (A1 : Option Addr).map (·.add ((ji21 : Int).toNat * 10))) := ⟨_, rfl⟩
              obtain ⟨c58, hc58⟩ : ∃ cX_, cX_ = c1 - (ji21 : Int).toNat := ⟨_, rfl⟩
              have hy58 : y279.length = l1.length - (ji21 : Int).toNat := (by rw [Ny279.out, List.length_drop] <;> omega)
              rw [show (l1).drop (ji21 : Int).toNat = y279 from Ny279.out.symm] at hr58
              replace hr58 : Kd.C k46 _ A58 y279.length y279 := (by rw [hA58]; exact hr58)
              rw [← hy58, ← hA58, ← hc58] at hcut58
              have HR282 := Aside0.mk hr58
              have HC282 := Aside0.mk (show y279.length ≤ c58 from by rw [hy58, hc58]; exact Nat.sub_le_sub_right hroom58 _)
              clear hr58 hC58 hroom58 hi058 hsz58 hc58
              have KY58 := Aside0.mk hy58
              have KA58 := Aside0.mk hA58
              clear hy58 hA58
              replace q58 := eq_true q58
              refine start_ (n := 11) (S := fun w' => cG w' gb277 0 (.int .i64 t267) ∧ cG w' gb277 1 (.int .i64 t268) ∧ cG w' gb277 2 (.slice Ao40 t269.length co40) ∧ cG w' gb277 3 (.int .i64 t272) ∧ cG w' gb277 4 (.int .i64 t273) ∧ cG w' gb277 5 (.int .i64 t274) ∧ cG w' gb277 6 (.int .i64 t275)) (ds := []) #[false, false, false, false, false, false, false, false, false, false, false] (by kernel_rfl) rfl rfl ⟨(blk_cell BK277.out 0).trans rfl, (blk_cell BK277.out 1).trans rfl, (blk_cell BK277.out 2).trans rfl, (blk_cell BK277.out 3).trans rfl, (blk_cell BK277.out 4).trans rfl, (blk_cell BK277.out 5).trans rfl, (blk_cell BK277.out 6).trans rfl⟩ (fun hHeld => ?_); refine with_tabW garnerlaw23_RaftParts.tab8 garnerlaw23_RaftParts.bits8 (fun HT_ HW_ => ?_)
              (first | generalize wc.drew = w57 at HO_263002 HO_278002 BK248 BK262 BK277 HB HR282 hHeld ⊢ | generalize wc.drew = w57 at BK248 BK262 BK277 HB HR282 hHeld ⊢)
              refine pu 1 (some 58) (bw 11 2) HT_.out (h := ?_)
              refine pu 2 (some 59) (bw 11 6) HT_.out (h := ?_)
              refine pu 3 (some 60) (bw 11 14) HT_.out (h := ?_)
              refine tk 0 (some 57) (bw 11 15) HT_.out HW_.out hHeld (h := ?_)
              refine join_ (σ := Value × Nat) 2 #[true, true, true, true, true, true, true, true, true, false, false] (fun s_ => [(61, .tuple #[.agg #[.int .i64 t283, .int .i64 t284, s_.1, .int .i64 t288, .int .i64 t289, .int .i64 t290, .int .i64 t291], .int .i64 t292]), (12, .pointer (some ⟨s_.2, 0, none⟩)), (56, .tuple #[.agg #[.int .i64 t283, .int .i64 t284, s_.1, .int .i64 t288, .int .i64 t289, .int .i64 t290, .int .i64 t291], .int .i64 t292]), (62, .agg #[.int .i64 t283, .int .i64 t284, s_.1, .int .i64 t288, .int .i64 t289, .int .i64 t290, .int .i64 t291]), (63, .int .i64 t292)]) (fun s_ w' => (cG w' gb277 0 (.int .i64 t267) ∧ cG w' gb277 1 (.int .i64 t268) ∧ cG w' gb277 2 (.slice Ao40 t269.length co40) ∧ cG w' gb277 3 (.int .i64 t272) ∧ cG w' gb277 4 (.int .i64 t273) ∧ cG w' gb277 5 (.int .i64 t274) ∧ cG w' gb277 6 (.int .i64 t275)) ∧ (Kd.N k46 46 w' w.heap.size (fun k_ => some k_ ≠ (.slice Ao31 t254.length co31 : Value).ownBlock ∧ some k_ ≠ (.slice Ao40 t269.length co40 : Value).ownBlock ∧ k_ ≠ gb248 ∧ k_ ≠ gb262 ∧ k_ ≠ gb277 ∧ k_ ≠ s_.2) s_.1 t285) ∧ (Kd.N k46 46 w' w.heap.size (fun k_ => some k_ ≠ (s_.1 : Value).ownBlock ∧ some k_ ≠ (.slice Ao40 t269.length co40 : Value).ownBlock ∧ k_ ≠ gb248 ∧ k_ ≠ gb262 ∧ k_ ≠ gb277 ∧ k_ ≠ s_.2) (.slice Ao31 t254.length co31) t254) ∧ (Kd.N k46 46 w' w.heap.size (fun k_ => some k_ ≠ (s_.1 : Value).ownBlock ∧ some k_ ≠ (.slice Ao31 t254.length co31 : Value).ownBlock ∧ k_ ≠ gb248 ∧ k_ ≠ gb262 ∧ k_ ≠ gb277 ∧ k_ ≠ s_.2) (.slice Ao40 t269.length co40) t269) ∧ (w'.heap[gb248]? = some (.cells #[.int .i64 a0_0, .int .i64 a0_1, .slice A0_2 l0_2.length c0_2, .int .i64 a0_3, .int .i64 a0_4, .int .i64 a0_5, .int .i64 a0_6] 26 (0, 0))) ∧ (w'.heap[gb262]? = some (.cells #[.int .i64 t252, .int .i64 t253, .slice Ao31 t254.length co31, .int .i64 t257, .int .i64 t258, .int .i64 t259, .int .i64 t260] 26 (0, 0))) ∧ (w'.heap[gb277]? = some (.cells #[.int .i64 t267, .int .i64 t268, .slice Ao40 t269.length co40, .int .i64 t272, .int .i64 t273, .int .i64 t274, .int .i64 t275] 26 (0, 0))) ∧ (w'.heap[s_.2]? = some (.cells #[.int .i64 0, .int .i64 0, .slice none 0 0, .int .i64 0, .int .i64 0, .int .i64 0, .int .i64 0] 26 (0, 0))) ∧ (w.heap.size ≤ s_.2) ∧ (w.heap.size ≤ s_.2) ∧ (gb248 ≠ s_.2) ∧ (s_.2 ≠ gb248) ∧ (gb262 ≠ s_.2) ∧ (s_.2 ≠ gb262) ∧ (gb277 ≠ s_.2) ∧ (s_.2 ≠ gb277) ∧ (Below w.heap.size w w')) ?_ ?_
              rotate_left
              ·intro hCont
               refine two_ (i := 4) (j := 8) (Ni := some 61) (Nj := some 12) (bw 11 31) #[true, true, true, true, false, false, false, false, true, false, false] rfl rfl rfl rfl (two_of HT_.out (by kernel_rfl)) (by decide) (by decide) (fun K hK => ?_) (fun K hK => ?_)
               ·skip
                refine goes_ Try.func9 (by kernel_rfl) rfl #[.agg #[.int .i64 t267, .int .i64 t268, .slice Ao40 t269.length co40, .int .i64 t272, .int .i64 t273, .int .i64 t274, .int .i64 t275], .slice A58 y279.length c58] (by rfl) rfl rfl pL ?_
                with_reducible refine (raft_Put.calls kj24 t267 t268 _ _ t269 t272 t273 t274 t275 _ _ y279 t283 t284 t285 t288 t289 t290 t291 t292 _ ?side1 ?side2 ?side3 ?side4 A52.out).mono ?_
                (case side1 => exact pC (Kd.N_reads' HO_278002.out).2.2)
                (case side2 => exact (Kd.N_reads' HO_278002.out).2.1)
                (case side3 => exact pC (Kd.C_below HR282.out HB.out))
                (case side4 => exact HC282.out)
                rintro e w59 ⟨v286, rfl, ho0, hb⟩
                refine ⟨_, rfl, ?_⟩
                have n0_ := Aside0.mk (Kd.N_elder' (pN HO_263002.out) (Kd.N_base ho0) hb)
                have n1_ := Aside0.mk (Kd.N_elder' (pN HO_278002.out) (Kd.N_base ho0) hb)
                have n2_ := Aside0.mk (Kd.N_lower (Kd.N_mono (ok' := fun k_ => some k_ ≠ (.slice Ao31 t254.length co31 : Value).ownBlock ∧ some k_ ≠ (.slice Ao40 t269.length co40 : Value).ownBlock ∧ k_ ≠ gb248 ∧ k_ ≠ gb262 ∧ k_ ≠ gb277) ho0 (fun k_ hk_ => ⟨(Kd.fresh' (Kd.N_lt (pN HO_263002.out)) k_ hk_), (Kd.fresh' (Kd.N_lt (pN HO_278002.out)) k_ hk_), (kF BK248.out k_ hk_), (kF BK262.out k_ hk_), (kF BK277.out k_ hk_)⟩)) (below_size (pE3 HB.out GE248.out GE262.out GE277.out)))
                have n3_ := Aside0.mk (kB BK248.out hb)
                have n4_ := Aside0.mk (kB BK262.out hb)
                have n5_ := Aside0.mk (kB BK277.out hb)
                have n6_ := Aside0.mk (below_step (pE3 HB.out GE248.out GE262.out GE277.out) hb)
                clear HO_263002
                clear HO_278002
                clear BK248
                clear BK262
                clear BK277
                clear HB
                have HO_263002 := n0_
                have HO_278002 := n1_
                have HO287 := n2_
                have BK248 := n3_
                have BK262 := n4_
                have BK277 := n5_
                have HB := n6_
                clear n0_ n1_ n2_ n3_ n4_ n5_ n6_
                (try clear hb)
                (try clear hb2)
                (try clear hk)
                (try clear hi)
                (try clear ho0)
                refine hK.out _ _ ⟨(blk_cell BK277.out 0).trans rfl, (blk_cell BK277.out 1).trans rfl, (blk_cell BK277.out 2).trans rfl, (blk_cell BK277.out 3).trans rfl, (blk_cell BK277.out 4).trans rfl, (blk_cell BK277.out 5).trans rfl, (blk_cell BK277.out 6).trans rfl⟩ (fun hHeld => ?_)
                clear hK K
                refine norm_ (a' := ?_) ?_ ?_
                rotate_left
                ·show Act.put _ (some 61) _ = _
                 simp only [Act.put, List.setIfInBounds_toArray, List.set_cons_zero, List.set_cons_succ, i64_w, i32_w]
                 rfl
                refine pu 5 (some 56) (bw 11 63) HT_.out (h := ?_)
                refine pu 6 (some 62) (bw 11 127) HT_.out (h := ?_)
                refine pu 7 (some 63) (bw 11 255) HT_.out (h := ?_)
                refine one_ (i := 8) (N := some 12) (bw 11 511) rfl rfl (one_of HT_.out (by kernel_rfl)) (by decide) (fun K hK => ?_)
                refine box_step ?hg (N := 12) ?hd (cs := #[.int .i64 0, .int .i64 0, .slice none 0 0, .int .i64 0, .int .i64 0, .int .i64 0, .int .i64 0]) (t := 26) ?hr ?_; (case hd => rfl); (case hg => rfl); (case hr => first | (go_simp; done) | (go_simp; rfl))
                intro gb293 hg w60 hbox hb
                have n0_ := Aside0.mk (Kd.N_below (Kd.N_elderB (pN HO_263002.out) gb293 (Nat.le_of_eq hg.symm)) hb)
                have n1_ := Aside0.mk (Kd.N_below (Kd.N_elderB (pN HO_278002.out) gb293 (Nat.le_of_eq hg.symm)) hb)
                have n2_ := Aside0.mk (Kd.N_below (Kd.N_elderB (pN HO287.out) gb293 (Nat.le_of_eq hg.symm)) hb)
                have n3_ := Aside0.mk (kB BK248.out hb)
                have n4_ := Aside0.mk (kB BK262.out hb)
                have n5_ := Aside0.mk (kB BK277.out hb)
                have n6_ := Aside0.mk (below_step (pE3 HB.out GE248.out GE262.out GE277.out) hb)
                have n7_ := Aside0.mk (hbox)
                have n8_ := Aside0.mk ((by rw [hg]; exact (below_size (pE3 HB.out GE248.out GE262.out GE277.out)) : w.heap.size ≤ gb293))
                have n9_ := Aside0.mk ((by rw [hg]; exact (below_size (pE3 HB.out GE248.out GE262.out GE277.out)) : w.heap.size ≤ gb293))
                have n10_ := Aside0.mk ((by rw [hg]; exact Nat.ne_of_lt (kL BK248.out) : gb248 ≠ gb293))
                have n11_ := Aside0.mk ((by rw [hg]; exact Nat.ne_of_gt (kL BK248.out) : gb293 ≠ gb248))
                have n12_ := Aside0.mk ((by rw [hg]; exact Nat.ne_of_lt (kL BK262.out) : gb262 ≠ gb293))
                have n13_ := Aside0.mk ((by rw [hg]; exact Nat.ne_of_gt (kL BK262.out) : gb293 ≠ gb262))
                have n14_ := Aside0.mk ((by rw [hg]; exact Nat.ne_of_lt (kL BK277.out) : gb277 ≠ gb293))
                have n15_ := Aside0.mk ((by rw [hg]; exact Nat.ne_of_gt (kL BK277.out) : gb293 ≠ gb277))
                clear HO_263002
                clear HO_278002
                clear HO287
                clear BK248
                clear BK262
                clear BK277
                clear HB
                have HO_263002 := n0_
                have HO_278002 := n1_
                have HO287 := n2_
                have BK248 := n3_
                have BK262 := n4_
                have BK277 := n5_
                have HB := n6_
                have BK293 := n7_
                have GW293 := n8_
                have GE293 := n9_
                have NB248_293 := n10_
                have NB293_248 := n11_
                have NB262_293 := n12_
                have NB293_262 := n13_
                have NB277_293 := n14_
                have NB293_277 := n15_
                clear n0_ n1_ n2_ n3_ n4_ n5_ n6_ n7_ n8_ n9_ n10_ n11_ n12_ n13_ n14_ n15_
                clear hb hbox hg
                refine hK.out _ _ ⟨(blk_cell BK277.out 0).trans rfl, (blk_cell BK277.out 1).trans rfl, (blk_cell BK277.out 2).trans rfl, (blk_cell BK277.out 3).trans rfl, (blk_cell BK277.out 4).trans rfl, (blk_cell BK277.out 5).trans rfl, (blk_cell BK277.out 6).trans rfl⟩ (fun hHeld => ?_)
                clear hK K
                refine norm_ (a' := ?_) ?_ ?_
                rotate_left
                ·show Act.put _ (some 12) _ = _
                 simp only [Act.put, List.setIfInBounds_toArray, List.set_cons_zero, List.set_cons_succ, i64_w, i32_w]
                 rfl
                exact norm_ (by simp only [putAll, Act.put, List.setIfInBounds_toArray, List.set_cons_zero, List.set_cons_succ]) (hCont (v286, gb293) _ ⟨hHeld, (by (with_reducible repeat (first | apply Kd.N_alloc | apply Kd.N_drewN | apply Kd.N_drew)); exact Kd.N_mono HO287.out (fun _ hk => ⟨hk.1.1, ⟨hk.1.2.1, ⟨hk.1.2.2.1, ⟨hk.1.2.2.2.1, ⟨hk.1.2.2.2.2, hk.2⟩⟩⟩⟩⟩)), (by (with_reducible repeat (first | apply Kd.N_alloc | apply Kd.N_drewN | apply Kd.N_drew)); exact Kd.N_mono HO_263002.out (fun _ hk => ⟨hk.1.2, ⟨hk.1.1.1, ⟨hk.1.1.2.1, ⟨hk.1.1.2.2.1, ⟨hk.1.1.2.2.2, hk.2⟩⟩⟩⟩⟩)), (by (with_reducible repeat (first | apply Kd.N_alloc | apply Kd.N_drewN | apply Kd.N_drew)); exact Kd.N_mono HO_278002.out (fun _ hk => ⟨hk.1.2, ⟨hk.1.1.1, ⟨hk.1.1.2.1, ⟨hk.1.1.2.2.1, ⟨hk.1.1.2.2.2, hk.2⟩⟩⟩⟩⟩)), (pK BK248.out), (pK BK262.out), (pK BK277.out), (pK BK293.out), GW293.out, GE293.out, NB248_293.out, NB293_248.out, NB262_293.out, NB293_262.out, NB277_293.out, NB293_277.out, (by repeat (first | (with_reducible first | exact HB.out | apply below_alloc | apply pw_below_drewN | apply below_drew1 | refine below_set ?_ GE248.out | refine below_set ?_ GE262.out | refine below_set ?_ GE277.out | refine below_set ?_ GE293.out) | exact HB.out))⟩)
               ·skip
                refine box_step ?hg (N := 12) ?hd (cs := #[.int .i64 0, .int .i64 0, .slice none 0 0, .int .i64 0, .int .i64 0, .int .i64 0, .int .i64 0]) (t := 26) ?hr ?_; (case hd => rfl); (case hg => rfl); (case hr => first | (go_simp; done) | (go_simp; rfl))
                intro gb293 hg w59 hbox hb
                have n0_ := Aside0.mk (Kd.N_below (Kd.N_elderB (pN HO_263002.out) gb293 (Nat.le_of_eq hg.symm)) hb)
                have n1_ := Aside0.mk (Kd.N_below (Kd.N_elderB (pN HO_278002.out) gb293 (Nat.le_of_eq hg.symm)) hb)
                have n2_ := Aside0.mk (kB BK248.out hb)
                have n3_ := Aside0.mk (kB BK262.out hb)
                have n4_ := Aside0.mk (kB BK277.out hb)
                have n5_ := Aside0.mk (below_step (pE3 HB.out GE248.out GE262.out GE277.out) hb)
                have n6_ := Aside0.mk (hbox)
                have n7_ := Aside0.mk ((by rw [hg]; exact (below_size (pE3 HB.out GE248.out GE262.out GE277.out)) : w.heap.size ≤ gb293))
                have n8_ := Aside0.mk ((by rw [hg]; exact (below_size (pE3 HB.out GE248.out GE262.out GE277.out)) : w.heap.size ≤ gb293))
                have n9_ := Aside0.mk ((by rw [hg]; exact Nat.ne_of_lt (kL BK248.out) : gb248 ≠ gb293))
                have n10_ := Aside0.mk ((by rw [hg]; exact Nat.ne_of_gt (kL BK248.out) : gb293 ≠ gb248))
                have n11_ := Aside0.mk ((by rw [hg]; exact Nat.ne_of_lt (kL BK262.out) : gb262 ≠ gb293))
                have n12_ := Aside0.mk ((by rw [hg]; exact Nat.ne_of_gt (kL BK262.out) : gb293 ≠ gb262))
                have n13_ := Aside0.mk ((by rw [hg]; exact Nat.ne_of_lt (kL BK277.out) : gb277 ≠ gb293))
                have n14_ := Aside0.mk ((by rw [hg]; exact Nat.ne_of_gt (kL BK277.out) : gb293 ≠ gb277))
                clear HO_263002
                clear HO_278002
                clear BK248
                clear BK262
                clear BK277
                clear HB
                have HO_263002 := n0_
                have HO_278002 := n1_
                have BK248 := n2_
                have BK262 := n3_
                have BK277 := n4_
                have HB := n5_
                have BK293 := n6_
                have GW293 := n7_
                have GE293 := n8_
                have NB248_293 := n9_
                have NB293_248 := n10_
                have NB262_293 := n11_
                have NB293_262 := n12_
                have NB277_293 := n13_
                have NB293_277 := n14_
                clear n0_ n1_ n2_ n3_ n4_ n5_ n6_ n7_ n8_ n9_ n10_ n11_ n12_ n13_ n14_
                clear hb hbox hg
                refine hK.out _ _ ⟨(blk_cell BK277.out 0).trans rfl, (blk_cell BK277.out 1).trans rfl, (blk_cell BK277.out 2).trans rfl, (blk_cell BK277.out 3).trans rfl, (blk_cell BK277.out 4).trans rfl, (blk_cell BK277.out 5).trans rfl, (blk_cell BK277.out 6).trans rfl⟩ (fun hHeld => ?_)
                clear hK K
                refine norm_ (a' := ?_) ?_ ?_
                rotate_left
                ·show Act.put _ (some 12) _ = _
                 simp only [Act.put, List.setIfInBounds_toArray, List.set_cons_zero, List.set_cons_succ, i64_w, i32_w]
                 rfl
                refine one_ (i := 4) (N := some 61) (bw 11 287) rfl rfl (one_of HT_.out (by kernel_rfl)) (by decide) (fun K hK => ?_)
                refine goes_ Try.func9 (by kernel_rfl) rfl #[.agg #[.int .i64 t267, .int .i64 t268, .slice Ao40 t269.length co40, .int .i64 t272, .int .i64 t273, .int .i64 t274, .int .i64 t275], .slice A58 y279.length c58] (by rfl) rfl rfl pL ?_
                with_reducible refine (raft_Put.calls kj24 t267 t268 _ _ t269 t272 t273 t274 t275 _ _ y279 t283 t284 t285 t288 t289 t290 t291 t292 _ ?side1 ?side2 ?side3 ?side4 A52.out).mono ?_
                (case side1 => exact pC (Kd.N_reads' HO_278002.out).2.2)
                (case side2 => exact (Kd.N_reads' HO_278002.out).2.1)
                (case side3 => exact pC (Kd.C_below HR282.out HB.out))
                (case side4 => exact HC282.out)
                rintro e w60 ⟨v286, rfl, ho0, hb⟩
                refine ⟨_, rfl, ?_⟩
                have n0_ := Aside0.mk (Kd.N_elder' (pN HO_263002.out) (Kd.N_base ho0) hb)
                have n1_ := Aside0.mk (Kd.N_elder' (pN HO_278002.out) (Kd.N_base ho0) hb)
                have n2_ := Aside0.mk (Kd.N_lower (Kd.N_mono (ok' := fun k_ => some k_ ≠ (.slice Ao31 t254.length co31 : Value).ownBlock ∧ some k_ ≠ (.slice Ao40 t269.length co40 : Value).ownBlock ∧ k_ ≠ gb248 ∧ k_ ≠ gb262 ∧ k_ ≠ gb277 ∧ k_ ≠ gb293) ho0 (fun k_ hk_ => ⟨(Kd.fresh' (Kd.N_lt (pN HO_263002.out)) k_ hk_), (Kd.fresh' (Kd.N_lt (pN HO_278002.out)) k_ hk_), (kF BK248.out k_ hk_), (kF BK262.out k_ hk_), (kF BK277.out k_ hk_), (kF BK293.out k_ hk_)⟩)) (below_size (by repeat (first | (with_reducible first | exact HB.out | apply below_alloc | apply pw_below_drewN | apply below_drew1 | refine below_set ?_ GE248.out | refine below_set ?_ GE262.out | refine below_set ?_ GE277.out | refine below_set ?_ GE293.out) | exact HB.out))))
                have n3_ := Aside0.mk (kB BK248.out hb)
                have n4_ := Aside0.mk (kB BK262.out hb)
                have n5_ := Aside0.mk (kB BK277.out hb)
                have n6_ := Aside0.mk (kB BK293.out hb)
                have n7_ := Aside0.mk (below_step (by repeat (first | (with_reducible first | exact HB.out | apply below_alloc | apply pw_below_drewN | apply below_drew1 | refine below_set ?_ GE248.out | refine below_set ?_ GE262.out | refine below_set ?_ GE277.out | refine below_set ?_ GE293.out) | exact HB.out)) hb)
                clear HO_263002
                clear HO_278002
                clear BK248
                clear BK262
                clear BK277
                clear BK293
                clear HB
                have HO_263002 := n0_
                have HO_278002 := n1_
                have HO287 := n2_
                have BK248 := n3_
                have BK262 := n4_
                have BK277 := n5_
                have BK293 := n6_
                have HB := n7_
                clear n0_ n1_ n2_ n3_ n4_ n5_ n6_ n7_
                (try clear hb)
                (try clear hb2)
                (try clear hk)
                (try clear hi)
                (try clear ho0)
                refine hK.out _ _ ⟨(blk_cell BK277.out 0).trans rfl, (blk_cell BK277.out 1).trans rfl, (blk_cell BK277.out 2).trans rfl, (blk_cell BK277.out 3).trans rfl, (blk_cell BK277.out 4).trans rfl, (blk_cell BK277.out 5).trans rfl, (blk_cell BK277.out 6).trans rfl⟩ (fun hHeld => ?_)
                clear hK K
                refine norm_ (a' := ?_) ?_ ?_
                rotate_left
                ·show Act.put _ (some 61) _ = _
                 simp only [Act.put, List.setIfInBounds_toArray, List.set_cons_zero, List.set_cons_succ, i64_w, i32_w]
                 rfl
                refine pu 5 (some 56) (bw 11 319) HT_.out (h := ?_)
                refine pu 6 (some 62) (bw 11 383) HT_.out (h := ?_)
                refine pu 7 (some 63) (bw 11 511) HT_.out (h := ?_)
                exact norm_ (by simp only [putAll, Act.put, List.setIfInBounds_toArray, List.set_cons_zero, List.set_cons_succ]) (hCont (v286, gb293) _ ⟨hHeld, (pN HO287.out), (by (with_reducible repeat (first | apply Kd.N_alloc | apply Kd.N_drewN | apply Kd.N_drew)); exact Kd.N_mono HO_263002.out (fun _ hk => ⟨hk.2, ⟨hk.1.1.1, ⟨hk.1.1.2.1, ⟨hk.1.1.2.2.1, ⟨hk.1.1.2.2.2, hk.1.2⟩⟩⟩⟩⟩)), (by (with_reducible repeat (first | apply Kd.N_alloc | apply Kd.N_drewN | apply Kd.N_drew)); exact Kd.N_mono HO_278002.out (fun _ hk => ⟨hk.2, ⟨hk.1.1.1, ⟨hk.1.1.2.1, ⟨hk.1.1.2.2.1, ⟨hk.1.1.2.2.2, hk.1.2⟩⟩⟩⟩⟩)), (pK BK248.out), (pK BK262.out), (pK BK277.out), (pK BK293.out), GW293.out, GE293.out, NB248_293.out, NB293_248.out, NB262_293.out, NB293_262.out, NB277_293.out, NB293_277.out, (by repeat (first | (with_reducible first | exact HB.out | apply below_alloc | apply pw_below_drewN | apply below_drew1 | refine below_set ?_ GE248.out | refine below_set ?_ GE262.out | refine below_set ?_ GE277.out | refine below_set ?_ GE293.out) | exact HB.out))⟩)
              rintro ⟨v286, gb293⟩ w61 ⟨hS_, h0_, h1_, h2_, h3_, h4_, h5_, h6_, h7_, h8_, h9_, h10_, h11_, h12_, h13_, h14_, h15_⟩
              have n0_ : Aside0 (Kd.N k46 46 w61 w.heap.size (fun k_ => some k_ ≠ (.slice Ao31 t254.length co31 : Value).ownBlock ∧ some k_ ≠ (.slice Ao40 t269.length co40 : Value).ownBlock ∧ k_ ≠ gb248 ∧ k_ ≠ gb262 ∧ k_ ≠ gb277 ∧ k_ ≠ gb293) v286 t285) := ⟨h0_⟩
              have n1_ : Aside0 (Kd.N k46 46 w61 w.heap.size (fun k_ => some k_ ≠ (v286 : Value).ownBlock ∧ some k_ ≠ (.slice Ao40 t269.length co40 : Value).ownBlock ∧ k_ ≠ gb248 ∧ k_ ≠ gb262 ∧ k_ ≠ gb277 ∧ k_ ≠ gb293) (.slice Ao31 t254.length co31) t254) := ⟨h1_⟩
              have n2_ : Aside0 (Kd.N k46 46 w61 w.heap.size (fun k_ => some k_ ≠ (v286 : Value).ownBlock ∧ some k_ ≠ (.slice Ao31 t254.length co31 : Value).ownBlock ∧ k_ ≠ gb248 ∧ k_ ≠ gb262 ∧ k_ ≠ gb277 ∧ k_ ≠ gb293) (.slice Ao40 t269.length co40) t269) := ⟨h2_⟩
              have n3_ : Aside0 (w61.heap[gb248]? = some (.cells #[.int .i64 a0_0, .int .i64 a0_1, .slice A0_2 l0_2.length c0_2, .int .i64 a0_3, .int .i64 a0_4, .int .i64 a0_5, .int .i64 a0_6] 26 (0, 0))) := ⟨h3_⟩
              have n4_ : Aside0 (w61.heap[gb262]? = some (.cells #[.int .i64 t252, .int .i64 t253, .slice Ao31 t254.length co31, .int .i64 t257, .int .i64 t258, .int .i64 t259, .int .i64 t260] 26 (0, 0))) := ⟨h4_⟩
              have n5_ : Aside0 (w61.heap[gb277]? = some (.cells #[.int .i64 t267, .int .i64 t268, .slice Ao40 t269.length co40, .int .i64 t272, .int .i64 t273, .int .i64 t274, .int .i64 t275] 26 (0, 0))) := ⟨h5_⟩
              have n6_ : Aside0 (w61.heap[gb293]? = some (.cells #[.int .i64 0, .int .i64 0, .slice none 0 0, .int .i64 0, .int .i64 0, .int .i64 0, .int .i64 0] 26 (0, 0))) := ⟨h6_⟩
              have n7_ : Aside0 (w.heap.size ≤ gb293) := ⟨h7_⟩
              have n8_ : Aside0 (w.heap.size ≤ gb293) := ⟨h8_⟩
              have n9_ : Aside0 (gb248 ≠ gb293) := ⟨h9_⟩
              have n10_ : Aside0 (gb293 ≠ gb248) := ⟨h10_⟩
              have n11_ : Aside0 (gb262 ≠ gb293) := ⟨h11_⟩
              have n12_ : Aside0 (gb293 ≠ gb262) := ⟨h12_⟩
              have n13_ : Aside0 (gb277 ≠ gb293) := ⟨h13_⟩
              have n14_ : Aside0 (gb293 ≠ gb277) := ⟨h14_⟩
              have n15_ : Aside0 (Below w.heap.size w w61) := ⟨h15_⟩
              clear HO_263002
              clear HO_278002
              clear BK248
              clear BK262
              clear BK277
              clear HB
              clear h0_ h1_ h2_ h3_ h4_ h5_ h6_ h7_ h8_ h9_ h10_ h11_ h12_ h13_ h14_ h15_
              have HO287 := n0_
              have HO_263002 := n1_
              have HO_278002 := n2_
              have BK248 := n3_
              have BK262 := n4_
              have BK277 := n5_
              have BK293 := n6_
              have GW293 := n7_
              have GE293 := n8_
              have NB248_293 := n9_
              have NB293_248 := n10_
              have NB262_293 := n11_
              have NB293_262 := n12_
              have NB277_293 := n13_
              have NB293_277 := n14_
              have HB := n15_
              clear n0_ n1_ n2_ n3_ n4_ n5_ n6_ n7_ n8_ n9_ n10_ n11_ n12_ n13_ n14_ n15_
              have hHeld : w61.cell? ⟨gb277, 0, none⟩ = some (.int .i64 t267) ∧ w61.cell? ⟨gb277, 1, none⟩ = some (.int .i64 t268) ∧ w61.cell? ⟨gb277, 2, none⟩ = some (.slice Ao40 t269.length co40) ∧ w61.cell? ⟨gb277, 3, none⟩ = some (.int .i64 t272) ∧ w61.cell? ⟨gb277, 4, none⟩ = some (.int .i64 t273) ∧ w61.cell? ⟨gb277, 5, none⟩ = some (.int .i64 t274) ∧ w61.cell? ⟨gb277, 6, none⟩ = some (.int .i64 t275) := hS_
              obtain ⟨Ao64, co64, eo64⟩ := Kd.N_slice HO287.out
              (first | subst eo64 | (injection eo64 with f1_ f2_ f3_; have f4_ := f1_.symm; have f5_ := f3_.symm; clear f1_ f2_ f3_; subst f4_; subst f5_))
              refine norm_ (a' := ?_) ?_ ?_
              rotate_left
              ·simp only [putAll, Act.put, List.setIfInBounds_toArray, List.set_cons_zero, List.set_cons_succ]
               rfl
              refine one_ (i := 9) (N := none) (bw 11 1023) rfl rfl (one_of HT_.out (by kernel_rfl)) (by decide) (fun K hK => ?_)
              have hs62 : w61.cell? ⟨gb293, 0, none⟩ = some (.int .i64 0) := (blk_cell BK293.out 0).trans rfl
              have hfs62 := blk_frozen BK293.out 0
              have hns62_0 := NB248_293.out
              have hns62_1 := NB262_293.out
              have hns62_2 := NB277_293.out
              have hms62_0 := NB293_248.out
              have hms62_1 := NB293_262.out
              have hms62_2 := NB293_277.out
              have hs63 : w61.cell? ⟨gb293, 1, none⟩ = some (.int .i64 0) := (blk_cell BK293.out 1).trans rfl
              have hfs63 := blk_frozen BK293.out 1
              have hns63_0 := NB248_293.out
              have hns63_1 := NB262_293.out
              have hns63_2 := NB277_293.out
              have hms63_0 := NB293_248.out
              have hms63_1 := NB293_262.out
              have hms63_2 := NB293_277.out
              have hs65 : w61.cell? ⟨gb293, 2, none⟩ = some (.slice none 0 0) := (blk_cell BK293.out 2).trans rfl
              have hfs65 := blk_frozen BK293.out 2
              have hns65_0 := NB248_293.out
              have hns65_1 := NB262_293.out
              have hns65_2 := NB277_293.out
              have hms65_0 := NB293_248.out
              have hms65_1 := NB293_262.out
              have hms65_2 := NB293_277.out
              have hs66 : w61.cell? ⟨gb293, 3, none⟩ = some (.int .i64 0) := (blk_cell BK293.out 3).trans rfl
              have hfs66 := blk_frozen BK293.out 3
              have hns66_0 := NB248_293.out
              have hns66_1 := NB262_293.out
              have hns66_2 := NB277_293.out
              have hms66_0 := NB293_248.out
              have hms66_1 := NB293_262.out
              have hms66_2 := NB293_277.out
              have hs67 : w61.cell? ⟨gb293, 4, none⟩ = some (.int .i64 0) := (blk_cell BK293.out 4).trans rfl
              have hfs67 := blk_frozen BK293.out 4
              have hns67_0 := NB248_293.out
              have hns67_1 := NB262_293.out
              have hns67_2 := NB277_293.out
              have hms67_0 := NB293_248.out
              have hms67_1 := NB293_262.out
              have hms67_2 := NB293_277.out
              have hs68 : w61.cell? ⟨gb293, 5, none⟩ = some (.int .i64 0) := (blk_cell BK293.out 5).trans rfl
              have hfs68 := blk_frozen BK293.out 5
              have hns68_0 := NB248_293.out
              have hns68_1 := NB262_293.out
              have hns68_2 := NB277_293.out
              have hms68_0 := NB293_248.out
              have hms68_1 := NB293_262.out
              have hms68_2 := NB293_277.out
              have hs69 : w61.cell? ⟨gb293, 6, none⟩ = some (.int .i64 0) := (blk_cell BK293.out 6).trans rfl
              have hfs69 := blk_frozen BK293.out 6
              have hns69_0 := NB248_293.out
              have hns69_1 := NB262_293.out
              have hns69_2 := NB277_293.out
              have hms69_0 := NB293_248.out
              have hms69_1 := NB293_262.out
              have hms69_2 := NB293_277.out
              refine skip_ (w1 := ?_) (by rfl) rfl ?_ ?_
              rotate_left
              ·go_simp
               rfl
              refine hK.out _ _ ⟨(cX1 hHeld.1 NB277_293.out), (cX1 hHeld.2.1 NB277_293.out), (cX1 hHeld.2.2.1 NB277_293.out), (cX1 hHeld.2.2.2.1 NB277_293.out), (cX1 hHeld.2.2.2.2.1 NB277_293.out), (cX1 hHeld.2.2.2.2.2.1 NB277_293.out), (cX1 hHeld.2.2.2.2.2.2 NB277_293.out)⟩ (fun hHeld => ?_)
              clear hK K
              refine pu 10 (some 13) (bw 11 2047) HT_.out (h := ?_)
              refine done_ (done_of HT_.out (by kernel_rfl)) ?_
              have hnb70 := NB293_248.out
              have hnc70 := NB248_293.out
              have hnb71 := NB293_262.out
              have hnc71 := NB262_293.out
              have hnb72 := NB293_277.out
              have hnc72 := NB277_293.out
              obtain ⟨hcz73_0, hcz73_1, hcz73_2, hcz73_3, hcz73_4, hcz73_5, hcz73_6⟩ := bc7 BK293.out
              obtain ⟨hfz73_0, hfz73_1, hfz73_2, hfz73_3, hfz73_4, hfz73_5, hfz73_6⟩ := bf7 BK293.out
              have hnb74 := NB262_248.out
              have hnc74 := NB248_262.out
              have hnb75 := NB262_277.out
              have hnc75 := NB277_262.out
              obtain ⟨hcz76_0, hcz76_1, hcz76_2, hcz76_3, hcz76_4, hcz76_5, hcz76_6⟩ := bc7 BK262.out
              obtain ⟨hfz76_0, hfz76_1, hfz76_2, hfz76_3, hfz76_4, hfz76_5, hfz76_6⟩ := bf7 BK262.out
              try go_wp2_with (first | (go_at_call 10; (with_reducible refine (garnerref23_Same.calls kj24 t283 t284 _ _ t285 t288 t289 t290 t291 t252 t253 _ _ t254 t257 t258 t259 t260 true _ ?side1 ?side2 ?side3 ?side4 A54.out).mono ?_); (case side1 => refine (Kd.N_reads' (e := 46) (base := w.heap.size) (ok := fun k_ => (some k_ ≠ (.slice Ao31 t254.length co31 : Value).ownBlock ∧ (some k_ ≠ (.slice Ao40 t269.length co40 : Value).ownBlock ∧ (k_ ≠ gb248 ∧ (k_ ≠ gb262 ∧ (k_ ≠ gb277 ∧ k_ ≠ gb293)))))) (n := t285.length) (c := co64) ?_).2.2; exact (by (with_reducible repeat (first | apply Kd.N_alloc | apply Kd.N_drewN | apply Kd.N_drew)); exact (Kd.N_mono (Nf7 (g := gb293) (Kd.N_mono HO287.out (fun k_ hk => (⟨hk, hk.2.2.2.2.2⟩ : _ ∧ k_ ≠ gb293))) (fun _ hk => hk.2)) (fun _ h_ => h_.1)))); (case side2 => exact (Kd.N_reads' HO287.out).2.1); (case side3 => refine (Kd.N_reads' (e := 46) (base := w.heap.size) (ok := fun k_ => (some k_ ≠ (.slice Ao64 t285.length co64 : Value).ownBlock ∧ (some k_ ≠ (.slice Ao40 t269.length co40 : Value).ownBlock ∧ (k_ ≠ gb248 ∧ (k_ ≠ gb262 ∧ (k_ ≠ gb277 ∧ k_ ≠ gb293)))))) (n := t254.length) (c := co31) ?_).2.2; exact (by (with_reducible repeat (first | apply Kd.N_alloc | apply Kd.N_drewN | apply Kd.N_drew)); exact (Kd.N_mono (Nf7 (g := gb293) (Kd.N_mono HO_263002.out (fun k_ hk => (⟨hk, hk.2.2.2.2.2⟩ : _ ∧ k_ ≠ gb293))) (fun _ hk => hk.2)) (fun _ h_ => h_.1)))); (case side4 => exact (Kd.N_reads' HO_263002.out).2.1); rintro e w77 ⟨rfl, hb⟩; have n0_ := Aside0.mk (Kd.N_below (by (with_reducible repeat (first | apply Kd.N_alloc | apply Kd.N_drewN | apply Kd.N_drew)); exact (Kd.N_mono (Nf7 (g := gb293) (Kd.N_mono HO_263002.out (fun k_ hk => (⟨hk, hk.2.2.2.2.2⟩ : _ ∧ k_ ≠ gb293))) (fun _ hk => hk.2)) (fun _ h_ => h_.1))) hb); have n1_ := Aside0.mk (Kd.N_below (by (with_reducible repeat (first | apply Kd.N_alloc | apply Kd.N_drewN | apply Kd.N_drew)); exact (Kd.N_mono (Nf7 (g := gb293) (Kd.N_mono HO_278002.out (fun k_ hk => (⟨hk, hk.2.2.2.2.2⟩ : _ ∧ k_ ≠ gb293))) (fun _ hk => hk.2)) (fun _ h_ => h_.1))) hb); have n2_ := Aside0.mk (Kd.N_below (by (with_reducible repeat (first | apply Kd.N_alloc | apply Kd.N_drewN | apply Kd.N_drew)); exact (Kd.N_mono (Nf7 (g := gb293) (Kd.N_mono HO287.out (fun k_ hk => (⟨hk, hk.2.2.2.2.2⟩ : _ ∧ k_ ≠ gb293))) (fun _ hk => hk.2)) (fun _ h_ => h_.1))) hb); have n3_ := Aside0.mk (blk_below (g := gb248) (kX1a BK248.out NB248_293.out) hb); have n4_ := Aside0.mk (blk_below (g := gb262) (kX1a BK262.out NB262_293.out) hb); have n5_ := Aside0.mk (blk_below (g := gb277) (kX1a BK277.out NB277_293.out) hb); have n6_ := Aside0.mk (blk_below (g := gb293) (kX0 BK293.out) hb); have n7_ := Aside0.mk (below_step (by repeat (first | (with_reducible first | exact HB.out | apply below_alloc | apply pw_below_drewN | apply below_drew1 | refine below_set ?_ GE248.out | refine below_set ?_ GE262.out | refine below_set ?_ GE277.out | refine below_set ?_ GE293.out) | exact HB.out)) hb); clear HO_263002 HO_278002 HO287 BK248 BK262 BK277 BK293 HB; have HO_263002 := n0_; have HO_278002 := n1_; have HO287 := n2_; have BK248 := n3_; have BK262 := n4_; have BK277 := n5_; have BK293 := n6_; have HB := n7_; clear n0_ n1_ n2_ n3_ n4_ n5_ n6_ n7_; (try clear hb); (try clear hb2); (try clear hk); (try clear hi)) | (go_at_call 8; (with_reducible refine (garnerlaw23_awake.calls kj24  t295 _ A56.out).mono ?_); rintro e w78 ⟨rfl, hb⟩; have n0_ := Aside0.mk (Kd.N_below (pN HO_263002.out) hb); have n1_ := Aside0.mk (Kd.N_below (pN HO_278002.out) hb); have n2_ := Aside0.mk (Kd.N_below (pN HO287.out) hb); have n3_ := Aside0.mk (kB BK248.out hb); have n4_ := Aside0.mk (kB BK262.out hb); have n5_ := Aside0.mk (kB BK277.out hb); have n6_ := Aside0.mk (kB BK293.out hb); have n7_ := Aside0.mk (below_step (by repeat (first | (with_reducible first | exact HB.out | apply below_alloc | apply pw_below_drewN | apply below_drew1 | refine below_set ?_ GE248.out | refine below_set ?_ GE262.out | refine below_set ?_ GE277.out | refine below_set ?_ GE293.out) | exact HB.out)) hb); clear HO_263002 HO_278002 HO287 BK248 BK262 BK277 BK293 HB; have HO_263002 := n0_; have HO_278002 := n1_; have HO287 := n2_; have BK248 := n3_; have BK262 := n4_; have BK277 := n5_; have BK293 := n6_; have HB := n7_; clear n0_ n1_ n2_ n3_ n4_ n5_ n6_ n7_; (try clear hb); (try clear hb2); (try clear hk); (try clear hi)))
              go_ret
              exact ⟨by first | rfl | (simp [errW_none, errW_some] <;> rfl) | (simp only [← hji21]; first | rfl | (simp [errW_none, errW_some] <;> rfl)) | (simp [*, errW_none, errW_some] <;> rfl), by repeat (first | (with_reducible first | exact HB.out | apply below_alloc | apply pw_below_drewN | apply below_drew1 | refine below_set ?_ GE248.out | refine below_set ?_ GE262.out | refine below_set ?_ GE277.out | refine below_set ?_ GE293.out) | exact HB.out)⟩
             ·replace c55 := Bool.eq_false_iff.mpr c55
              subst c55
              have H1 : (some false) = some r := by rw [if_neg (show ¬ (false = true) by decide)] at H; exact H
              clear H
              have H := H1
              clear H1
              obtain rfl := Option.some.inj H
              try go_wp2
              have n0_ := Aside0.mk (Kd.N_drew HO_263002.out)
              have n1_ := Aside0.mk (Kd.N_drew HO_278002.out)
              have n2_ := Aside0.mk (blk_drew BK248.out)
              have n3_ := Aside0.mk (blk_drew BK262.out)
              have n4_ := Aside0.mk (blk_drew BK277.out)
              have n5_ := Aside0.mk (below_drew1 HB.out)
              clear HO_263002
              clear HO_278002
              clear BK248
              clear BK262
              clear BK277
              clear HB
              have HO_263002 := n0_
              have HO_278002 := n1_
              have BK248 := n2_
              have BK262 := n3_
              have BK277 := n4_
              have HB := n5_
              clear n0_ n1_ n2_ n3_ n4_ n5_
              have q80 : (ji21 : Int) ≤ ((l1.length : Int) : Int) := of_decide_eq_true pS
              obtain ⟨i080, hi080, _, hsz80, _⟩ := info_parts info46
              have hroom80 : l1.length ≤ c1 := HC1.out
              have hC80 : Kd.C k46 _ A1 l1.length l1 := HR1.out
              have q080 : (0 : Int) ≤ (ji21 : Int) := of_decide_eq_true pS
              have hcut80 := cut_from (P := Try.prog) 22 46 .i64 Try.underlying22 hi080 10 hsz80 A1 l1.length c1 ji21 q080 q80
              have hr80 := Kd.C_drop (m := (ji21 : Int).toNat) (c := c1) hC80 (by omega) hroom80
              obtain ⟨A80, hA80⟩ : ∃ AX_, AX_ = (if c1 = (ji21 : Int).toNat then A1 else (A1 : Option Addr).map (·.add ((ji21 : Int).toNat * 10))) := ⟨_, rfl⟩
              obtain ⟨c80, hc80⟩ : ∃ cX_, cX_ = c1 - (ji21 : Int).toNat := ⟨_, rfl⟩
              have hy80 : y279.length = l1.length - (ji21 : Int).toNat := (by rw [Ny279.out, List.length_drop] <;> omega)
              rw [show (l1).drop (ji21 : Int).toNat = y279 from Ny279.out.symm] at hr80
              replace hr80 : Kd.C k46 _ A80 y279.length y279 := (by rw [hA80]; exact hr80)
              rw [← hy80, ← hA80, ← hc80] at hcut80
              have HR282 := Aside0.mk hr80
              have HC282 := Aside0.mk (show y279.length ≤ c80 from by rw [hy80, hc80]; exact Nat.sub_le_sub_right hroom80 _)
              clear hr80 hC80 hroom80 hi080 hsz80 hc80
              have KY80 := Aside0.mk hy80
              have KA80 := Aside0.mk hA80
              clear hy80 hA80
              replace q80 := eq_true q80
              refine start_ (n := 11) (S := fun w' => cG w' gb277 0 (.int .i64 t267) ∧ cG w' gb277 1 (.int .i64 t268) ∧ cG w' gb277 2 (.slice Ao40 t269.length co40) ∧ cG w' gb277 3 (.int .i64 t272) ∧ cG w' gb277 4 (.int .i64 t273) ∧ cG w' gb277 5 (.int .i64 t274) ∧ cG w' gb277 6 (.int .i64 t275)) (ds := []) #[false, false, false, false, false, false, false, false, false, false, false] (by kernel_rfl) rfl rfl ⟨(blk_cell BK277.out 0).trans rfl, (blk_cell BK277.out 1).trans rfl, (blk_cell BK277.out 2).trans rfl, (blk_cell BK277.out 3).trans rfl, (blk_cell BK277.out 4).trans rfl, (blk_cell BK277.out 5).trans rfl, (blk_cell BK277.out 6).trans rfl⟩ (fun hHeld => ?_); refine with_tabW garnerlaw23_RaftParts.tab8 garnerlaw23_RaftParts.bits8 (fun HT_ HW_ => ?_)
              (first | generalize wc.drew = w79 at HO_263002 HO_278002 BK248 BK262 BK277 HB HR282 hHeld ⊢ | generalize wc.drew = w79 at BK248 BK262 BK277 HB HR282 hHeld ⊢)
              refine pu 1 (some 58) (bw 11 2) HT_.out (h := ?_)
              refine pu 2 (some 59) (bw 11 6) HT_.out (h := ?_)
              refine pu 3 (some 60) (bw 11 14) HT_.out (h := ?_)
              refine tk 0 (some 57) (bw 11 15) HT_.out HW_.out hHeld (h := ?_)
              refine join_ (σ := Value × Nat) 2 #[true, true, true, true, true, true, true, true, true, false, false] (fun s_ => [(61, .tuple #[.agg #[.int .i64 t283, .int .i64 t284, s_.1, .int .i64 t288, .int .i64 t289, .int .i64 t290, .int .i64 t291], .int .i64 t292]), (12, .pointer (some ⟨s_.2, 0, none⟩)), (56, .tuple #[.agg #[.int .i64 t283, .int .i64 t284, s_.1, .int .i64 t288, .int .i64 t289, .int .i64 t290, .int .i64 t291], .int .i64 t292]), (62, .agg #[.int .i64 t283, .int .i64 t284, s_.1, .int .i64 t288, .int .i64 t289, .int .i64 t290, .int .i64 t291]), (63, .int .i64 t292)]) (fun s_ w' => (cG w' gb277 0 (.int .i64 t267) ∧ cG w' gb277 1 (.int .i64 t268) ∧ cG w' gb277 2 (.slice Ao40 t269.length co40) ∧ cG w' gb277 3 (.int .i64 t272) ∧ cG w' gb277 4 (.int .i64 t273) ∧ cG w' gb277 5 (.int .i64 t274) ∧ cG w' gb277 6 (.int .i64 t275)) ∧ (Kd.N k46 46 w' w.heap.size (fun k_ => some k_ ≠ (.slice Ao31 t254.length co31 : Value).ownBlock ∧ some k_ ≠ (.slice Ao40 t269.length co40 : Value).ownBlock ∧ k_ ≠ gb248 ∧ k_ ≠ gb262 ∧ k_ ≠ gb277 ∧ k_ ≠ s_.2) s_.1 t285) ∧ (Kd.N k46 46 w' w.heap.size (fun k_ => some k_ ≠ (s_.1 : Value).ownBlock ∧ some k_ ≠ (.slice Ao40 t269.length co40 : Value).ownBlock ∧ k_ ≠ gb248 ∧ k_ ≠ gb262 ∧ k_ ≠ gb277 ∧ k_ ≠ s_.2) (.slice Ao31 t254.length co31) t254) ∧ (Kd.N k46 46 w' w.heap.size (fun k_ => some k_ ≠ (s_.1 : Value).ownBlock ∧ some k_ ≠ (.slice Ao31 t254.length co31 : Value).ownBlock ∧ k_ ≠ gb248 ∧ k_ ≠ gb262 ∧ k_ ≠ gb277 ∧ k_ ≠ s_.2) (.slice Ao40 t269.length co40) t269) ∧ (w'.heap[gb248]? = some (.cells #[.int .i64 a0_0, .int .i64 a0_1, .slice A0_2 l0_2.length c0_2, .int .i64 a0_3, .int .i64 a0_4, .int .i64 a0_5, .int .i64 a0_6] 26 (0, 0))) ∧ (w'.heap[gb262]? = some (.cells #[.int .i64 t252, .int .i64 t253, .slice Ao31 t254.length co31, .int .i64 t257, .int .i64 t258, .int .i64 t259, .int .i64 t260] 26 (0, 0))) ∧ (w'.heap[gb277]? = some (.cells #[.int .i64 t267, .int .i64 t268, .slice Ao40 t269.length co40, .int .i64 t272, .int .i64 t273, .int .i64 t274, .int .i64 t275] 26 (0, 0))) ∧ (w'.heap[s_.2]? = some (.cells #[.int .i64 0, .int .i64 0, .slice none 0 0, .int .i64 0, .int .i64 0, .int .i64 0, .int .i64 0] 26 (0, 0))) ∧ (w.heap.size ≤ s_.2) ∧ (w.heap.size ≤ s_.2) ∧ (gb248 ≠ s_.2) ∧ (s_.2 ≠ gb248) ∧ (gb262 ≠ s_.2) ∧ (s_.2 ≠ gb262) ∧ (gb277 ≠ s_.2) ∧ (s_.2 ≠ gb277) ∧ (Below w.heap.size w w')) ?_ ?_
              rotate_left
              ·intro hCont
               refine two_ (i := 4) (j := 8) (Ni := some 61) (Nj := some 12) (bw 11 31) #[true, true, true, true, false, false, false, false, true, false, false] rfl rfl rfl rfl (two_of HT_.out (by kernel_rfl)) (by decide) (by decide) (fun K hK => ?_) (fun K hK => ?_)
               ·skip
                refine goes_ Try.func9 (by kernel_rfl) rfl #[.agg #[.int .i64 t267, .int .i64 t268, .slice Ao40 t269.length co40, .int .i64 t272, .int .i64 t273, .int .i64 t274, .int .i64 t275], .slice A80 y279.length c80] (by rfl) rfl rfl pL ?_
                with_reducible refine (raft_Put.calls kj24 t267 t268 _ _ t269 t272 t273 t274 t275 _ _ y279 t283 t284 t285 t288 t289 t290 t291 t292 _ ?side1 ?side2 ?side3 ?side4 A52.out).mono ?_
                (case side1 => exact pC (Kd.N_reads' HO_278002.out).2.2)
                (case side2 => exact (Kd.N_reads' HO_278002.out).2.1)
                (case side3 => exact pC (Kd.C_below HR282.out HB.out))
                (case side4 => exact HC282.out)
                rintro e w81 ⟨v286, rfl, ho0, hb⟩
                refine ⟨_, rfl, ?_⟩
                have n0_ := Aside0.mk (Kd.N_elder' (pN HO_263002.out) (Kd.N_base ho0) hb)
                have n1_ := Aside0.mk (Kd.N_elder' (pN HO_278002.out) (Kd.N_base ho0) hb)
                have n2_ := Aside0.mk (Kd.N_lower (Kd.N_mono (ok' := fun k_ => some k_ ≠ (.slice Ao31 t254.length co31 : Value).ownBlock ∧ some k_ ≠ (.slice Ao40 t269.length co40 : Value).ownBlock ∧ k_ ≠ gb248 ∧ k_ ≠ gb262 ∧ k_ ≠ gb277) ho0 (fun k_ hk_ => ⟨(Kd.fresh' (Kd.N_lt (pN HO_263002.out)) k_ hk_), (Kd.fresh' (Kd.N_lt (pN HO_278002.out)) k_ hk_), (kF BK248.out k_ hk_), (kF BK262.out k_ hk_), (kF BK277.out k_ hk_)⟩)) (below_size (pE3 HB.out GE248.out GE262.out GE277.out)))
                have n3_ := Aside0.mk (kB BK248.out hb)
                have n4_ := Aside0.mk (kB BK262.out hb)
                have n5_ := Aside0.mk (kB BK277.out hb)
                have n6_ := Aside0.mk (below_step (pE3 HB.out GE248.out GE262.out GE277.out) hb)
                clear HO_263002
                clear HO_278002
                clear BK248
                clear BK262
                clear BK277
                clear HB
                have HO_263002 := n0_
                have HO_278002 := n1_
                have HO287 := n2_
                have BK248 := n3_
                have BK262 := n4_
                have BK277 := n5_
                have HB := n6_
                clear n0_ n1_ n2_ n3_ n4_ n5_ n6_
                (try clear hb)
                (try clear hb2)
                (try clear hk)
                (try clear hi)
                (try clear ho0)
                refine hK.out _ _ ⟨(blk_cell BK277.out 0).trans rfl, (blk_cell BK277.out 1).trans rfl, (blk_cell BK277.out 2).trans rfl, (blk_cell BK277.out 3).trans rfl, (blk_cell BK277.out 4).trans rfl, (blk_cell BK277.out 5).trans rfl, (blk_cell BK277.out 6).trans rfl⟩ (fun hHeld => ?_)
                clear hK K
                refine norm_ (a' := ?_) ?_ ?_
                rotate_left
                ·show Act.put _ (some 61) _ = _
                 simp only [Act.put, List.setIfInBounds_toArray, List.set_cons_zero, List.set_cons_succ, i64_w, i32_w]
                 rfl
                refine pu 5 (some 56) (bw 11 63) HT_.out (h := ?_)
                refine pu 6 (some 62) (bw 11 127) HT_.out (h := ?_)
                refine pu 7 (some 63) (bw 11 255) HT_.out (h := ?_)
                refine one_ (i := 8) (N := some 12) (bw 11 511) rfl rfl (one_of HT_.out (by kernel_rfl)) (by decide) (fun K hK => ?_)
                refine box_step ?hg (N := 12) ?hd (cs := #[.int .i64 0, .int .i64 0, .slice none 0 0, .int .i64 0, .int .i64 0, .int .i64 0, .int .i64 0]) (t := 26) ?hr ?_; (case hd => rfl); (case hg => rfl); (case hr => first | (go_simp; done) | (go_simp; rfl))
                intro gb293 hg w82 hbox hb
                have n0_ := Aside0.mk (Kd.N_below (Kd.N_elderB (pN HO_263002.out) gb293 (Nat.le_of_eq hg.symm)) hb)
                have n1_ := Aside0.mk (Kd.N_below (Kd.N_elderB (pN HO_278002.out) gb293 (Nat.le_of_eq hg.symm)) hb)
                have n2_ := Aside0.mk (Kd.N_below (Kd.N_elderB (pN HO287.out) gb293 (Nat.le_of_eq hg.symm)) hb)
                have n3_ := Aside0.mk (kB BK248.out hb)
                have n4_ := Aside0.mk (kB BK262.out hb)
                have n5_ := Aside0.mk (kB BK277.out hb)
                have n6_ := Aside0.mk (below_step (pE3 HB.out GE248.out GE262.out GE277.out) hb)
                have n7_ := Aside0.mk (hbox)
                have n8_ := Aside0.mk ((by rw [hg]; exact (below_size (pE3 HB.out GE248.out GE262.out GE277.out)) : w.heap.size ≤ gb293))
                have n9_ := Aside0.mk ((by rw [hg]; exact (below_size (pE3 HB.out GE248.out GE262.out GE277.out)) : w.heap.size ≤ gb293))
                have n10_ := Aside0.mk ((by rw [hg]; exact Nat.ne_of_lt (kL BK248.out) : gb248 ≠ gb293))
                have n11_ := Aside0.mk ((by rw [hg]; exact Nat.ne_of_gt (kL BK248.out) : gb293 ≠ gb248))
                have n12_ := Aside0.mk ((by rw [hg]; exact Nat.ne_of_lt (kL BK262.out) : gb262 ≠ gb293))
                have n13_ := Aside0.mk ((by rw [hg]; exact Nat.ne_of_gt (kL BK262.out) : gb293 ≠ gb262))
                have n14_ := Aside0.mk ((by rw [hg]; exact Nat.ne_of_lt (kL BK277.out) : gb277 ≠ gb293))
                have n15_ := Aside0.mk ((by rw [hg]; exact Nat.ne_of_gt (kL BK277.out) : gb293 ≠ gb277))
                clear HO_263002
                clear HO_278002
                clear HO287
                clear BK248
                clear BK262
                clear BK277
                clear HB
                have HO_263002 := n0_
                have HO_278002 := n1_
                have HO287 := n2_
                have BK248 := n3_
                have BK262 := n4_
                have BK277 := n5_
                have HB := n6_
                have BK293 := n7_
                have GW293 := n8_
                have GE293 := n9_
                have NB248_293 := n10_
                have NB293_248 := n11_
                have NB262_293 := n12_
                have NB293_262 := n13_
                have NB277_293 := n14_
                have NB293_277 := n15_
                clear n0_ n1_ n2_ n3_ n4_ n5_ n6_ n7_ n8_ n9_ n10_ n11_ n12_ n13_ n14_ n15_
                clear hb hbox hg
                refine hK.out _ _ ⟨(blk_cell BK277.out 0).trans rfl, (blk_cell BK277.out 1).trans rfl, (blk_cell BK277.out 2).trans rfl, (blk_cell BK277.out 3).trans rfl, (blk_cell BK277.out 4).trans rfl, (blk_cell BK277.out 5).trans rfl, (blk_cell BK277.out 6).trans rfl⟩ (fun hHeld => ?_)
                clear hK K
                refine norm_ (a' := ?_) ?_ ?_
                rotate_left
                ·show Act.put _ (some 12) _ = _
                 simp only [Act.put, List.setIfInBounds_toArray, List.set_cons_zero, List.set_cons_succ, i64_w, i32_w]
                 rfl
                exact norm_ (by simp only [putAll, Act.put, List.setIfInBounds_toArray, List.set_cons_zero, List.set_cons_succ]) (hCont (v286, gb293) _ ⟨hHeld, (by (with_reducible repeat (first | apply Kd.N_alloc | apply Kd.N_drewN | apply Kd.N_drew)); exact Kd.N_mono HO287.out (fun _ hk => ⟨hk.1.1, ⟨hk.1.2.1, ⟨hk.1.2.2.1, ⟨hk.1.2.2.2.1, ⟨hk.1.2.2.2.2, hk.2⟩⟩⟩⟩⟩)), (by (with_reducible repeat (first | apply Kd.N_alloc | apply Kd.N_drewN | apply Kd.N_drew)); exact Kd.N_mono HO_263002.out (fun _ hk => ⟨hk.1.2, ⟨hk.1.1.1, ⟨hk.1.1.2.1, ⟨hk.1.1.2.2.1, ⟨hk.1.1.2.2.2, hk.2⟩⟩⟩⟩⟩)), (by (with_reducible repeat (first | apply Kd.N_alloc | apply Kd.N_drewN | apply Kd.N_drew)); exact Kd.N_mono HO_278002.out (fun _ hk => ⟨hk.1.2, ⟨hk.1.1.1, ⟨hk.1.1.2.1, ⟨hk.1.1.2.2.1, ⟨hk.1.1.2.2.2, hk.2⟩⟩⟩⟩⟩)), (pK BK248.out), (pK BK262.out), (pK BK277.out), (pK BK293.out), GW293.out, GE293.out, NB248_293.out, NB293_248.out, NB262_293.out, NB293_262.out, NB277_293.out, NB293_277.out, (by repeat (first | (with_reducible first | exact HB.out | apply below_alloc | apply pw_below_drewN | apply below_drew1 | refine below_set ?_ GE248.out | refine below_set ?_ GE262.out | refine below_set ?_ GE277.out | refine below_set ?_ GE293.out) | exact HB.out))⟩)
               ·skip
                refine box_step ?hg (N := 12) ?hd (cs := #[.int .i64 0, .int .i64 0, .slice none 0 0, .int .i64 0, .int .i64 0, .int .i64 0, .int .i64 0]) (t := 26) ?hr ?_; (case hd => rfl); (case hg => rfl); (case hr => first | (go_simp; done) | (go_simp; rfl))
                intro gb293 hg w81 hbox hb
                have n0_ := Aside0.mk (Kd.N_below (Kd.N_elderB (pN HO_263002.out) gb293 (Nat.le_of_eq hg.symm)) hb)
                have n1_ := Aside0.mk (Kd.N_below (Kd.N_elderB (pN HO_278002.out) gb293 (Nat.le_of_eq hg.symm)) hb)
                have n2_ := Aside0.mk (kB BK248.out hb)
                have n3_ := Aside0.mk (kB BK262.out hb)
                have n4_ := Aside0.mk (kB BK277.out hb)
                have n5_ := Aside0.mk (below_step (pE3 HB.out GE248.out GE262.out GE277.out) hb)
                have n6_ := Aside0.mk (hbox)
                have n7_ := Aside0.mk ((by rw [hg]; exact (below_size (pE3 HB.out GE248.out GE262.out GE277.out)) : w.heap.size ≤ gb293))
                have n8_ := Aside0.mk ((by rw [hg]; exact (below_size (pE3 HB.out GE248.out GE262.out GE277.out)) : w.heap.size ≤ gb293))
                have n9_ := Aside0.mk ((by rw [hg]; exact Nat.ne_of_lt (kL BK248.out) : gb248 ≠ gb293))
                have n10_ := Aside0.mk ((by rw [hg]; exact Nat.ne_of_gt (kL BK248.out) : gb293 ≠ gb248))
                have n11_ := Aside0.mk ((by rw [hg]; exact Nat.ne_of_lt (kL BK262.out) : gb262 ≠ gb293))
                have n12_ := Aside0.mk ((by rw [hg]; exact Nat.ne_of_gt (kL BK262.out) : gb293 ≠ gb262))
                have n13_ := Aside0.mk ((by rw [hg]; exact Nat.ne_of_lt (kL BK277.out) : gb277 ≠ gb293))
                have n14_ := Aside0.mk ((by rw [hg]; exact Nat.ne_of_gt (kL BK277.out) : gb293 ≠ gb277))
                clear HO_263002
                clear HO_278002
                clear BK248
                clear BK262
                clear BK277
                clear HB
                have HO_263002 := n0_
                have HO_278002 := n1_
                have BK248 := n2_
                have BK262 := n3_
                have BK277 := n4_
                have HB := n5_
                have BK293 := n6_
                have GW293 := n7_
                have GE293 := n8_
                have NB248_293 := n9_
                have NB293_248 := n10_
                have NB262_293 := n11_
                have NB293_262 := n12_
                have NB277_293 := n13_
                have NB293_277 := n14_
                clear n0_ n1_ n2_ n3_ n4_ n5_ n6_ n7_ n8_ n9_ n10_ n11_ n12_ n13_ n14_
                clear hb hbox hg
                refine hK.out _ _ ⟨(blk_cell BK277.out 0).trans rfl, (blk_cell BK277.out 1).trans rfl, (blk_cell BK277.out 2).trans rfl, (blk_cell BK277.out 3).trans rfl, (blk_cell BK277.out 4).trans rfl, (blk_cell BK277.out 5).trans rfl, (blk_cell BK277.out 6).trans rfl⟩ (fun hHeld => ?_)
                clear hK K
                refine norm_ (a' := ?_) ?_ ?_
                rotate_left
                ·show Act.put _ (some 12) _ = _
                 simp only [Act.put, List.setIfInBounds_toArray, List.set_cons_zero, List.set_cons_succ, i64_w, i32_w]
                 rfl
                refine one_ (i := 4) (N := some 61) (bw 11 287) rfl rfl (one_of HT_.out (by kernel_rfl)) (by decide) (fun K hK => ?_)
                refine goes_ Try.func9 (by kernel_rfl) rfl #[.agg #[.int .i64 t267, .int .i64 t268, .slice Ao40 t269.length co40, .int .i64 t272, .int .i64 t273, .int .i64 t274, .int .i64 t275], .slice A80 y279.length c80] (by rfl) rfl rfl pL ?_
                with_reducible refine (raft_Put.calls kj24 t267 t268 _ _ t269 t272 t273 t274 t275 _ _ y279 t283 t284 t285 t288 t289 t290 t291 t292 _ ?side1 ?side2 ?side3 ?side4 A52.out).mono ?_
                (case side1 => exact pC (Kd.N_reads' HO_278002.out).2.2)
                (case side2 => exact (Kd.N_reads' HO_278002.out).2.1)
                (case side3 => exact pC (Kd.C_below HR282.out HB.out))
                (case side4 => exact HC282.out)
                rintro e w82 ⟨v286, rfl, ho0, hb⟩
                refine ⟨_, rfl, ?_⟩
                have n0_ := Aside0.mk (Kd.N_elder' (pN HO_263002.out) (Kd.N_base ho0) hb)
                have n1_ := Aside0.mk (Kd.N_elder' (pN HO_278002.out) (Kd.N_base ho0) hb)
                have n2_ := Aside0.mk (Kd.N_lower (Kd.N_mono (ok' := fun k_ => some k_ ≠ (.slice Ao31 t254.length co31 : Value).ownBlock ∧ some k_ ≠ (.slice Ao40 t269.length co40 : Value).ownBlock ∧ k_ ≠ gb248 ∧ k_ ≠ gb262 ∧ k_ ≠ gb277 ∧ k_ ≠ gb293) ho0 (fun k_ hk_ => ⟨(Kd.fresh' (Kd.N_lt (pN HO_263002.out)) k_ hk_), (Kd.fresh' (Kd.N_lt (pN HO_278002.out)) k_ hk_), (kF BK248.out k_ hk_), (kF BK262.out k_ hk_), (kF BK277.out k_ hk_), (kF BK293.out k_ hk_)⟩)) (below_size (by repeat (first | (with_reducible first | exact HB.out | apply below_alloc | apply pw_below_drewN | apply below_drew1 | refine below_set ?_ GE248.out | refine below_set ?_ GE262.out | refine below_set ?_ GE277.out | refine below_set ?_ GE293.out) | exact HB.out))))
                have n3_ := Aside0.mk (kB BK248.out hb)
                have n4_ := Aside0.mk (kB BK262.out hb)
                have n5_ := Aside0.mk (kB BK277.out hb)
                have n6_ := Aside0.mk (kB BK293.out hb)
                have n7_ := Aside0.mk (below_step (by repeat (first | (with_reducible first | exact HB.out | apply below_alloc | apply pw_below_drewN | apply below_drew1 | refine below_set ?_ GE248.out | refine below_set ?_ GE262.out | refine below_set ?_ GE277.out | refine below_set ?_ GE293.out) | exact HB.out)) hb)
                clear HO_263002
                clear HO_278002
                clear BK248
                clear BK262
                clear BK277
                clear BK293
                clear HB
                have HO_263002 := n0_
                have HO_278002 := n1_
                have HO287 := n2_
                have BK248 := n3_
                have BK262 := n4_
                have BK277 := n5_
                have BK293 := n6_
                have HB := n7_
                clear n0_ n1_ n2_ n3_ n4_ n5_ n6_ n7_
                (try clear hb)
                (try clear hb2)
                (try clear hk)
                (try clear hi)
                (try clear ho0)
                refine hK.out _ _ ⟨(blk_cell BK277.out 0).trans rfl, (blk_cell BK277.out 1).trans rfl, (blk_cell BK277.out 2).trans rfl, (blk_cell BK277.out 3).trans rfl, (blk_cell BK277.out 4).trans rfl, (blk_cell BK277.out 5).trans rfl, (blk_cell BK277.out 6).trans rfl⟩ (fun hHeld => ?_)
                clear hK K
                refine norm_ (a' := ?_) ?_ ?_
                rotate_left
                ·show Act.put _ (some 61) _ = _
                 simp only [Act.put, List.setIfInBounds_toArray, List.set_cons_zero, List.set_cons_succ, i64_w, i32_w]
                 rfl
                refine pu 5 (some 56) (bw 11 319) HT_.out (h := ?_)
                refine pu 6 (some 62) (bw 11 383) HT_.out (h := ?_)
                refine pu 7 (some 63) (bw 11 511) HT_.out (h := ?_)
                exact norm_ (by simp only [putAll, Act.put, List.setIfInBounds_toArray, List.set_cons_zero, List.set_cons_succ]) (hCont (v286, gb293) _ ⟨hHeld, (pN HO287.out), (by (with_reducible repeat (first | apply Kd.N_alloc | apply Kd.N_drewN | apply Kd.N_drew)); exact Kd.N_mono HO_263002.out (fun _ hk => ⟨hk.2, ⟨hk.1.1.1, ⟨hk.1.1.2.1, ⟨hk.1.1.2.2.1, ⟨hk.1.1.2.2.2, hk.1.2⟩⟩⟩⟩⟩)), (by (with_reducible repeat (first | apply Kd.N_alloc | apply Kd.N_drewN | apply Kd.N_drew)); exact Kd.N_mono HO_278002.out (fun _ hk => ⟨hk.2, ⟨hk.1.1.1, ⟨hk.1.1.2.1, ⟨hk.1.1.2.2.1, ⟨hk.1.1.2.2.2, hk.1.2⟩⟩⟩⟩⟩)), (pK BK248.out), (pK BK262.out), (pK BK277.out), (pK BK293.out), GW293.out, GE293.out, NB248_293.out, NB293_248.out, NB262_293.out, NB293_262.out, NB277_293.out, NB293_277.out, (by repeat (first | (with_reducible first | exact HB.out | apply below_alloc | apply pw_below_drewN | apply below_drew1 | refine below_set ?_ GE248.out | refine below_set ?_ GE262.out | refine below_set ?_ GE277.out | refine below_set ?_ GE293.out) | exact HB.out))⟩)
              rintro ⟨v286, gb293⟩ w83 ⟨hS_, h0_, h1_, h2_, h3_, h4_, h5_, h6_, h7_, h8_, h9_, h10_, h11_, h12_, h13_, h14_, h15_⟩
              have n0_ : Aside0 (Kd.N k46 46 w83 w.heap.size (fun k_ => some k_ ≠ (.slice Ao31 t254.length co31 : Value).ownBlock ∧ some k_ ≠ (.slice Ao40 t269.length co40 : Value).ownBlock ∧ k_ ≠ gb248 ∧ k_ ≠ gb262 ∧ k_ ≠ gb277 ∧ k_ ≠ gb293) v286 t285) := ⟨h0_⟩
              have n1_ : Aside0 (Kd.N k46 46 w83 w.heap.size (fun k_ => some k_ ≠ (v286 : Value).ownBlock ∧ some k_ ≠ (.slice Ao40 t269.length co40 : Value).ownBlock ∧ k_ ≠ gb248 ∧ k_ ≠ gb262 ∧ k_ ≠ gb277 ∧ k_ ≠ gb293) (.slice Ao31 t254.length co31) t254) := ⟨h1_⟩
              have n2_ : Aside0 (Kd.N k46 46 w83 w.heap.size (fun k_ => some k_ ≠ (v286 : Value).ownBlock ∧ some k_ ≠ (.slice Ao31 t254.length co31 : Value).ownBlock ∧ k_ ≠ gb248 ∧ k_ ≠ gb262 ∧ k_ ≠ gb277 ∧ k_ ≠ gb293) (.slice Ao40 t269.length co40) t269) := ⟨h2_⟩
              have n3_ : Aside0 (w83.heap[gb248]? = some (.cells #[.int .i64 a0_0, .int .i64 a0_1, .slice A0_2 l0_2.length c0_2, .int .i64 a0_3, .int .i64 a0_4, .int .i64 a0_5, .int .i64 a0_6] 26 (0, 0))) := ⟨h3_⟩
              have n4_ : Aside0 (w83.heap[gb262]? = some (.cells #[.int .i64 t252, .int .i64 t253, .slice Ao31 t254.length co31, .int .i64 t257, .int .i64 t258, .int .i64 t259, .int .i64 t260] 26 (0, 0))) := ⟨h4_⟩
              have n5_ : Aside0 (w83.heap[gb277]? = some (.cells #[.int .i64 t267, .int .i64 t268, .slice Ao40 t269.length co40, .int .i64 t272, .int .i64 t273, .int .i64 t274, .int .i64 t275] 26 (0, 0))) := ⟨h5_⟩
              have n6_ : Aside0 (w83.heap[gb293]? = some (.cells #[.int .i64 0, .int .i64 0, .slice none 0 0, .int .i64 0, .int .i64 0, .int .i64 0, .int .i64 0] 26 (0, 0))) := ⟨h6_⟩
              have n7_ : Aside0 (w.heap.size ≤ gb293) := ⟨h7_⟩
              have n8_ : Aside0 (w.heap.size ≤ gb293) := ⟨h8_⟩
              have n9_ : Aside0 (gb248 ≠ gb293) := ⟨h9_⟩
              have n10_ : Aside0 (gb293 ≠ gb248) := ⟨h10_⟩
              have n11_ : Aside0 (gb262 ≠ gb293) := ⟨h11_⟩
              have n12_ : Aside0 (gb293 ≠ gb262) := ⟨h12_⟩
              have n13_ : Aside0 (gb277 ≠ gb293) := ⟨h13_⟩
              have n14_ : Aside0 (gb293 ≠ gb277) := ⟨h14_⟩
              have n15_ : Aside0 (Below w.heap.size w w83) := ⟨h15_⟩
              clear HO_263002
              clear HO_278002
              clear BK248
              clear BK262
              clear BK277
              clear HB
              clear h0_ h1_ h2_ h3_ h4_ h5_ h6_ h7_ h8_ h9_ h10_ h11_ h12_ h13_ h14_ h15_
              have HO287 := n0_
              have HO_263002 := n1_
              have HO_278002 := n2_
              have BK248 := n3_
              have BK262 := n4_
              have BK277 := n5_
              have BK293 := n6_
              have GW293 := n7_
              have GE293 := n8_
              have NB248_293 := n9_
              have NB293_248 := n10_
              have NB262_293 := n11_
              have NB293_262 := n12_
              have NB277_293 := n13_
              have NB293_277 := n14_
              have HB := n15_
              clear n0_ n1_ n2_ n3_ n4_ n5_ n6_ n7_ n8_ n9_ n10_ n11_ n12_ n13_ n14_ n15_
              have hHeld : w83.cell? ⟨gb277, 0, none⟩ = some (.int .i64 t267) ∧ w83.cell? ⟨gb277, 1, none⟩ = some (.int .i64 t268) ∧ w83.cell? ⟨gb277, 2, none⟩ = some (.slice Ao40 t269.length co40) ∧ w83.cell? ⟨gb277, 3, none⟩ = some (.int .i64 t272) ∧ w83.cell? ⟨gb277, 4, none⟩ = some (.int .i64 t273) ∧ w83.cell? ⟨gb277, 5, none⟩ = some (.int .i64 t274) ∧ w83.cell? ⟨gb277, 6, none⟩ = some (.int .i64 t275) := hS_
              obtain ⟨Ao86, co86, eo86⟩ := Kd.N_slice HO287.out
              (first | subst eo86 | (injection eo86 with f1_ f2_ f3_; have f4_ := f1_.symm; have f5_ := f3_.symm; clear f1_ f2_ f3_; subst f4_; subst f5_))
              refine norm_ (a' := ?_) ?_ ?_
              rotate_left
              ·simp only [putAll, Act.put, List.setIfInBounds_toArray, List.set_cons_zero, List.set_cons_succ]
               rfl
              refine one_ (i := 9) (N := none) (bw 11 1023) rfl rfl (one_of HT_.out (by kernel_rfl)) (by decide) (fun K hK => ?_)
              have hs84 : w83.cell? ⟨gb293, 0, none⟩ = some (.int .i64 0) := (blk_cell BK293.out 0).trans rfl
              have hfs84 := blk_frozen BK293.out 0
              have hns84_0 := NB248_293.out
              have hns84_1 := NB262_293.out
              have hns84_2 := NB277_293.out
              have hms84_0 := NB293_248.out
              have hms84_1 := NB293_262.out
              have hms84_2 := NB293_277.out
              have hs85 : w83.cell? ⟨gb293, 1, none⟩ = some (.int .i64 0) := (blk_cell BK293.out 1).trans rfl
              have hfs85 := blk_frozen BK293.out 1
              have hns85_0 := NB248_293.out
              have hns85_1 := NB262_293.out
              have hns85_2 := NB277_293.out
              have hms85_0 := NB293_248.out
              have hms85_1 := NB293_262.out
              have hms85_2 := NB293_277.out
              have hs87 : w83.cell? ⟨gb293, 2, none⟩ = some (.slice none 0 0) := (blk_cell BK293.out 2).trans rfl
              have hfs87 := blk_frozen BK293.out 2
              have hns87_0 := NB248_293.out
              have hns87_1 := NB262_293.out
              have hns87_2 := NB277_293.out
              have hms87_0 := NB293_248.out
              have hms87_1 := NB293_262.out
              have hms87_2 := NB293_277.out
              have hs88 : w83.cell? ⟨gb293, 3, none⟩ = some (.int .i64 0) := (blk_cell BK293.out 3).trans rfl
              have hfs88 := blk_frozen BK293.out 3
              have hns88_0 := NB248_293.out
              have hns88_1 := NB262_293.out
              have hns88_2 := NB277_293.out
              have hms88_0 := NB293_248.out
              have hms88_1 := NB293_262.out
              have hms88_2 := NB293_277.out
              have hs89 : w83.cell? ⟨gb293, 4, none⟩ = some (.int .i64 0) := (blk_cell BK293.out 4).trans rfl
              have hfs89 := blk_frozen BK293.out 4
              have hns89_0 := NB248_293.out
              have hns89_1 := NB262_293.out
              have hns89_2 := NB277_293.out
              have hms89_0 := NB293_248.out
              have hms89_1 := NB293_262.out
              have hms89_2 := NB293_277.out
              have hs90 : w83.cell? ⟨gb293, 5, none⟩ = some (.int .i64 0) := (blk_cell BK293.out 5).trans rfl
              have hfs90 := blk_frozen BK293.out 5
              have hns90_0 := NB248_293.out
              have hns90_1 := NB262_293.out
              have hns90_2 := NB277_293.out
              have hms90_0 := NB293_248.out
              have hms90_1 := NB293_262.out
              have hms90_2 := NB293_277.out
              have hs91 : w83.cell? ⟨gb293, 6, none⟩ = some (.int .i64 0) := (blk_cell BK293.out 6).trans rfl
              have hfs91 := blk_frozen BK293.out 6
              have hns91_0 := NB248_293.out
              have hns91_1 := NB262_293.out
              have hns91_2 := NB277_293.out
              have hms91_0 := NB293_248.out
              have hms91_1 := NB293_262.out
              have hms91_2 := NB293_277.out
              refine skip_ (w1 := ?_) (by rfl) rfl ?_ ?_
              rotate_left
              ·go_simp
               rfl
              refine hK.out _ _ ⟨(cX1 hHeld.1 NB277_293.out), (cX1 hHeld.2.1 NB277_293.out), (cX1 hHeld.2.2.1 NB277_293.out), (cX1 hHeld.2.2.2.1 NB277_293.out), (cX1 hHeld.2.2.2.2.1 NB277_293.out), (cX1 hHeld.2.2.2.2.2.1 NB277_293.out), (cX1 hHeld.2.2.2.2.2.2 NB277_293.out)⟩ (fun hHeld => ?_)
              clear hK K
              refine pu 10 (some 13) (bw 11 2047) HT_.out (h := ?_)
              refine done_ (done_of HT_.out (by kernel_rfl)) ?_
              have hnb92 := NB293_248.out
              have hnc92 := NB248_293.out
              have hnb93 := NB293_262.out
              have hnc93 := NB262_293.out
              have hnb94 := NB293_277.out
              have hnc94 := NB277_293.out
              obtain ⟨hcz95_0, hcz95_1, hcz95_2, hcz95_3, hcz95_4, hcz95_5, hcz95_6⟩ := bc7 BK293.out
              obtain ⟨hfz95_0, hfz95_1, hfz95_2, hfz95_3, hfz95_4, hfz95_5, hfz95_6⟩ := bf7 BK293.out
              have hnb96 := NB262_248.out
              have hnc96 := NB248_262.out
              have hnb97 := NB262_277.out
              have hnc97 := NB277_262.out
              obtain ⟨hcz98_0, hcz98_1, hcz98_2, hcz98_3, hcz98_4, hcz98_5, hcz98_6⟩ := bc7 BK262.out
              obtain ⟨hfz98_0, hfz98_1, hfz98_2, hfz98_3, hfz98_4, hfz98_5, hfz98_6⟩ := bf7 BK262.out
              try go_wp2_with (first | (go_at_call 10; (with_reducible refine (garnerref23_Same.calls kj24 t283 t284 _ _ t285 t288 t289 t290 t291 t252 t253 _ _ t254 t257 t258 t259 t260 false _ ?side1 ?side2 ?side3 ?side4 A54.out).mono ?_); (case side1 => refine (Kd.N_reads' (e := 46) (base := w.heap.size) (ok := fun k_ => (some k_ ≠ (.slice Ao31 t254.length co31 : Value).ownBlock ∧ (some k_ ≠ (.slice Ao40 t269.length co40 : Value).ownBlock ∧ (k_ ≠ gb248 ∧ (k_ ≠ gb262 ∧ (k_ ≠ gb277 ∧ k_ ≠ gb293)))))) (n := t285.length) (c := co86) ?_).2.2; exact (by (with_reducible repeat (first | apply Kd.N_alloc | apply Kd.N_drewN | apply Kd.N_drew)); exact (Kd.N_mono (Nf7 (g := gb293) (Kd.N_mono HO287.out (fun k_ hk => (⟨hk, hk.2.2.2.2.2⟩ : _ ∧ k_ ≠ gb293))) (fun _ hk => hk.2)) (fun _ h_ => h_.1)))); (case side2 => exact (Kd.N_reads' HO287.out).2.1); (case side3 => refine (Kd.N_reads' (e := 46) (base := w.heap.size) (ok := fun k_ => (some k_ ≠ (.slice Ao86 t285.length co86 : Value).ownBlock ∧ (some k_ ≠ (.slice Ao40 t269.length co40 : Value).ownBlock ∧ (k_ ≠ gb248 ∧ (k_ ≠ gb262 ∧ (k_ ≠ gb277 ∧ k_ ≠ gb293)))))) (n := t254.length) (c := co31) ?_).2.2; exact (by (with_reducible repeat (first | apply Kd.N_alloc | apply Kd.N_drewN | apply Kd.N_drew)); exact (Kd.N_mono (Nf7 (g := gb293) (Kd.N_mono HO_263002.out (fun k_ hk => (⟨hk, hk.2.2.2.2.2⟩ : _ ∧ k_ ≠ gb293))) (fun _ hk => hk.2)) (fun _ h_ => h_.1)))); (case side4 => exact (Kd.N_reads' HO_263002.out).2.1); rintro e w99 ⟨rfl, hb⟩; have n0_ := Aside0.mk (Kd.N_below (by (with_reducible repeat (first | apply Kd.N_alloc | apply Kd.N_drewN | apply Kd.N_drew)); exact (Kd.N_mono (Nf7 (g := gb293) (Kd.N_mono HO_263002.out (fun k_ hk => (⟨hk, hk.2.2.2.2.2⟩ : _ ∧ k_ ≠ gb293))) (fun _ hk => hk.2)) (fun _ h_ => h_.1))) hb); have n1_ := Aside0.mk (Kd.N_below (by (with_reducible repeat (first | apply Kd.N_alloc | apply Kd.N_drewN | apply Kd.N_drew)); exact (Kd.N_mono (Nf7 (g := gb293) (Kd.N_mono HO_278002.out (fun k_ hk => (⟨hk, hk.2.2.2.2.2⟩ : _ ∧ k_ ≠ gb293))) (fun _ hk => hk.2)) (fun _ h_ => h_.1))) hb); have n2_ := Aside0.mk (Kd.N_below (by (with_reducible repeat (first | apply Kd.N_alloc | apply Kd.N_drewN | apply Kd.N_drew)); exact (Kd.N_mono (Nf7 (g := gb293) (Kd.N_mono HO287.out (fun k_ hk => (⟨hk, hk.2.2.2.2.2⟩ : _ ∧ k_ ≠ gb293))) (fun _ hk => hk.2)) (fun _ h_ => h_.1))) hb); have n3_ := Aside0.mk (blk_below (g := gb248) (kX1a BK248.out NB248_293.out) hb); have n4_ := Aside0.mk (blk_below (g := gb262) (kX1a BK262.out NB262_293.out) hb); have n5_ := Aside0.mk (blk_below (g := gb277) (kX1a BK277.out NB277_293.out) hb); have n6_ := Aside0.mk (blk_below (g := gb293) (kX0 BK293.out) hb); have n7_ := Aside0.mk (below_step (by repeat (first | (with_reducible first | exact HB.out | apply below_alloc | apply pw_below_drewN | apply below_drew1 | refine below_set ?_ GE248.out | refine below_set ?_ GE262.out | refine below_set ?_ GE277.out | refine below_set ?_ GE293.out) | exact HB.out)) hb); clear HO_263002 HO_278002 HO287 BK248 BK262 BK277 BK293 HB; have HO_263002 := n0_; have HO_278002 := n1_; have HO287 := n2_; have BK248 := n3_; have BK262 := n4_; have BK277 := n5_; have BK293 := n6_; have HB := n7_; clear n0_ n1_ n2_ n3_ n4_ n5_ n6_ n7_; (try clear hb); (try clear hb2); (try clear hk); (try clear hi)))
              go_ret
              exact ⟨by first | rfl | (simp [errW_none, errW_some] <;> rfl) | (simp only [← hji21]; first | rfl | (simp [errW_none, errW_some] <;> rfl)) | (simp [*, errW_none, errW_some] <;> rfl), by repeat (first | (with_reducible first | exact HB.out | apply below_alloc | apply pw_below_drewN | apply below_drew1 | refine below_set ?_ GE248.out | refine below_set ?_ GE262.out | refine below_set ?_ GE277.out | refine below_set ?_ GE293.out) | exact HB.out)⟩
            ·rw [if_neg c53] at H
             have c53b0 : (t292 == 0) = false := beq_eq_false_iff_ne.mpr c53
             have c53b1 : (t292 != 0) = true := bne_iff_ne.mpr c53
             obtain rfl := Option.some.inj H
             try go_wp2
             have n0_ := Aside0.mk (Kd.N_drew HO_263002.out)
             have n1_ := Aside0.mk (Kd.N_drew HO_278002.out)
             have n2_ := Aside0.mk (blk_drew BK248.out)
             have n3_ := Aside0.mk (blk_drew BK262.out)
             have n4_ := Aside0.mk (blk_drew BK277.out)
             have n5_ := Aside0.mk (below_drew1 HB.out)
             clear HO_263002
             clear HO_278002
             clear BK248
             clear BK262
             clear BK277
             clear HB
             have HO_263002 := n0_
             have HO_278002 := n1_
             have BK248 := n2_
             have BK262 := n3_
             have BK277 := n4_
             have HB := n5_
             clear n0_ n1_ n2_ n3_ n4_ n5_
             have q101 : (ji21 : Int) ≤ ((l1.length : Int) : Int) := of_decide_eq_true pS
             obtain ⟨i0101, hi0101, _, hsz101, _⟩ := info_parts info46
             have hroom101 : l1.length ≤ c1 := HC1.out
             have hC101 : Kd.C k46 _ A1 l1.length l1 := HR1.out
             have q0101 : (0 : Int) ≤ (ji21 : Int) := of_decide_eq_true pS
             have hcut101 := cut_from (P := Try.prog) 22 46 .i64 Try.underlying22 hi0101 10 hsz101 A1 l1.length c1 ji21 q0101 q101
             have hr101 := Kd.C_drop (m := (ji21 : Int).toNat) (c := c1) hC101 (by omega) hroom101
             obtain ⟨A101, hA101⟩ : ∃ AX_, AX_ = (if c1 = (ji21 : Int).toNat then A1 else (A1 : Option Addr).map (·.add ((ji21 : Int).toNat * 10))) := ⟨_, rfl⟩
             obtain ⟨c101, hc101⟩ : ∃ cX_, cX_ = c1 - (ji21 : Int).toNat := ⟨_, rfl⟩
             have hy101 : y279.length = l1.length - (ji21 : Int).toNat := (by rw [Ny279.out, List.length_drop] <;> omega)
             rw [show (l1).drop (ji21 : Int).toNat = y279 from Ny279.out.symm] at hr101
             replace hr101 : Kd.C k46 _ A101 y279.length y279 := (by rw [hA101]; exact hr101)
             rw [← hy101, ← hA101, ← hc101] at hcut101
             have HR282 := Aside0.mk hr101
             have HC282 := Aside0.mk (show y279.length ≤ c101 from by rw [hy101, hc101]; exact Nat.sub_le_sub_right hroom101 _)
             clear hr101 hC101 hroom101 hi0101 hsz101 hc101
             have KY101 := Aside0.mk hy101
             have KA101 := Aside0.mk hA101
             clear hy101 hA101
             replace q101 := eq_true q101
             refine start_ (n := 11) (S := fun w' => cG w' gb277 0 (.int .i64 t267) ∧ cG w' gb277 1 (.int .i64 t268) ∧ cG w' gb277 2 (.slice Ao40 t269.length co40) ∧ cG w' gb277 3 (.int .i64 t272) ∧ cG w' gb277 4 (.int .i64 t273) ∧ cG w' gb277 5 (.int .i64 t274) ∧ cG w' gb277 6 (.int .i64 t275)) (ds := []) #[false, false, false, false, false, false, false, false, false, false, false] (by kernel_rfl) rfl rfl ⟨(blk_cell BK277.out 0).trans rfl, (blk_cell BK277.out 1).trans rfl, (blk_cell BK277.out 2).trans rfl, (blk_cell BK277.out 3).trans rfl, (blk_cell BK277.out 4).trans rfl, (blk_cell BK277.out 5).trans rfl, (blk_cell BK277.out 6).trans rfl⟩ (fun hHeld => ?_); refine with_tabW garnerlaw23_RaftParts.tab8 garnerlaw23_RaftParts.bits8 (fun HT_ HW_ => ?_)
             (first | generalize wc.drew = w100 at HO_263002 HO_278002 BK248 BK262 BK277 HB HR282 hHeld ⊢ | generalize wc.drew = w100 at BK248 BK262 BK277 HB HR282 hHeld ⊢)
             refine pu 1 (some 58) (bw 11 2) HT_.out (h := ?_)
             refine pu 2 (some 59) (bw 11 6) HT_.out (h := ?_)
             refine pu 3 (some 60) (bw 11 14) HT_.out (h := ?_)
             refine tk 0 (some 57) (bw 11 15) HT_.out HW_.out hHeld (h := ?_)
             refine join_ (σ := Value × Nat) 2 #[true, true, true, true, true, true, true, true, true, false, false] (fun s_ => [(61, .tuple #[.agg #[.int .i64 t283, .int .i64 t284, s_.1, .int .i64 t288, .int .i64 t289, .int .i64 t290, .int .i64 t291], .int .i64 t292]), (12, .pointer (some ⟨s_.2, 0, none⟩)), (56, .tuple #[.agg #[.int .i64 t283, .int .i64 t284, s_.1, .int .i64 t288, .int .i64 t289, .int .i64 t290, .int .i64 t291], .int .i64 t292]), (62, .agg #[.int .i64 t283, .int .i64 t284, s_.1, .int .i64 t288, .int .i64 t289, .int .i64 t290, .int .i64 t291]), (63, .int .i64 t292)]) (fun s_ w' => (cG w' gb277 0 (.int .i64 t267) ∧ cG w' gb277 1 (.int .i64 t268) ∧ cG w' gb277 2 (.slice Ao40 t269.length co40) ∧ cG w' gb277 3 (.int .i64 t272) ∧ cG w' gb277 4 (.int .i64 t273) ∧ cG w' gb277 5 (.int .i64 t274) ∧ cG w' gb277 6 (.int .i64 t275)) ∧ (Kd.N k46 46 w' w.heap.size (fun k_ => some k_ ≠ (.slice Ao31 t254.length co31 : Value).ownBlock ∧ some k_ ≠ (.slice Ao40 t269.length co40 : Value).ownBlock ∧ k_ ≠ gb248 ∧ k_ ≠ gb262 ∧ k_ ≠ gb277 ∧ k_ ≠ s_.2) s_.1 t285) ∧ (Kd.N k46 46 w' w.heap.size (fun k_ => some k_ ≠ (s_.1 : Value).ownBlock ∧ some k_ ≠ (.slice Ao40 t269.length co40 : Value).ownBlock ∧ k_ ≠ gb248 ∧ k_ ≠ gb262 ∧ k_ ≠ gb277 ∧ k_ ≠ s_.2) (.slice Ao31 t254.length co31) t254) ∧ (Kd.N k46 46 w' w.heap.size (fun k_ => some k_ ≠ (s_.1 : Value).ownBlock ∧ some k_ ≠ (.slice Ao31 t254.length co31 : Value).ownBlock ∧ k_ ≠ gb248 ∧ k_ ≠ gb262 ∧ k_ ≠ gb277 ∧ k_ ≠ s_.2) (.slice Ao40 t269.length co40) t269) ∧ (w'.heap[gb248]? = some (.cells #[.int .i64 a0_0, .int .i64 a0_1, .slice A0_2 l0_2.length c0_2, .int .i64 a0_3, .int .i64 a0_4, .int .i64 a0_5, .int .i64 a0_6] 26 (0, 0))) ∧ (w'.heap[gb262]? = some (.cells #[.int .i64 t252, .int .i64 t253, .slice Ao31 t254.length co31, .int .i64 t257, .int .i64 t258, .int .i64 t259, .int .i64 t260] 26 (0, 0))) ∧ (w'.heap[gb277]? = some (.cells #[.int .i64 t267, .int .i64 t268, .slice Ao40 t269.length co40, .int .i64 t272, .int .i64 t273, .int .i64 t274, .int .i64 t275] 26 (0, 0))) ∧ (w'.heap[s_.2]? = some (.cells #[.int .i64 0, .int .i64 0, .slice none 0 0, .int .i64 0, .int .i64 0, .int .i64 0, .int .i64 0] 26 (0, 0))) ∧ (w.heap.size ≤ s_.2) ∧ (w.heap.size ≤ s_.2) ∧ (gb248 ≠ s_.2) ∧ (s_.2 ≠ gb248) ∧ (gb262 ≠ s_.2) ∧ (s_.2 ≠ gb262) ∧ (gb277 ≠ s_.2) ∧ (s_.2 ≠ gb277) ∧ (Below w.heap.size w w')) ?_ ?_
             rotate_left
             ·intro hCont
              refine two_ (i := 4) (j := 8) (Ni := some 61) (Nj := some 12) (bw 11 31) #[true, true, true, true, false, false, false, false, true, false, false] rfl rfl rfl rfl (two_of HT_.out (by kernel_rfl)) (by decide) (by decide) (fun K hK => ?_) (fun K hK => ?_)
              ·skip
               refine goes_ Try.func9 (by kernel_rfl) rfl #[.agg #[.int .i64 t267, .int .i64 t268, .slice Ao40 t269.length co40, .int .i64 t272, .int .i64 t273, .int .i64 t274, .int .i64 t275], .slice A101 y279.length c101] (by rfl) rfl rfl pL ?_
               with_reducible refine (raft_Put.calls kj24 t267 t268 _ _ t269 t272 t273 t274 t275 _ _ y279 t283 t284 t285 t288 t289 t290 t291 t292 _ ?side1 ?side2 ?side3 ?side4 A52.out).mono ?_
               (case side1 => exact pC (Kd.N_reads' HO_278002.out).2.2)
               (case side2 => exact (Kd.N_reads' HO_278002.out).2.1)
               (case side3 => exact pC (Kd.C_below HR282.out HB.out))
               (case side4 => exact HC282.out)
               rintro e w102 ⟨v286, rfl, ho0, hb⟩
               refine ⟨_, rfl, ?_⟩
               have n0_ := Aside0.mk (Kd.N_elder' (pN HO_263002.out) (Kd.N_base ho0) hb)
               have n1_ := Aside0.mk (Kd.N_elder' (pN HO_278002.out) (Kd.N_base ho0) hb)
               have n2_ := Aside0.mk (Kd.N_lower (Kd.N_mono (ok' := fun k_ => some k_ ≠ (.slice Ao31 t254.length co31 : Value).ownBlock ∧ some k_ ≠ (.slice Ao40 t269.length co40 : Value).ownBlock ∧ k_ ≠ gb248 ∧ k_ ≠ gb262 ∧ k_ ≠ gb277) ho0 (fun k_ hk_ => ⟨(Kd.fresh' (Kd.N_lt (pN HO_263002.out)) k_ hk_), (Kd.fresh' (Kd.N_lt (pN HO_278002.out)) k_ hk_), (kF BK248.out k_ hk_), (kF BK262.out k_ hk_), (kF BK277.out k_ hk_)⟩)) (below_size (pE3 HB.out GE248.out GE262.out GE277.out)))
               have n3_ := Aside0.mk (kB BK248.out hb)
               have n4_ := Aside0.mk (kB BK262.out hb)
               have n5_ := Aside0.mk (kB BK277.out hb)
               have n6_ := Aside0.mk (below_step (pE3 HB.out GE248.out GE262.out GE277.out) hb)
               clear HO_263002
               clear HO_278002
               clear BK248
               clear BK262
               clear BK277
               clear HB
               have HO_263002 := n0_
               have HO_278002 := n1_
               have HO287 := n2_
               have BK248 := n3_
               have BK262 := n4_
               have BK277 := n5_
               have HB := n6_
               clear n0_ n1_ n2_ n3_ n4_ n5_ n6_
               (try clear hb)
               (try clear hb2)
               (try clear hk)
               (try clear hi)
               (try clear ho0)
               refine hK.out _ _ ⟨(blk_cell BK277.out 0).trans rfl, (blk_cell BK277.out 1).trans rfl, (blk_cell BK277.out 2).trans rfl, (blk_cell BK277.out 3).trans rfl, (blk_cell BK277.out 4).trans rfl, (blk_cell BK277.out 5).trans rfl, (blk_cell BK277.out 6).trans rfl⟩ (fun hHeld => ?_)
               clear hK K
               refine norm_ (a' := ?_) ?_ ?_
               rotate_left
               ·show Act.put _ (some 61) _ = _
                simp only [Act.put, List.setIfInBounds_toArray, List.set_cons_zero, List.set_cons_succ, i64_w, i32_w]
                rfl
               refine pu 5 (some 56) (bw 11 63) HT_.out (h := ?_)
               refine pu 6 (some 62) (bw 11 127) HT_.out (h := ?_)
               refine pu 7 (some 63) (bw 11 255) HT_.out (h := ?_)
               refine one_ (i := 8) (N := some 12) (bw 11 511) rfl rfl (one_of HT_.out (by kernel_rfl)) (by decide) (fun K hK => ?_)
               refine box_step ?hg (N := 12) ?hd (cs := #[.int .i64 0, .int .i64 0, .slice none 0 0, .int .i64 0, .int .i64 0, .int .i64 0, .int .i64 0]) (t := 26) ?hr ?_; (case hd => rfl); (case hg => rfl); (case hr => first | (go_simp; done) | (go_simp; rfl))
               intro gb293 hg w103 hbox hb
               have n0_ := Aside0.mk (Kd.N_below (Kd.N_elderB (pN HO_263002.out) gb293 (Nat.le_of_eq hg.symm)) hb)
               have n1_ := Aside0.mk (Kd.N_below (Kd.N_elderB (pN HO_278002.out) gb293 (Nat.le_of_eq hg.symm)) hb)
               have n2_ := Aside0.mk (Kd.N_below (Kd.N_elderB (pN HO287.out) gb293 (Nat.le_of_eq hg.symm)) hb)
               have n3_ := Aside0.mk (kB BK248.out hb)
               have n4_ := Aside0.mk (kB BK262.out hb)
               have n5_ := Aside0.mk (kB BK277.out hb)
               have n6_ := Aside0.mk (below_step (pE3 HB.out GE248.out GE262.out GE277.out) hb)
               have n7_ := Aside0.mk (hbox)
               have n8_ := Aside0.mk ((by rw [hg]; exact (below_size (pE3 HB.out GE248.out GE262.out GE277.out)) : w.heap.size ≤ gb293))
               have n9_ := Aside0.mk ((by rw [hg]; exact (below_size (pE3 HB.out GE248.out GE262.out GE277.out)) : w.heap.size ≤ gb293))
               have n10_ := Aside0.mk ((by rw [hg]; exact Nat.ne_of_lt (kL BK248.out) : gb248 ≠ gb293))
               have n11_ := Aside0.mk ((by rw [hg]; exact Nat.ne_of_gt (kL BK248.out) : gb293 ≠ gb248))
               have n12_ := Aside0.mk ((by rw [hg]; exact Nat.ne_of_lt (kL BK262.out) : gb262 ≠ gb293))
               have n13_ := Aside0.mk ((by rw [hg]; exact Nat.ne_of_gt (kL BK262.out) : gb293 ≠ gb262))
               have n14_ := Aside0.mk ((by rw [hg]; exact Nat.ne_of_lt (kL BK277.out) : gb277 ≠ gb293))
               have n15_ := Aside0.mk ((by rw [hg]; exact Nat.ne_of_gt (kL BK277.out) : gb293 ≠ gb277))
               clear HO_263002
               clear HO_278002
               clear HO287
               clear BK248
               clear BK262
               clear BK277
               clear HB
               have HO_263002 := n0_
               have HO_278002 := n1_
               have HO287 := n2_
               have BK248 := n3_
               have BK262 := n4_
               have BK277 := n5_
               have HB := n6_
               have BK293 := n7_
               have GW293 := n8_
               have GE293 := n9_
               have NB248_293 := n10_
               have NB293_248 := n11_
               have NB262_293 := n12_
               have NB293_262 := n13_
               have NB277_293 := n14_
               have NB293_277 := n15_
               clear n0_ n1_ n2_ n3_ n4_ n5_ n6_ n7_ n8_ n9_ n10_ n11_ n12_ n13_ n14_ n15_
               clear hb hbox hg
               refine hK.out _ _ ⟨(blk_cell BK277.out 0).trans rfl, (blk_cell BK277.out 1).trans rfl, (blk_cell BK277.out 2).trans rfl, (blk_cell BK277.out 3).trans rfl, (blk_cell BK277.out 4).trans rfl, (blk_cell BK277.out 5).trans rfl, (blk_cell BK277.out 6).trans rfl⟩ (fun hHeld => ?_)
               clear hK K
               refine norm_ (a' := ?_) ?_ ?_
               rotate_left
               ·show Act.put _ (some 12) _ = _
                simp only [Act.put, List.setIfInBounds_toArray, List.set_cons_zero, List.set_cons_succ, i64_w, i32_w]
                rfl
               exact norm_ (by simp only [putAll, Act.put, List.setIfInBounds_toArray, List.set_cons_zero, List.set_cons_succ]) (hCont (v286, gb293) _ ⟨hHeld, (by (with_reducible repeat (first | apply Kd.N_alloc | apply Kd.N_drewN | apply Kd.N_drew)); exact Kd.N_mono HO287.out (fun _ hk => ⟨hk.1.1, ⟨hk.1.2.1, ⟨hk.1.2.2.1, ⟨hk.1.2.2.2.1, ⟨hk.1.2.2.2.2, hk.2⟩⟩⟩⟩⟩)), (by (with_reducible repeat (first | apply Kd.N_alloc | apply Kd.N_drewN | apply Kd.N_drew)); exact Kd.N_mono HO_263002.out (fun _ hk => ⟨hk.1.2, ⟨hk.1.1.1, ⟨hk.1.1.2.1, ⟨hk.1.1.2.2.1, ⟨hk.1.1.2.2.2, hk.2⟩⟩⟩⟩⟩)), (by (with_reducible repeat (first | apply Kd.N_alloc | apply Kd.N_drewN | apply Kd.N_drew)); exact Kd.N_mono HO_278002.out (fun _ hk => ⟨hk.1.2, ⟨hk.1.1.1, ⟨hk.1.1.2.1, ⟨hk.1.1.2.2.1, ⟨hk.1.1.2.2.2, hk.2⟩⟩⟩⟩⟩)), (pK BK248.out), (pK BK262.out), (pK BK277.out), (pK BK293.out), GW293.out, GE293.out, NB248_293.out, NB293_248.out, NB262_293.out, NB293_262.out, NB277_293.out, NB293_277.out, (by repeat (first | (with_reducible first | exact HB.out | apply below_alloc | apply pw_below_drewN | apply below_drew1 | refine below_set ?_ GE248.out | refine below_set ?_ GE262.out | refine below_set ?_ GE277.out | refine below_set ?_ GE293.out) | exact HB.out))⟩)
              ·skip
               refine box_step ?hg (N := 12) ?hd (cs := #[.int .i64 0, .int .i64 0, .slice none 0 0, .int .i64 0, .int .i64 0, .int .i64 0, .int .i64 0]) (t := 26) ?hr ?_; (case hd => rfl); (case hg => rfl); (case hr => first | (go_simp; done) | (go_simp; rfl))
               intro gb293 hg w102 hbox hb
               have n0_ := Aside0.mk (Kd.N_below (Kd.N_elderB (pN HO_263002.out) gb293 (Nat.le_of_eq hg.symm)) hb)
               have n1_ := Aside0.mk (Kd.N_below (Kd.N_elderB (pN HO_278002.out) gb293 (Nat.le_of_eq hg.symm)) hb)
               have n2_ := Aside0.mk (kB BK248.out hb)
               have n3_ := Aside0.mk (kB BK262.out hb)
               have n4_ := Aside0.mk (kB BK277.out hb)
               have n5_ := Aside0.mk (below_step (pE3 HB.out GE248.out GE262.out GE277.out) hb)
               have n6_ := Aside0.mk (hbox)
               have n7_ := Aside0.mk ((by rw [hg]; exact (below_size (pE3 HB.out GE248.out GE262.out GE277.out)) : w.heap.size ≤ gb293))
               have n8_ := Aside0.mk ((by rw [hg]; exact (below_size (pE3 HB.out GE248.out GE262.out GE277.out)) : w.heap.size ≤ gb293))
               have n9_ := Aside0.mk ((by rw [hg]; exact Nat.ne_of_lt (kL BK248.out) : gb248 ≠ gb293))
               have n10_ := Aside0.mk ((by rw [hg]; exact Nat.ne_of_gt (kL BK248.out) : gb293 ≠ gb248))
               have n11_ := Aside0.mk ((by rw [hg]; exact Nat.ne_of_lt (kL BK262.out) : gb262 ≠ gb293))
               have n12_ := Aside0.mk ((by rw [hg]; exact Nat.ne_of_gt (kL BK262.out) : gb293 ≠ gb262))
               have n13_ := Aside0.mk ((by rw [hg]; exact Nat.ne_of_lt (kL BK277.out) : gb277 ≠ gb293))
               have n14_ := Aside0.mk ((by rw [hg]; exact Nat.ne_of_gt (kL BK277.out) : gb293 ≠ gb277))
               clear HO_263002
               clear HO_278002
               clear BK248
               clear BK262
               clear BK277
               clear HB
               have HO_263002 := n0_
               have HO_278002 := n1_
               have BK248 := n2_
               have BK262 := n3_
               have BK277 := n4_
               have HB := n5_
               have BK293 := n6_
               have GW293 := n7_
               have GE293 := n8_
               have NB248_293 := n9_
               have NB293_248 := n10_
               have NB262_293 := n11_
               have NB293_262 := n12_
               have NB277_293 := n13_
               have NB293_277 := n14_
               clear n0_ n1_ n2_ n3_ n4_ n5_ n6_ n7_ n8_ n9_ n10_ n11_ n12_ n13_ n14_
               clear hb hbox hg
               refine hK.out _ _ ⟨(blk_cell BK277.out 0).trans rfl, (blk_cell BK277.out 1).trans rfl, (blk_cell BK277.out 2).trans rfl, (blk_cell BK277.out 3).trans rfl, (blk_cell BK277.out 4).trans rfl, (blk_cell BK277.out 5).trans rfl, (blk_cell BK277.out 6).trans rfl⟩ (fun hHeld => ?_)
               clear hK K
               refine norm_ (a' := ?_) ?_ ?_
               rotate_left
               ·show Act.put _ (some 12) _ = _
                simp only [Act.put, List.setIfInBounds_toArray, List.set_cons_zero, List.set_cons_succ, i64_w, i32_w]
                rfl
               refine one_ (i := 4) (N := some 61) (bw 11 287) rfl rfl (one_of HT_.out (by kernel_rfl)) (by decide) (fun K hK => ?_)
               refine goes_ Try.func9 (by kernel_rfl) rfl #[.agg #[.int .i64 t267, .int .i64 t268, .slice Ao40 t269.length co40, .int .i64 t272, .int .i64 t273, .int .i64 t274, .int .i64 t275], .slice A101 y279.length c101] (by rfl) rfl rfl pL ?_
               with_reducible refine (raft_Put.calls kj24 t267 t268 _ _ t269 t272 t273 t274 t275 _ _ y279 t283 t284 t285 t288 t289 t290 t291 t292 _ ?side1 ?side2 ?side3 ?side4 A52.out).mono ?_
               (case side1 => exact pC (Kd.N_reads' HO_278002.out).2.2)
               (case side2 => exact (Kd.N_reads' HO_278002.out).2.1)
               (case side3 => exact pC (Kd.C_below HR282.out HB.out))
               (case side4 => exact HC282.out)
               rintro e w103 ⟨v286, rfl, ho0, hb⟩
               refine ⟨_, rfl, ?_⟩
               have n0_ := Aside0.mk (Kd.N_elder' (pN HO_263002.out) (Kd.N_base ho0) hb)
               have n1_ := Aside0.mk (Kd.N_elder' (pN HO_278002.out) (Kd.N_base ho0) hb)
               have n2_ := Aside0.mk (Kd.N_lower (Kd.N_mono (ok' := fun k_ => some k_ ≠ (.slice Ao31 t254.length co31 : Value).ownBlock ∧ some k_ ≠ (.slice Ao40 t269.length co40 : Value).ownBlock ∧ k_ ≠ gb248 ∧ k_ ≠ gb262 ∧ k_ ≠ gb277 ∧ k_ ≠ gb293) ho0 (fun k_ hk_ => ⟨(Kd.fresh' (Kd.N_lt (pN HO_263002.out)) k_ hk_), (Kd.fresh' (Kd.N_lt (pN HO_278002.out)) k_ hk_), (kF BK248.out k_ hk_), (kF BK262.out k_ hk_), (kF BK277.out k_ hk_), (kF BK293.out k_ hk_)⟩)) (below_size (by repeat (first | (with_reducible first | exact HB.out | apply below_alloc | apply pw_below_drewN | apply below_drew1 | refine below_set ?_ GE248.out | refine below_set ?_ GE262.out | refine below_set ?_ GE277.out | refine below_set ?_ GE293.out) | exact HB.out))))
               have n3_ := Aside0.mk (kB BK248.out hb)
               have n4_ := Aside0.mk (kB BK262.out hb)
               have n5_ := Aside0.mk (kB BK277.out hb)
               have n6_ := Aside0.mk (kB BK293.out hb)
               have n7_ := Aside0.mk (below_step (by repeat (first | (with_reducible first | exact HB.out | apply below_alloc | apply pw_below_drewN | apply below_drew1 | refine below_set ?_ GE248.out | refine below_set ?_ GE262.out | refine below_set ?_ GE277.out | refine below_set ?_ GE293.out) | exact HB.out)) hb)
               clear HO_263002
               clear HO_278002
               clear BK248
               clear BK262
               clear BK277
               clear BK293
               clear HB
               have HO_263002 := n0_
               have HO_278002 := n1_
               have HO287 := n2_
               have BK248 := n3_
               have BK262 := n4_
               have BK277 := n5_
               have BK293 := n6_
               have HB := n7_
               clear n0_ n1_ n2_ n3_ n4_ n5_ n6_ n7_
               (try clear hb)
               (try clear hb2)
               (try clear hk)
               (try clear hi)
               (try clear ho0)
               refine hK.out _ _ ⟨(blk_cell BK277.out 0).trans rfl, (blk_cell BK277.out 1).trans rfl, (blk_cell BK277.out 2).trans rfl, (blk_cell BK277.out 3).trans rfl, (blk_cell BK277.out 4).trans rfl, (blk_cell BK277.out 5).trans rfl, (blk_cell BK277.out 6).trans rfl⟩ (fun hHeld => ?_)
               clear hK K
               refine norm_ (a' := ?_) ?_ ?_
               rotate_left
               ·show Act.put _ (some 61) _ = _
                simp only [Act.put, List.setIfInBounds_toArray, List.set_cons_zero, List.set_cons_succ, i64_w, i32_w]
                rfl
               refine pu 5 (some 56) (bw 11 319) HT_.out (h := ?_)
               refine pu 6 (some 62) (bw 11 383) HT_.out (h := ?_)
               refine pu 7 (some 63) (bw 11 511) HT_.out (h := ?_)
               exact norm_ (by simp only [putAll, Act.put, List.setIfInBounds_toArray, List.set_cons_zero, List.set_cons_succ]) (hCont (v286, gb293) _ ⟨hHeld, (pN HO287.out), (by (with_reducible repeat (first | apply Kd.N_alloc | apply Kd.N_drewN | apply Kd.N_drew)); exact Kd.N_mono HO_263002.out (fun _ hk => ⟨hk.2, ⟨hk.1.1.1, ⟨hk.1.1.2.1, ⟨hk.1.1.2.2.1, ⟨hk.1.1.2.2.2, hk.1.2⟩⟩⟩⟩⟩)), (by (with_reducible repeat (first | apply Kd.N_alloc | apply Kd.N_drewN | apply Kd.N_drew)); exact Kd.N_mono HO_278002.out (fun _ hk => ⟨hk.2, ⟨hk.1.1.1, ⟨hk.1.1.2.1, ⟨hk.1.1.2.2.1, ⟨hk.1.1.2.2.2, hk.1.2⟩⟩⟩⟩⟩)), (pK BK248.out), (pK BK262.out), (pK BK277.out), (pK BK293.out), GW293.out, GE293.out, NB248_293.out, NB293_248.out, NB262_293.out, NB293_262.out, NB277_293.out, NB293_277.out, (by repeat (first | (with_reducible first | exact HB.out | apply below_alloc | apply pw_below_drewN | apply below_drew1 | refine below_set ?_ GE248.out | refine below_set ?_ GE262.out | refine below_set ?_ GE277.out | refine below_set ?_ GE293.out) | exact HB.out))⟩)
             rintro ⟨v286, gb293⟩ w104 ⟨hS_, h0_, h1_, h2_, h3_, h4_, h5_, h6_, h7_, h8_, h9_, h10_, h11_, h12_, h13_, h14_, h15_⟩
             have n0_ : Aside0 (Kd.N k46 46 w104 w.heap.size (fun k_ => some k_ ≠ (.slice Ao31 t254.length co31 : Value).ownBlock ∧ some k_ ≠ (.slice Ao40 t269.length co40 : Value).ownBlock ∧ k_ ≠ gb248 ∧ k_ ≠ gb262 ∧ k_ ≠ gb277 ∧ k_ ≠ gb293) v286 t285) := ⟨h0_⟩
             have n1_ : Aside0 (Kd.N k46 46 w104 w.heap.size (fun k_ => some k_ ≠ (v286 : Value).ownBlock ∧ some k_ ≠ (.slice Ao40 t269.length co40 : Value).ownBlock ∧ k_ ≠ gb248 ∧ k_ ≠ gb262 ∧ k_ ≠ gb277 ∧ k_ ≠ gb293) (.slice Ao31 t254.length co31) t254) := ⟨h1_⟩
             have n2_ : Aside0 (Kd.N k46 46 w104 w.heap.size (fun k_ => some k_ ≠ (v286 : Value).ownBlock ∧ some k_ ≠ (.slice Ao31 t254.length co31 : Value).ownBlock ∧ k_ ≠ gb248 ∧ k_ ≠ gb262 ∧ k_ ≠ gb277 ∧ k_ ≠ gb293) (.slice Ao40 t269.length co40) t269) := ⟨h2_⟩
             have n3_ : Aside0 (w104.heap[gb248]? = some (.cells #[.int .i64 a0_0, .int .i64 a0_1, .slice A0_2 l0_2.length c0_2, .int .i64 a0_3, .int .i64 a0_4, .int .i64 a0_5, .int .i64 a0_6] 26 (0, 0))) := ⟨h3_⟩
             have n4_ : Aside0 (w104.heap[gb262]? = some (.cells #[.int .i64 t252, .int .i64 t253, .slice Ao31 t254.length co31, .int .i64 t257, .int .i64 t258, .int .i64 t259, .int .i64 t260] 26 (0, 0))) := ⟨h4_⟩
             have n5_ : Aside0 (w104.heap[gb277]? = some (.cells #[.int .i64 t267, .int .i64 t268, .slice Ao40 t269.length co40, .int .i64 t272, .int .i64 t273, .int .i64 t274, .int .i64 t275] 26 (0, 0))) := ⟨h5_⟩
             have n6_ : Aside0 (w104.heap[gb293]? = some (.cells #[.int .i64 0, .int .i64 0, .slice none 0 0, .int .i64 0, .int .i64 0, .int .i64 0, .int .i64 0] 26 (0, 0))) := ⟨h6_⟩
             have n7_ : Aside0 (w.heap.size ≤ gb293) := ⟨h7_⟩
             have n8_ : Aside0 (w.heap.size ≤ gb293) := ⟨h8_⟩
             have n9_ : Aside0 (gb248 ≠ gb293) := ⟨h9_⟩
             have n10_ : Aside0 (gb293 ≠ gb248) := ⟨h10_⟩
             have n11_ : Aside0 (gb262 ≠ gb293) := ⟨h11_⟩
             have n12_ : Aside0 (gb293 ≠ gb262) := ⟨h12_⟩
             have n13_ : Aside0 (gb277 ≠ gb293) := ⟨h13_⟩
             have n14_ : Aside0 (gb293 ≠ gb277) := ⟨h14_⟩
             have n15_ : Aside0 (Below w.heap.size w w104) := ⟨h15_⟩
             clear HO_263002
             clear HO_278002
             clear BK248
             clear BK262
             clear BK277
             clear HB
             clear h0_ h1_ h2_ h3_ h4_ h5_ h6_ h7_ h8_ h9_ h10_ h11_ h12_ h13_ h14_ h15_
             have HO287 := n0_
             have HO_263002 := n1_
             have HO_278002 := n2_
             have BK248 := n3_
             have BK262 := n4_
             have BK277 := n5_
             have BK293 := n6_
             have GW293 := n7_
             have GE293 := n8_
             have NB248_293 := n9_
             have NB293_248 := n10_
             have NB262_293 := n11_
             have NB293_262 := n12_
             have NB277_293 := n13_
             have NB293_277 := n14_
             have HB := n15_
             clear n0_ n1_ n2_ n3_ n4_ n5_ n6_ n7_ n8_ n9_ n10_ n11_ n12_ n13_ n14_ n15_
             have hHeld : w104.cell? ⟨gb277, 0, none⟩ = some (.int .i64 t267) ∧ w104.cell? ⟨gb277, 1, none⟩ = some (.int .i64 t268) ∧ w104.cell? ⟨gb277, 2, none⟩ = some (.slice Ao40 t269.length co40) ∧ w104.cell? ⟨gb277, 3, none⟩ = some (.int .i64 t272) ∧ w104.cell? ⟨gb277, 4, none⟩ = some (.int .i64 t273) ∧ w104.cell? ⟨gb277, 5, none⟩ = some (.int .i64 t274) ∧ w104.cell? ⟨gb277, 6, none⟩ = some (.int .i64 t275) := hS_
             obtain ⟨Ao107, co107, eo107⟩ := Kd.N_slice HO287.out
             (first | subst eo107 | (injection eo107 with f1_ f2_ f3_; have f4_ := f1_.symm; have f5_ := f3_.symm; clear f1_ f2_ f3_; subst f4_; subst f5_))
             refine norm_ (a' := ?_) ?_ ?_
             rotate_left
             ·simp only [putAll, Act.put, List.setIfInBounds_toArray, List.set_cons_zero, List.set_cons_succ]
              rfl
             refine one_ (i := 9) (N := none) (bw 11 1023) rfl rfl (one_of HT_.out (by kernel_rfl)) (by decide) (fun K hK => ?_)
             have hs105 : w104.cell? ⟨gb293, 0, none⟩ = some (.int .i64 0) := (blk_cell BK293.out 0).trans rfl
             have hfs105 := blk_frozen BK293.out 0
             have hns105_0 := NB248_293.out
             have hns105_1 := NB262_293.out
             have hns105_2 := NB277_293.out
             have hms105_0 := NB293_248.out
             have hms105_1 := NB293_262.out
             have hms105_2 := NB293_277.out
             have hs106 : w104.cell? ⟨gb293, 1, none⟩ = some (.int .i64 0) := (blk_cell BK293.out 1).trans rfl
             have hfs106 := blk_frozen BK293.out 1
             have hns106_0 := NB248_293.out
             have hns106_1 := NB262_293.out
             have hns106_2 := NB277_293.out
             have hms106_0 := NB293_248.out
             have hms106_1 := NB293_262.out
             have hms106_2 := NB293_277.out
             have hs108 : w104.cell? ⟨gb293, 2, none⟩ = some (.slice none 0 0) := (blk_cell BK293.out 2).trans rfl
             have hfs108 := blk_frozen BK293.out 2
             have hns108_0 := NB248_293.out
             have hns108_1 := NB262_293.out
             have hns108_2 := NB277_293.out
             have hms108_0 := NB293_248.out
             have hms108_1 := NB293_262.out
             have hms108_2 := NB293_277.out
             have hs109 : w104.cell? ⟨gb293, 3, none⟩ = some (.int .i64 0) := (blk_cell BK293.out 3).trans rfl
             have hfs109 := blk_frozen BK293.out 3
             have hns109_0 := NB248_293.out
             have hns109_1 := NB262_293.out
             have hns109_2 := NB277_293.out
             have hms109_0 := NB293_248.out
             have hms109_1 := NB293_262.out
             have hms109_2 := NB293_277.out
             have hs110 : w104.cell? ⟨gb293, 4, none⟩ = some (.int .i64 0) := (blk_cell BK293.out 4).trans rfl
             have hfs110 := blk_frozen BK293.out 4
             have hns110_0 := NB248_293.out
             have hns110_1 := NB262_293.out
             have hns110_2 := NB277_293.out
             have hms110_0 := NB293_248.out
             have hms110_1 := NB293_262.out
             have hms110_2 := NB293_277.out
             have hs111 : w104.cell? ⟨gb293, 5, none⟩ = some (.int .i64 0) := (blk_cell BK293.out 5).trans rfl
             have hfs111 := blk_frozen BK293.out 5
             have hns111_0 := NB248_293.out
             have hns111_1 := NB262_293.out
             have hns111_2 := NB277_293.out
             have hms111_0 := NB293_248.out
             have hms111_1 := NB293_262.out
             have hms111_2 := NB293_277.out
             have hs112 : w104.cell? ⟨gb293, 6, none⟩ = some (.int .i64 0) := (blk_cell BK293.out 6).trans rfl
             have hfs112 := blk_frozen BK293.out 6
             have hns112_0 := NB248_293.out
             have hns112_1 := NB262_293.out
             have hns112_2 := NB277_293.out
             have hms112_0 := NB293_248.out
             have hms112_1 := NB293_262.out
             have hms112_2 := NB293_277.out
             refine skip_ (w1 := ?_) (by rfl) rfl ?_ ?_
             rotate_left
             ·go_simp
              rfl
             refine hK.out _ _ ⟨(cX1 hHeld.1 NB277_293.out), (cX1 hHeld.2.1 NB277_293.out), (cX1 hHeld.2.2.1 NB277_293.out), (cX1 hHeld.2.2.2.1 NB277_293.out), (cX1 hHeld.2.2.2.2.1 NB277_293.out), (cX1 hHeld.2.2.2.2.2.1 NB277_293.out), (cX1 hHeld.2.2.2.2.2.2 NB277_293.out)⟩ (fun hHeld => ?_)
             clear hK K
             refine pu 10 (some 13) (bw 11 2047) HT_.out (h := ?_)
             refine done_ (done_of HT_.out (by kernel_rfl)) ?_
             try go_wp2
             go_ret
             exact ⟨by first | rfl | (simp [errW_none, errW_some] <;> rfl) | (simp only [← hji21]; first | rfl | (simp [errW_none, errW_some] <;> rfl)) | (simp [*, errW_none, errW_some] <;> rfl), by repeat (first | (with_reducible first | exact HB.out | apply below_alloc | apply pw_below_drewN | apply below_drew1 | refine below_set ?_ GE248.out | refine below_set ?_ GE262.out | refine below_set ?_ GE277.out | refine below_set ?_ GE293.out) | exact HB.out)⟩
           ·rw [if_neg c51] at H
            exact absurd H (by simp)
          ·rw [if_neg c50] at H
           exact absurd H (by simp)
      ·rw [if_neg c23] at H
       exact absurd H (by simp)
     ·rw [if_neg c22] at H
      exact absurd H (by simp)
end Go.Proofs.Ytinldhpdfomcjaa.PRaftParts
