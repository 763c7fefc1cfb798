/- What the law reaches, as plain Lean functions, and that the machine's calls answer just that. -/
import Derived.Test.YtinldhpdfomcjaaPRaftPartsx0
import Derived.Test.YtinldhpdfomcjaaPRaftPartsx7
import Derived.Test.YtinldhpdfomcjaaPRaftPartsx8
namespace Go.Proofs.Ytinldhpdfomcjaa.PRaftParts
open Go.RowKit Go.Proofs.YtinldhpdfomcjaaW.PrintWords Go.Proofs.YtinldhpdfomcjaaW.PrintLast Go.Proofs.YtinldhpdfomcjaaW.PrintMore
attribute [local go_sem] max2_int min2_int max_two min_two max_three min_three max_four min_four
set_option linter.unusedVariables false
set_option linter.unusedSimpArgs false
attribute [local go_sem] wrap64_l1 wrap64_l2 wrap64_l3 wrap64_l4 wrap64_l5
def garnerlaw23_rows.l0 : Nat → Int → Int → Int → List (S46) → Int → Option ((List (S46)))
 | 0, _, _, _, _, _ => none
 | k + 1, x0, x1, x2, x7, x8 => if x8 < x2 then (if x7.length < 1353245080339 then (garnerlaw23_rows.l0 k x0 x1 x2 (x7 ++ [(⟨wrap64 (x0 + x8), x1, 0, (⟨#[]⟩ : ByteArray), (⟨false, ([] : List Int), (⟨0, 0, 0, 0⟩ : S42)⟩ : S44)⟩ : S46)]) (wrap64 (x8 + 1))) else (none)) else (some x7)
def garnerlaw23_rows.f (k : Nat) (a0 : Int) (a1 : Int) (a2 : Int) : Option ((List (S46))) := garnerlaw23_rows.l0 k a0 a1 a2 (([] : List (S46))) 0
theorem garnerlaw23_rows.mono_l : ∀ k, (∀ y0 y1 y2 y3 y4, LeO (garnerlaw23_rows.l0 k y0 y1 y2 y3 y4) (garnerlaw23_rows.l0 (k + 1) y0 y1 y2 y3 y4))
 | 0 => fun _ _ _ _ _ r h => by simp [garnerlaw23_rows.l0] at h
 | k + 1 => by
  have ih0 := garnerlaw23_rows.mono_l k
  ·intro y0 y1 y2 y3 y4
   unfold garnerlaw23_rows.l0
   repeat' first
   | (with_reducible exact ih0 _ _ _ _ _)
   | (with_reducible exact LeO.refl _)
   | (with_reducible exact LeO.none _)
   | (with_reducible refine LeO.ite ?_ ?_)
   | (with_reducible refine LeO.bind ?_ (fun _ => ?_))
   | exact ih0 _ _ _ _ _
   | exact LeO.none _
   | refine LeO.ite ?_ ?_
   | refine LeO.bind ?_ (fun _ => ?_)
theorem garnerlaw23_rows.mono : ∀ a0 a1 a2 k, LeO (garnerlaw23_rows.f k a0 a1 a2) (garnerlaw23_rows.f (k + 1) a0 a1 a2) := by
 intro a0 a1 a2 k
 have ih0 := garnerlaw23_rows.mono_l k
 unfold garnerlaw23_rows.f
 repeat' first
   | (with_reducible exact ih0 _ _ _ _ _)
   | (with_reducible exact LeO.refl _)
   | (with_reducible exact LeO.none _)
   | (with_reducible refine LeO.ite ?_ ?_)
   | (with_reducible refine LeO.bind ?_ (fun _ => ?_))
   | exact ih0 _ _ _ _ _
   | exact LeO.none _
   | refine LeO.ite ?_ ?_
   | refine LeO.bind ?_ (fun _ => ?_)
set_option maxHeartbeats 8000000 in
set_option maxRecDepth 100000 in
theorem garnerlaw23_rows.calls (k : Nat) (a0 : Int) (a1 : Int) (a2 : Int) (r : List (S46)) (w : World) (h : garnerlaw23_rows.f k a0 a1 a2 = some r) :
  Calls Try.prog 23 #[.int .i64 a0, .int .i64 a1, .int .i64 a2] w fun e w' => ∃ v0_ : Value, e = .returned (v0_) ∧ Kd.S k46 46 w' w.heap.size (fun _ => True) v0_ r ∧ Below w.heap.size w w' := by
 have hu46 := Try.underlying46
 have HB := Aside0.mk (Below.refl w.heap.size w)
 have H : (garnerlaw23_rows.l0 k a0 a1 a2 (([] : List (S46))) 0) = some r := h
 clear h
 obtain ⟨y193, hy193⟩ : ∃ y_ : List (S46), y_ = (([] : List (S46))) := ⟨_, rfl⟩
 replace H : (garnerlaw23_rows.l0 k a0 a1 a2 y193 0) = some r := by first | (rw [hy193]; with_reducible exact H) | (have H2_ := (Option.bind_some _ _).symm.trans H; rw [hy193]; with_reducible exact H2_) | (have H2_ := (Option.bind_some _ _).symm.trans H; with_reducible exact H2_) | with_reducible exact H | (rw [hy193]; exact H) | exact H
 have Ny193 := Aside0.mk hy193
 clear hy193
 have H' := Aside0.mk H
 clear H
 go_enter Try.func23, Try.ntmps23
 go_wp2_with (first | ((with_reducible refine gate_dst (N := 9) rfl ?_); refine Kd.S_lit k46 _ 46 ?hg (N := 9) ?hd (xs := ([] : List (S46))) (inner := []) (ok := fun _ => True) (okp := fun _ => True) ?hr ?hp (fun _ hk => hk) trivial (Below.refl _ _) (Nat.le_refl _) (by simp) ?_; (case hd => rfl); (case hg => rfl); (case hr => first | (go_simp; done) | (go_simp; rfl)); (case hp => exact (Reps.none _ _)); intro v194 w4 ho5 hb hg_ hnew_; clear hg_ hnew_; (first | rw [← Ny193.out] at ho5 | (simp only [Int.reduceToNat] at ho5; rw [← Ny193.out] at ho5)); have n0_ := Aside0.mk (Kd.S_lower ho5 (below_size (pB HB.out))); have n1_ := Aside0.mk (below_step (pB HB.out) hb); clear HB; have HO195 := n0_; have HB := n1_; clear n0_ n1_ hb ho5))
 go_loopg [7, 8] k (fun kq v7 v8 w' => ∃ (x7_1 : List (S46)) (x8_1 : Int), v8 = .int .i64 x8_1 ∧ Aside0 (garnerlaw23_rows.l0 kq a0 a1 a2 x7_1 x8_1 = some r) ∧ Aside0 (kq ≤ k) ∧ Aside0 (Kd.S k46 46 w' w.heap.size (fun _ => True) v7 x7_1) ∧ Aside0 (Below w.heap.size w w'))
 case atStart => exact ⟨(y193), (0), (by first | rfl | (simp; done) | (simp [*]; done)), H', ⟨Nat.le_refl _⟩, ⟨by (with_reducible repeat (first | apply Kd.S_alloc | apply Kd.S_drewN | apply Kd.S_drew)); exact HO195.out⟩, ⟨pB HB.out⟩⟩
 case round =>
  clear H'
  try clear c2
  try clear p2
  obtain ⟨x7_1, x8_1, rfl, HA, HK1, HO_7, HB⟩ := hrel
  cases gk with
  | zero => exact absurd HA.out (by simp [garnerlaw23_rows.l0])
  | succ k1 =>
   have H := HA.out
   clear HA
   simp only [garnerlaw23_rows.l0] at H
   by_cases c6 : x8_1 < a2
   ·rw [if_pos c6] at H
    have c6b0 : decide (x8_1 < a2) = true := decide_eq_true c6
    clear c6
    by_cases c7 : x7_1.length < 1353245080339
    ·rw [if_pos c7] at H
     have LMc7 := Aside0.mk c7
     clear c7
     obtain ⟨y196, hy196⟩ : ∃ y_ : List (S46), y_ = (x7_1 ++ [(⟨wrap64 (a0 + x8_1), a1, 0, (⟨#[]⟩ : ByteArray), (⟨false, ([] : List Int), (⟨0, 0, 0, 0⟩ : S42)⟩ : S44)⟩ : S46)]) := ⟨_, rfl⟩
     replace H : (garnerlaw23_rows.l0 k1 a0 a1 a2 y196 (wrap64 (x8_1 + 1))) = some r := by first | (rw [hy196]; with_reducible exact H) | (have H2_ := (Option.bind_some _ _).symm.trans H; rw [hy196]; with_reducible exact H2_) | (have H2_ := (Option.bind_some _ _).symm.trans H; with_reducible exact H2_) | with_reducible exact H | (rw [hy196]; exact H) | exact H
     have Ny196 := Aside0.mk hy196
     clear hy196
     have H' := Aside0.mk H
     clear H
     go_wp2_with (first | ((with_reducible refine gate_builtin (b := .append) (xs := #[.tmp 15, .tmp 21]) rfl ?_); at_builtin; refine Kd.S_append k46 (w0 := w) w.heap.size rfl (.tmp 15) (.tmp 21) 22 46 (.agg #[(.int .i64 0), (.int .i64 0), (.int .i64 0), (.string ⟨#[]⟩), (.bool false), (.slice none 0 0), (.int .i64 0), (.int .i64 0), (.int .i64 0), (.int .u32 0)]) 104 rfl Try.underlying22 info46 rfl (by decide) (by omega) u7 x7_1 (⟨wrap64 (a0 + x8_1), a1, 0, (⟨#[]⟩ : ByteArray), (⟨false, ([] : List Int), (⟨0, 0, 0, 0⟩ : S42)⟩ : S44)⟩ : S46) [.int .i64 (wrap64 (a0 + x8_1)), .int .i64 a1, .int .i64 0, .string (⟨#[]⟩ : ByteArray), .bool false, .slice none 0 0, .int .i64 0, .int .i64 0, .int .i64 0, .int .u32 0] (fun _ => True) (fun _ => False) rfl rfl ?aP (fun k_ hk_ => hk_.elim) ?aF ?aO ?aB ?aS ?aL ?_; (case aP => exact k46_mkM _ _ _ (⟨wrap64 (a0 + x8_1), a1, 0, (⟨#[]⟩ : ByteArray), (⟨false, ([] : List Int), (⟨0, 0, 0, 0⟩ : S42)⟩ : S44)⟩ : S46) (Kd.R_nil _ _ _ _ _)); (case aB => exact (pB HB.out)); (case aF => exact (fun _ _ => trivial)); (case aO => exact (by (with_reducible repeat (first | apply Kd.S_alloc | apply Kd.S_drewN | apply Kd.S_drew)); exact Kd.S_mono HO_7.out (fun k_ hk => ⟨trivial, fun e_ => e_⟩))); (case aS => exact (below_size (pB HB.out))); (case aL => have := LMc7.out; omega); intro v197 w8 ho hb hg hat; rw [← Ny196.out] at ho; have n0_ := Aside0.mk (hb); have n1_ := Aside0.mk (ho); clear HB HO_7; have HB := n0_; have HO198 := n1_; clear n0_ n1_ ho hb hg hat))
     go_roundg k1
     case measure => have := HK1.out; omega
     case rel => exact ⟨(y196), (wrap64 (x8_1 + 1)), (by first | rfl | (simp; done) | (simp [*]; done)), H', ⟨by have := HK1.out; omega⟩, ⟨by (with_reducible repeat (first | apply Kd.S_alloc | apply Kd.S_drewN | apply Kd.S_drew)); exact HO198.out⟩, ⟨pB HB.out⟩⟩
    ·rw [if_neg c7] at H
     exact absurd H (by simp)
   ·rw [if_neg c6] at H
    have c6b0 : decide (x8_1 < a2) = false := decide_eq_false c6
    clear c6
    obtain rfl := Option.some.inj H
    go_wp2
    go_ret
    exact ⟨_, pX, by (with_reducible repeat (first | apply Kd.S_alloc | apply Kd.S_drewN | apply Kd.S_drew)); exact HO_7.out, pB HB.out⟩
def garnerlaw23_awake.f (k : Nat)  : Option (Bool) := (garnerlaw23_rows.f k 1 1 3).bind fun t199 => ((raft_Put.f k 0 0 ([] : List (S46)) 0 0 0 0 t199).bind fun bt202 => ((garnerlaw23_rows.f k 2 2 1).bind fun t213 => ((raft_Put.f k bt202.1 bt202.2.1 bt202.2.2.1 bt202.2.2.2.1 bt202.2.2.2.2.1 bt202.2.2.2.2.2.1 bt202.2.2.2.2.2.2.1 t213).bind fun bt216 => ((raft_Last.f k bt216.1 bt216.2.1 bt216.2.2.1 bt216.2.2.2.1 bt216.2.2.2.2.1 bt216.2.2.2.2.2.1 bt216.2.2.2.2.2.2.1).bind fun bt226 => (if bt202.2.2.2.2.2.2.2 = 0 then (if bt216.2.2.2.2.2.2.2 = 0 then (if bt226.1 = 2 then (if bt226.2 = 2 then (some ((bt216.2.2.1.length : Int) == 2)) else (some false)) else (some false)) else (some false)) else (some false))))))
theorem garnerlaw23_awake.mono : ∀ k, LeO (garnerlaw23_awake.f k ) (garnerlaw23_awake.f (k + 1) ) := by
 intro  k
 unfold garnerlaw23_awake.f
 repeat' first
   | (with_reducible exact garnerlaw23_rows.mono _ _ _ _)
   | (with_reducible exact raft_Last.mono _ _ _ _ _ _ _ _)
   | (with_reducible exact raft_Put.mono _ _ _ _ _ _ _ _ _)
   | (with_reducible exact LeO.refl _)
   | (with_reducible exact LeO.none _)
   | (with_reducible refine LeO.ite ?_ ?_)
   | (with_reducible refine LeO.bind ?_ (fun _ => ?_))
   | exact garnerlaw23_rows.mono _ _ _ _
   | exact raft_Last.mono _ _ _ _ _ _ _ _
   | exact raft_Put.mono _ _ _ _ _ _ _ _ _
   | exact LeO.none _
   | refine LeO.ite ?_ ?_
   | refine LeO.bind ?_ (fun _ => ?_)
def garnerlaw23_awake.T2 : Bool × List (List Nat × List Nat) := (true, [([], []), ([], []), ([0, 1, 1], [0, 1]), ([2], [2]), ([3], [3]), ([3], [3]), ([4, 2, 0, 1, 2, 3, 4], [4]), ([5, 6, 0, 1, 2, 3, 4, 5, 6], [5])])
def garnerlaw23_awake.B2 : List Nat := [0, 0, 3, 7, 15, 15, 31, 127]
theorem garnerlaw23_awake.tab2 : rtab .any (opsOf Try.f8 2) = garnerlaw23_awake.T2 := by kernel_rfl
theorem garnerlaw23_awake.bits2 : waitsOk garnerlaw23_awake.T2.2 garnerlaw23_awake.B2 = true := by kernel_rfl
set_option maxHeartbeats 8000000 in
set_option maxRecDepth 100000 in
theorem garnerlaw23_awake.calls (k : Nat)  (r : Bool) (w : World) (h : garnerlaw23_awake.f k  = some r) :
  Calls Try.prog 8 #[] w fun e w' => e = .returned (.bool r) ∧ Below w.heap.size w w' := by
 have hu26 := Try.underlying26
 have HB := Aside0.mk (Below.refl w.heap.size w)
 have H : ((garnerlaw23_rows.f k 1 1 3).bind fun t199 => ((raft_Put.f k 0 0 ([] : List (S46)) 0 0 0 0 t199).bind fun bt202 => ((garnerlaw23_rows.f k 2 2 1).bind fun t213 => ((raft_Put.f k bt202.1 bt202.2.1 bt202.2.2.1 bt202.2.2.2.1 bt202.2.2.2.2.1 bt202.2.2.2.2.2.1 bt202.2.2.2.2.2.2.1 t213).bind fun bt216 => ((raft_Last.f k bt216.1 bt216.2.1 bt216.2.2.1 bt216.2.2.2.1 bt216.2.2.2.2.1 bt216.2.2.2.2.2.1 bt216.2.2.2.2.2.2.1).bind fun bt226 => (if bt202.2.2.2.2.2.2.2 = 0 then (if bt216.2.2.2.2.2.2.2 = 0 then (if bt226.1 = 2 then (if bt226.2 = 2 then (some ((bt216.2.2.1.length : Int) == 2)) else (some false)) else (some false)) else (some false)) else (some false))))))) = some r := h
 clear h
 replace H := Option.bind_eq_some_iff.mp H
 obtain ⟨t199, A10, H⟩ := H
 replace H : ((raft_Put.f k 0 0 ([] : List (S46)) 0 0 0 0 t199).bind fun bt202 => ((garnerlaw23_rows.f k 2 2 1).bind fun t213 => ((raft_Put.f k bt202.1 bt202.2.1 bt202.2.2.1 bt202.2.2.2.1 bt202.2.2.2.2.1 bt202.2.2.2.2.2.1 bt202.2.2.2.2.2.2.1 t213).bind fun bt216 => ((raft_Last.f k bt216.1 bt216.2.1 bt216.2.2.1 bt216.2.2.2.1 bt216.2.2.2.2.1 bt216.2.2.2.2.2.1 bt216.2.2.2.2.2.2.1).bind fun bt226 => (if bt202.2.2.2.2.2.2.2 = 0 then (if bt216.2.2.2.2.2.2.2 = 0 then (if bt226.1 = 2 then (if bt226.2 = 2 then (some ((bt216.2.2.1.length : Int) == 2)) else (some false)) else (some false)) else (some false)) else (some false)))))) = some r := H
 have A1 := Aside0.mk A10
 clear A10
 replace H := Option.bind_eq_some_iff.mp H
 obtain ⟨⟨t202, t203, t204, t207, t208, t209, t210, t211⟩, A20, H⟩ := H
 replace H : ((garnerlaw23_rows.f k 2 2 1).bind fun t213 => ((raft_Put.f k t202 t203 t204 t207 t208 t209 t210 t213).bind fun bt216 => ((raft_Last.f k bt216.1 bt216.2.1 bt216.2.2.1 bt216.2.2.2.1 bt216.2.2.2.2.1 bt216.2.2.2.2.2.1 bt216.2.2.2.2.2.2.1).bind fun bt226 => (if t211 = 0 then (if bt216.2.2.2.2.2.2.2 = 0 then (if bt226.1 = 2 then (if bt226.2 = 2 then (some ((bt216.2.2.1.length : Int) == 2)) else (some false)) else (some false)) else (some false)) else (some false))))) = some r := H
 have A2 := Aside0.mk A20
 clear A20
 replace H := Option.bind_eq_some_iff.mp H
 obtain ⟨t213, A30, H⟩ := H
 replace H : ((raft_Put.f k t202 t203 t204 t207 t208 t209 t210 t213).bind fun bt216 => ((raft_Last.f k bt216.1 bt216.2.1 bt216.2.2.1 bt216.2.2.2.1 bt216.2.2.2.2.1 bt216.2.2.2.2.2.1 bt216.2.2.2.2.2.2.1).bind fun bt226 => (if t211 = 0 then (if bt216.2.2.2.2.2.2.2 = 0 then (if bt226.1 = 2 then (if bt226.2 = 2 then (some ((bt216.2.2.1.length : Int) == 2)) else (some false)) else (some false)) else (some false)) else (some false)))) = some r := H
 have A3 := Aside0.mk A30
 clear A30
 replace H := Option.bind_eq_some_iff.mp H
 obtain ⟨⟨t216, t217, t218, t221, t222, t223, t224, t225⟩, A40, H⟩ := H
 replace H : ((raft_Last.f k t216 t217 t218 t221 t222 t223 t224).bind fun bt226 => (if t211 = 0 then (if t225 = 0 then (if bt226.1 = 2 then (if bt226.2 = 2 then (some ((t218.length : Int) == 2)) else (some false)) else (some false)) else (some false)) else (some false))) = some r := H
 have A4 := Aside0.mk A40
 clear A40
 replace H := Option.bind_eq_some_iff.mp H
 obtain ⟨⟨t226, t227⟩, A50, H⟩ := H
 replace H : (if t211 = 0 then (if t225 = 0 then (if t226 = 2 then (if t227 = 2 then (some ((t218.length : Int) == 2)) else (some false)) else (some false)) else (some false)) else (some false)) = some r := H
 have A5 := Aside0.mk A50
 clear A50
 by_cases c6 : t211 = 0
 ·rw [if_pos c6] at H
  have c6b0 : (t211 == 0) = true := beq_iff_eq.mpr c6
  have c6b1 : (t211 != 0) = false := bne_eq_false_iff_eq.mpr c6
  clear c6
  by_cases c7 : t225 = 0
  ·rw [if_pos c7] at H
   have c7b0 : (t225 == 0) = true := beq_iff_eq.mpr c7
   have c7b1 : (t225 != 0) = false := bne_eq_false_iff_eq.mpr c7
   clear c7
   by_cases c8 : t226 = 2
   ·rw [if_pos c8] at H
    have c8b0 : (t226 == 2) = true := beq_iff_eq.mpr c8
    have c8b1 : (t226 != 2) = false := bne_eq_false_iff_eq.mpr c8
    clear c8
    by_cases c9 : t227 = 2
    ·rw [if_pos c9] at H
     have c9b0 : (t227 == 2) = true := beq_iff_eq.mpr c9
     have c9b1 : (t227 != 2) = false := bne_eq_false_iff_eq.mpr c9
     clear c9
     obtain rfl := Option.some.inj H
     go_enter Try.func8, Try.ntmps8
     try go_wp2_with (first | ((with_reducible refine gate_callee (f := 23) rfl ?_); refine goesL_ (some 8) rfl rfl Try.func23 (by kernel_rfl) rfl #[.int .i64 1, .int .i64 1, .int .i64 3] rfl pL ?_; (with_reducible refine (garnerlaw23_rows.calls k 1 1 3 t199 _ A1.out).mono ?_); rintro e w10 ⟨v200, rfl, ho0, hb⟩; refine ⟨_, rfl, ?_⟩; have n0_ := Aside0.mk (Kd.N_lower (Kd.N_mono (ok' := fun k_ => True) (Kd.S_N (Kd.S_bound ho0)) (fun k_ hk_ => trivial)) (below_size (pB HB.out))); have n1_ := Aside0.mk (below_step (pB HB.out) hb); clear HB; have HO201 := n0_; have HB := n1_; clear n0_ n1_; (try clear hb); (try clear hb2); (try clear hk); (try clear hi); (try clear ho0); obtain ⟨Ao11, co11, eo11⟩ := Kd.N_slice HO201.out; subst eo11) | ((with_reducible refine gate_callee (f := 9) rfl ?_); refine goesL_ (some 9) rfl rfl Try.func9 (by kernel_rfl) rfl #[.agg #[.int .i64 0, .int .i64 0, .slice none 0 0, .int .i64 0, .int .i64 0, .int .i64 0, .int .i64 0], .slice Ao11 t199.length co11] rfl pL ?_; (refine (raft_Put.calls k 0 0 _ _ ([] : List (S46)) 0 0 0 0 _ _ t199 t202 t203 t204 t207 t208 t209 t210 t211 _ ?side1 ?side2 ?side3 ?side4 A2.out).mono ?_); (case side1 => exact Kd.C_nil _ _); (case side2 => exact Nat.le_refl _); (case side3 => exact pC (Kd.N_reads' HO201.out).2.2); (case side4 => exact (Kd.N_reads' HO201.out).2.1); rintro e w12 ⟨v205, rfl, ho0, hb⟩; refine ⟨_, rfl, ?_⟩; have n0_ := Aside0.mk (Kd.N_elder' (pN HO201.out) (Kd.N_base ho0) hb); have n1_ := Aside0.mk (Kd.N_lower (Kd.N_mono (ok' := fun k_ => some k_ ≠ (.slice Ao11 t199.length co11 : Value).ownBlock) ho0 (fun k_ hk_ => (Kd.fresh' (Kd.N_lt (pN HO201.out)) k_ hk_))) (below_size (pB HB.out))); have n2_ := Aside0.mk (below_step (pB HB.out) hb); clear HO201 HB; have HO201 := n0_; have HO206 := n1_; have HB := n2_; clear n0_ n1_ n2_; (try clear hb); (try clear hb2); (try clear hk); (try clear hi); (try clear ho0)) | ((with_reducible refine gate_dst (N := 1) rfl ?_); (try (refine gate_guard (by rfl) ?_; dsimp only)); refine box_event ?hg (N := 1) ?hd (cs := #[.int .i64 0, .int .i64 0, .slice none 0 0, .int .i64 0, .int .i64 0, .int .i64 0, .int .i64 0]) (t := 26) ?hr ?_; (case hd => rfl); (case hg => rfl); (case hr => first | (go_simp; done) | (go_simp; rfl)); intro gb212 hg w13 hbox hb; have n0_ := Aside0.mk (Kd.N_below (Kd.N_elderB (pN HO201.out) gb212 (Nat.le_of_eq hg.symm)) hb); have n1_ := Aside0.mk (Kd.N_below (Kd.N_elderB (pN HO206.out) gb212 (Nat.le_of_eq hg.symm)) hb); have n2_ := Aside0.mk (below_step (pB HB.out) hb); have n3_ := Aside0.mk (hbox); have n4_ := Aside0.mk ((by rw [hg]; exact (below_size (pB HB.out)) : w.heap.size ≤ gb212)); have n5_ := n4_; clear HO201 HO206 HB; have HO201 := n0_; have HO206 := n1_; have HB := n2_; have BK212 := n3_; have GW212 := n4_; have GE212 := n5_; clear n0_ n1_ n2_ n3_ n4_ n5_ hb hbox hg; obtain ⟨hcz14_0, hcz14_1, hcz14_2, hcz14_3, hcz14_4, hcz14_5, hcz14_6⟩ := bc7 BK212.out; obtain ⟨hfz14_0, hfz14_1, hfz14_2, hfz14_3, hfz14_4, hfz14_5, hfz14_6⟩ := bf7 BK212.out; obtain ⟨Ao15, co15, eo15⟩ := Kd.N_slice HO206.out; subst eo15))
     have n0_ : Aside0 (Kd.N k46 46 (((((((w13.setCell ⟨gb212, 0, none⟩ (.int .i64 t202)).setCell ⟨gb212, 1, none⟩ (.int .i64 t203)).setCell ⟨gb212, 2, none⟩ (.slice Ao15 t204.length co15)).setCell ⟨gb212, 3, none⟩ (.int .i64 t207)).setCell ⟨gb212, 4, none⟩ (.int .i64 t208)).setCell ⟨gb212, 5, none⟩ (.int .i64 t209)).setCell ⟨gb212, 6, none⟩ (.int .i64 t210)) w.heap.size (fun k_ => some k_ ≠ (.slice Ao15 t204.length co15 : Value).ownBlock ∧ k_ ≠ gb212) (.slice Ao11 t199.length co11) t199) := ⟨by (with_reducible repeat (first | apply Kd.N_alloc | apply Kd.N_drewN | apply Kd.N_drew)); exact Kd.N_mono (Nf7 (g := gb212) (Kd.N_mono HO201.out (fun k_ hk => (⟨hk, hk.2⟩ : _ ∧ k_ ≠ gb212))) (fun _ hk => hk.2)) (fun _ hk => ⟨hk.1.1.2, hk.1.2⟩)⟩
     have n1_ : Aside0 (Kd.N k46 46 (((((((w13.setCell ⟨gb212, 0, none⟩ (.int .i64 t202)).setCell ⟨gb212, 1, none⟩ (.int .i64 t203)).setCell ⟨gb212, 2, none⟩ (.slice Ao15 t204.length co15)).setCell ⟨gb212, 3, none⟩ (.int .i64 t207)).setCell ⟨gb212, 4, none⟩ (.int .i64 t208)).setCell ⟨gb212, 5, none⟩ (.int .i64 t209)).setCell ⟨gb212, 6, none⟩ (.int .i64 t210)) w.heap.size (fun k_ => some k_ ≠ (.slice Ao11 t199.length co11 : Value).ownBlock ∧ k_ ≠ gb212) (.slice Ao15 t204.length co15) t204) := ⟨by (with_reducible repeat (first | apply Kd.N_alloc | apply Kd.N_drewN | apply Kd.N_drew)); exact Kd.N_mono (Nf7 (g := gb212) (Kd.N_mono HO206.out (fun k_ hk => (⟨hk, hk.2⟩ : _ ∧ k_ ≠ gb212))) (fun _ hk => hk.2)) (fun _ hk => ⟨hk.1.1, hk.1.2⟩)⟩
     have n2_ : Aside0 ((((((((w13.setCell ⟨gb212, 0, none⟩ (.int .i64 t202)).setCell ⟨gb212, 1, none⟩ (.int .i64 t203)).setCell ⟨gb212, 2, none⟩ (.slice Ao15 t204.length co15)).setCell ⟨gb212, 3, none⟩ (.int .i64 t207)).setCell ⟨gb212, 4, none⟩ (.int .i64 t208)).setCell ⟨gb212, 5, none⟩ (.int .i64 t209)).setCell ⟨gb212, 6, none⟩ (.int .i64 t210)).heap[gb212]? = some (.cells #[.int .i64 t202, .int .i64 t203, .slice Ao15 t204.length co15, .int .i64 t207, .int .i64 t208, .int .i64 t209, .int .i64 t210] 26 (0, 0))) := ⟨kX0 BK212.out⟩
     have n3_ : Aside0 (Below w.heap.size w (((((((w13.setCell ⟨gb212, 0, none⟩ (.int .i64 t202)).setCell ⟨gb212, 1, none⟩ (.int .i64 t203)).setCell ⟨gb212, 2, none⟩ (.slice Ao15 t204.length co15)).setCell ⟨gb212, 3, none⟩ (.int .i64 t207)).setCell ⟨gb212, 4, none⟩ (.int .i64 t208)).setCell ⟨gb212, 5, none⟩ (.int .i64 t209)).setCell ⟨gb212, 6, none⟩ (.int .i64 t210))) := ⟨pE HB.out GE212.out⟩
     (try clear HO201)
     (try clear HO206)
     (try clear BK212)
     (try clear HB)
     generalize (((((((w13.setCell ⟨gb212, 0, none⟩ (.int .i64 t202)).setCell ⟨gb212, 1, none⟩ (.int .i64 t203)).setCell ⟨gb212, 2, none⟩ (.slice Ao15 t204.length co15)).setCell ⟨gb212, 3, none⟩ (.int .i64 t207)).setCell ⟨gb212, 4, none⟩ (.int .i64 t208)).setCell ⟨gb212, 5, none⟩ (.int .i64 t209)).setCell ⟨gb212, 6, none⟩ (.int .i64 t210)) = w16 at n0_ n1_ n2_ n3_ ⊢
     have HO201 := n0_
     have HO206 := n1_
     have BK212 := n2_
     have HB := n3_
     clear n0_ n1_ n2_ n3_
     have n0_ := Aside0.mk (Kd.N_drew HO201.out)
     have n1_ := Aside0.mk (Kd.N_drew HO206.out)
     have n2_ := Aside0.mk (blk_drew BK212.out)
     have n3_ := Aside0.mk (below_drew1 HB.out)
     clear HO201
     clear HO206
     clear BK212
     clear HB
     have HO201 := n0_
     have HO206 := n1_
     have BK212 := n2_
     have HB := n3_
     clear n0_ n1_ n2_ n3_
     refine start_ (n := 8) (S := fun w' => cG w' gb212 0 (.int .i64 t202) ∧ cG w' gb212 1 (.int .i64 t203) ∧ cG w' gb212 2 (.slice Ao15 t204.length co15) ∧ cG w' gb212 3 (.int .i64 t207) ∧ cG w' gb212 4 (.int .i64 t208) ∧ cG w' gb212 5 (.int .i64 t209) ∧ cG w' gb212 6 (.int .i64 t210)) (ds := [6]) #[false, false, false, false, false, false, false, false] (by kernel_rfl) rfl rfl ⟨(blk_cell BK212.out 0).trans rfl, (blk_cell BK212.out 1).trans rfl, (blk_cell BK212.out 2).trans rfl, (blk_cell BK212.out 3).trans rfl, (blk_cell BK212.out 4).trans rfl, (blk_cell BK212.out 5).trans rfl, (blk_cell BK212.out 6).trans rfl⟩ (fun hHeld => ?_); refine with_tabW garnerlaw23_awake.tab2 garnerlaw23_awake.bits2 (fun HT_ HW_ => ?_)
     generalize w16.drew = w17 at HO201 HO206 BK212 HB hHeld ⊢
     refine tk 0 (some 13) (bw 8 1) HT_.out HW_.out hHeld (h := ?_)
     refine one_ (i := 1) (N := some 14) (bw 8 3) rfl rfl (one_of HT_.out (by kernel_rfl)) (by decide) (fun K hK => ?_)
     refine goes_ Try.func23 (by kernel_rfl) rfl #[.int .i64 2, .int .i64 2, .int .i64 1] (by rfl) rfl rfl pL ?_
     with_reducible refine (garnerlaw23_rows.calls k 2 2 1 t213 _ A3.out).mono ?_
     rintro e w18 ⟨v214, rfl, ho0, hb⟩
     refine ⟨_, rfl, ?_⟩
     have n0_ := Aside0.mk (Kd.N_elder' (pN HO201.out) (Kd.N_base (Kd.S_N ho0)) hb)
     have n1_ := Aside0.mk (Kd.N_elder' (pN HO206.out) (Kd.N_base (Kd.S_N ho0)) hb)
     have n2_ := Aside0.mk (Kd.N_lower (Kd.N_mono (ok' := fun k_ => some k_ ≠ (.slice Ao11 t199.length co11 : Value).ownBlock ∧ some k_ ≠ (.slice Ao15 t204.length co15 : Value).ownBlock ∧ k_ ≠ gb212) (Kd.S_N (Kd.S_bound ho0)) (fun k_ hk_ => ⟨(Kd.fresh' (Kd.N_lt (pN HO201.out)) k_ hk_.2.1), (Kd.fresh' (Kd.N_lt (pN HO206.out)) k_ hk_.2.1), (kF BK212.out k_ hk_.2.1)⟩)) (below_size (pE HB.out GE212.out)))
     have n3_ := Aside0.mk (kB BK212.out hb)
     have n4_ := Aside0.mk (below_step (pE HB.out GE212.out) hb)
     clear HO201
     clear HO206
     clear BK212
     clear HB
     have HO201 := n0_
     have HO206 := n1_
     have HO215 := n2_
     have BK212 := n3_
     have HB := n4_
     clear n0_ n1_ n2_ n3_ n4_
     (try clear hb)
     (try clear hb2)
     (try clear hk)
     (try clear hi)
     (try clear ho0)
     obtain ⟨Ao19, co19, eo19⟩ := Kd.N_slice HO215.out
     (first | subst eo19 | (injection eo19 with f1_ f2_ f3_; have f4_ := f1_.symm; have f5_ := f3_.symm; clear f1_ f2_ f3_; subst f4_; subst f5_))
     refine hK.out _ _ ⟨(blk_cell BK212.out 0).trans rfl, (blk_cell BK212.out 1).trans rfl, (blk_cell BK212.out 2).trans rfl, (blk_cell BK212.out 3).trans rfl, (blk_cell BK212.out 4).trans rfl, (blk_cell BK212.out 5).trans rfl, (blk_cell BK212.out 6).trans rfl⟩ (fun hHeld => ?_)
     clear hK K
     refine norm_ (a' := ?_) ?_ ?_
     rotate_left
     ·show Act.put _ (some 14) _ = _
      simp only [Act.put, List.setIfInBounds_toArray, List.set_cons_zero, List.set_cons_succ, i64_w, i32_w]
      rfl
     refine one_ (i := 2) (N := some 15) (bw 8 7) rfl rfl (one_of HT_.out (by kernel_rfl)) (by decide) (fun K hK => ?_)
     refine goes_ Try.func9 (by kernel_rfl) rfl #[.agg #[.int .i64 t202, .int .i64 t203, .slice Ao15 t204.length co15, .int .i64 t207, .int .i64 t208, .int .i64 t209, .int .i64 t210], .slice Ao19 t213.length co19] (by rfl) rfl rfl pL ?_
     with_reducible refine (raft_Put.calls k t202 t203 _ _ t204 t207 t208 t209 t210 _ _ t213 t216 t217 t218 t221 t222 t223 t224 t225 _ ?side1 ?side2 ?side3 ?side4 A4.out).mono ?_
     (case side1 => exact pC (Kd.N_reads' HO206.out).2.2)
     (case side2 => exact (Kd.N_reads' HO206.out).2.1)
     (case side3 => exact pC (Kd.N_reads' HO215.out).2.2)
     (case side4 => exact (Kd.N_reads' HO215.out).2.1)
     rintro e w20 ⟨v219, rfl, ho0, hb⟩
     refine ⟨_, rfl, ?_⟩
     have n0_ := Aside0.mk (Kd.N_elder' (pN HO201.out) (Kd.N_base ho0) hb)
     have n1_ := Aside0.mk (Kd.N_elder' (pN HO206.out) (Kd.N_base ho0) hb)
     have n2_ := Aside0.mk (Kd.N_elder' (pN HO215.out) (Kd.N_base ho0) hb)
     have n3_ := Aside0.mk (Kd.N_lower (Kd.N_mono (ok' := fun k_ => some k_ ≠ (.slice Ao11 t199.length co11 : Value).ownBlock ∧ some k_ ≠ (.slice Ao15 t204.length co15 : Value).ownBlock ∧ some k_ ≠ (.slice Ao19 t213.length co19 : Value).ownBlock ∧ k_ ≠ gb212) ho0 (fun k_ hk_ => ⟨(Kd.fresh' (Kd.N_lt (pN HO201.out)) k_ hk_), (Kd.fresh' (Kd.N_lt (pN HO206.out)) k_ hk_), (Kd.fresh' (Kd.N_lt (pN HO215.out)) k_ hk_), (kF BK212.out k_ hk_)⟩)) (below_size (pE HB.out GE212.out)))
     have n4_ := Aside0.mk (kB BK212.out hb)
     have n5_ := Aside0.mk (below_step (pE HB.out GE212.out) hb)
     clear HO201
     clear HO206
     clear HO215
     clear BK212
     clear HB
     have HO201 := n0_
     have HO206 := n1_
     have HO215 := n2_
     have HO220 := n3_
     have BK212 := n4_
     have HB := n5_
     clear n0_ n1_ n2_ n3_ n4_ n5_
     (try clear hb)
     (try clear hb2)
     (try clear hk)
     (try clear hi)
     (try clear ho0)
     obtain ⟨Ao23, co23, eo23⟩ := Kd.N_slice HO220.out
     (first | subst eo23 | (injection eo23 with f1_ f2_ f3_; have f4_ := f1_.symm; have f5_ := f3_.symm; clear f1_ f2_ f3_; subst f4_; subst f5_))
     refine hK.out _ _ ⟨(blk_cell BK212.out 0).trans rfl, (blk_cell BK212.out 1).trans rfl, (blk_cell BK212.out 2).trans rfl, (blk_cell BK212.out 3).trans rfl, (blk_cell BK212.out 4).trans rfl, (blk_cell BK212.out 5).trans rfl, (blk_cell BK212.out 6).trans rfl⟩ (fun hHeld => ?_)
     clear hK K
     refine norm_ (a' := ?_) ?_ ?_
     rotate_left
     ·show Act.put _ (some 15) _ = _
      simp only [Act.put, List.setIfInBounds_toArray, List.set_cons_zero, List.set_cons_succ, i64_w, i32_w]
      rfl
     refine pu 3 (some 12) (bw 8 15) HT_.out (h := ?_)
     refine pu 4 (some 16) (bw 8 31) HT_.out (h := ?_)
     refine pu 5 (some 17) (bw 8 63) HT_.out (h := ?_)
     refine last_ (i := 6) (N := none) (bw 8 127) rfl rfl (one_of HT_.out (by kernel_rfl)) (by decide) (fun K hK => ?_)
     have hs21 : w20.cell? ⟨gb212, 0, none⟩ = some (.int .i64 t202) := (blk_cell BK212.out 0).trans rfl
     have hfs21 := blk_frozen BK212.out 0
     have hs22 : w20.cell? ⟨gb212, 1, none⟩ = some (.int .i64 t203) := (blk_cell BK212.out 1).trans rfl
     have hfs22 := blk_frozen BK212.out 1
     have hs24 : w20.cell? ⟨gb212, 2, none⟩ = some (.slice Ao15 t204.length co15) := (blk_cell BK212.out 2).trans rfl
     have hfs24 := blk_frozen BK212.out 2
     have hs25 : w20.cell? ⟨gb212, 3, none⟩ = some (.int .i64 t207) := (blk_cell BK212.out 3).trans rfl
     have hfs25 := blk_frozen BK212.out 3
     have hs26 : w20.cell? ⟨gb212, 4, none⟩ = some (.int .i64 t208) := (blk_cell BK212.out 4).trans rfl
     have hfs26 := blk_frozen BK212.out 4
     have hs27 : w20.cell? ⟨gb212, 5, none⟩ = some (.int .i64 t209) := (blk_cell BK212.out 5).trans rfl
     have hfs27 := blk_frozen BK212.out 5
     have hs28 : w20.cell? ⟨gb212, 6, none⟩ = some (.int .i64 t210) := (blk_cell BK212.out 6).trans rfl
     have hfs28 := blk_frozen BK212.out 6
     refine skip_ (w1 := ?_) (by rfl) rfl ?_ ?_
     rotate_left
     ·go_simp
      rfl
     refine hK.out _ _ ?_
     clear hK K
     refine pu 7 (some 3) (bw 8 255) HT_.out (h := ?_)
     refine done_ (done_of HT_.out (by kernel_rfl)) ?_
     obtain ⟨hcz29_0, hcz29_1, hcz29_2, hcz29_3, hcz29_4, hcz29_5, hcz29_6⟩ := bc7 BK212.out
     obtain ⟨hfz29_0, hfz29_1, hfz29_2, hfz29_3, hfz29_4, hfz29_5, hfz29_6⟩ := bf7 BK212.out
     try go_wp2_with (first | ((with_reducible refine gate_callee (f := 24) rfl ?_); refine goesL_ (some 20) rfl rfl Try.func24 (by kernel_rfl) rfl #[.agg #[.int .i64 t216, .int .i64 t217, .slice Ao23 t218.length co23, .int .i64 t221, .int .i64 t222, .int .i64 t223, .int .i64 t224]] rfl pL ?_; (with_reducible refine (raft_Last.calls k t216 t217 _ _ t218 t221 t222 t223 t224 t226 t227 _ ?side1 ?side2 A5.out).mono ?_); (case side1 => refine (Kd.N_reads' (e := 46) (base := w.heap.size) (ok := fun k_ => (some k_ ≠ (.slice Ao11 t199.length co11 : Value).ownBlock ∧ (some k_ ≠ (.slice Ao15 t204.length co15 : Value).ownBlock ∧ (some k_ ≠ (.slice Ao19 t213.length co19 : Value).ownBlock ∧ k_ ≠ gb212)))) (n := t218.length) (c := co23) ?_).2.2; exact (by (with_reducible repeat (first | apply Kd.N_alloc | apply Kd.N_drewN | apply Kd.N_drew)); exact (Kd.N_mono (Nf7 (g := gb212) (Kd.N_mono HO220.out (fun k_ hk => (⟨hk, hk.2.2.2⟩ : _ ∧ k_ ≠ gb212))) (fun _ hk => hk.2)) (fun _ h_ => h_.1)))); (case side2 => exact (Kd.N_reads' HO220.out).2.1); rintro e w30 ⟨rfl, hb⟩; refine ⟨_, rfl, ?_⟩; have n0_ := Aside0.mk (Kd.N_below (by (with_reducible repeat (first | apply Kd.N_alloc | apply Kd.N_drewN | apply Kd.N_drew)); exact (Kd.N_mono (Nf7 (g := gb212) (Kd.N_mono HO201.out (fun k_ hk => (⟨hk, hk.1.1.2⟩ : _ ∧ k_ ≠ gb212))) (fun _ hk => hk.2)) (fun _ h_ => h_.1))) hb); have n1_ := Aside0.mk (Kd.N_below (by (with_reducible repeat (first | apply Kd.N_alloc | apply Kd.N_drewN | apply Kd.N_drew)); exact (Kd.N_mono (Nf7 (g := gb212) (Kd.N_mono HO206.out (fun k_ hk => (⟨hk, hk.1.1.2⟩ : _ ∧ k_ ≠ gb212))) (fun _ hk => hk.2)) (fun _ h_ => h_.1))) hb); have n2_ := Aside0.mk (Kd.N_below (by (with_reducible repeat (first | apply Kd.N_alloc | apply Kd.N_drewN | apply Kd.N_drew)); exact (Kd.N_mono (Nf7 (g := gb212) (Kd.N_mono HO215.out (fun k_ hk => (⟨hk, hk.1.2.2⟩ : _ ∧ k_ ≠ gb212))) (fun _ hk => hk.2)) (fun _ h_ => h_.1))) hb); have n3_ := Aside0.mk (Kd.N_below (by (with_reducible repeat (first | apply Kd.N_alloc | apply Kd.N_drewN | apply Kd.N_drew)); exact (Kd.N_mono (Nf7 (g := gb212) (Kd.N_mono HO220.out (fun k_ hk => (⟨hk, hk.2.2.2⟩ : _ ∧ k_ ≠ gb212))) (fun _ hk => hk.2)) (fun _ h_ => h_.1))) hb); have n4_ := Aside0.mk (blk_below (g := gb212) (kX0 BK212.out) hb); have n5_ := Aside0.mk (below_step (pE HB.out GE212.out) hb); clear HO201 HO206 HO215 HO220 BK212 HB; have HO201 := n0_; have HO206 := n1_; have HO215 := n2_; have HO220 := n3_; have BK212 := n4_; have HB := n5_; clear n0_ n1_ n2_ n3_ n4_ n5_; (try clear hb); (try clear hb2); (try clear hk); (try clear hi); obtain ⟨hcz31_0, hcz31_1, hcz31_2, hcz31_3, hcz31_4, hcz31_5, hcz31_6⟩ := bc7 BK212.out; obtain ⟨hfz31_0, hfz31_1, hfz31_2, hfz31_3, hfz31_4, hfz31_5, hfz31_6⟩ := bf7 BK212.out))
     go_ret
     exact ⟨pX, pE HB.out GE212.out⟩
    ·rw [if_neg c9] at H
     have c9b0 : (t227 == 2) = false := beq_eq_false_iff_ne.mpr c9
     have c9b1 : (t227 != 2) = true := bne_iff_ne.mpr c9
     obtain rfl := Option.some.inj H
     go_enter Try.func8, Try.ntmps8
     try go_wp2_with (first | ((with_reducible refine gate_callee (f := 23) rfl ?_); refine goesL_ (some 8) rfl rfl Try.func23 (by kernel_rfl) rfl #[.int .i64 1, .int .i64 1, .int .i64 3] rfl pL ?_; (with_reducible refine (garnerlaw23_rows.calls k 1 1 3 t199 _ A1.out).mono ?_); rintro e w32 ⟨v200, rfl, ho0, hb⟩; refine ⟨_, rfl, ?_⟩; have n0_ := Aside0.mk (Kd.N_lower (Kd.N_mono (ok' := fun k_ => True) (Kd.S_N (Kd.S_bound ho0)) (fun k_ hk_ => trivial)) (below_size (pB HB.out))); have n1_ := Aside0.mk (below_step (pB HB.out) hb); clear HB; have HO201 := n0_; have HB := n1_; clear n0_ n1_; (try clear hb); (try clear hb2); (try clear hk); (try clear hi); (try clear ho0); obtain ⟨Ao33, co33, eo33⟩ := Kd.N_slice HO201.out; subst eo33) | ((with_reducible refine gate_callee (f := 9) rfl ?_); refine goesL_ (some 9) rfl rfl Try.func9 (by kernel_rfl) rfl #[.agg #[.int .i64 0, .int .i64 0, .slice none 0 0, .int .i64 0, .int .i64 0, .int .i64 0, .int .i64 0], .slice Ao33 t199.length co33] rfl pL ?_; (refine (raft_Put.calls k 0 0 _ _ ([] : List (S46)) 0 0 0 0 _ _ t199 t202 t203 t204 t207 t208 t209 t210 t211 _ ?side1 ?side2 ?side3 ?side4 A2.out).mono ?_); (case side1 => exact Kd.C_nil _ _); (case side2 => exact Nat.le_refl _); (case side3 => exact pC (Kd.N_reads' HO201.out).2.2); (case side4 => exact (Kd.N_reads' HO201.out).2.1); rintro e w34 ⟨v205, rfl, ho0, hb⟩; refine ⟨_, rfl, ?_⟩; have n0_ := Aside0.mk (Kd.N_elder' (pN HO201.out) (Kd.N_base ho0) hb); have n1_ := Aside0.mk (Kd.N_lower (Kd.N_mono (ok' := fun k_ => some k_ ≠ (.slice Ao33 t199.length co33 : Value).ownBlock) ho0 (fun k_ hk_ => (Kd.fresh' (Kd.N_lt (pN HO201.out)) k_ hk_))) (below_size (pB HB.out))); have n2_ := Aside0.mk (below_step (pB HB.out) hb); clear HO201 HB; have HO201 := n0_; have HO206 := n1_; have HB := n2_; clear n0_ n1_ n2_; (try clear hb); (try clear hb2); (try clear hk); (try clear hi); (try clear ho0)) | ((with_reducible refine gate_dst (N := 1) rfl ?_); (try (refine gate_guard (by rfl) ?_; dsimp only)); refine box_event ?hg (N := 1) ?hd (cs := #[.int .i64 0, .int .i64 0, .slice none 0 0, .int .i64 0, .int .i64 0, .int .i64 0, .int .i64 0]) (t := 26) ?hr ?_; (case hd => rfl); (case hg => rfl); (case hr => first | (go_simp; done) | (go_simp; rfl)); intro gb212 hg w35 hbox hb; have n0_ := Aside0.mk (Kd.N_below (Kd.N_elderB (pN HO201.out) gb212 (Nat.le_of_eq hg.symm)) hb); have n1_ := Aside0.mk (Kd.N_below (Kd.N_elderB (pN HO206.out) gb212 (Nat.le_of_eq hg.symm)) hb); have n2_ := Aside0.mk (below_step (pB HB.out) hb); have n3_ := Aside0.mk (hbox); have n4_ := Aside0.mk ((by rw [hg]; exact (below_size (pB HB.out)) : w.heap.size ≤ gb212)); have n5_ := n4_; clear HO201 HO206 HB; have HO201 := n0_; have HO206 := n1_; have HB := n2_; have BK212 := n3_; have GW212 := n4_; have GE212 := n5_; clear n0_ n1_ n2_ n3_ n4_ n5_ hb hbox hg; obtain ⟨hcz36_0, hcz36_1, hcz36_2, hcz36_3, hcz36_4, hcz36_5, hcz36_6⟩ := bc7 BK212.out; obtain ⟨hfz36_0, hfz36_1, hfz36_2, hfz36_3, hfz36_4, hfz36_5, hfz36_6⟩ := bf7 BK212.out; obtain ⟨Ao37, co37, eo37⟩ := Kd.N_slice HO206.out; subst eo37))
     have n0_ : Aside0 (Kd.N k46 46 (((((((w35.setCell ⟨gb212, 0, none⟩ (.int .i64 t202)).setCell ⟨gb212, 1, none⟩ (.int .i64 t203)).setCell ⟨gb212, 2, none⟩ (.slice Ao37 t204.length co37)).setCell ⟨gb212, 3, none⟩ (.int .i64 t207)).setCell ⟨gb212, 4, none⟩ (.int .i64 t208)).setCell ⟨gb212, 5, none⟩ (.int .i64 t209)).setCell ⟨gb212, 6, none⟩ (.int .i64 t210)) w.heap.size (fun k_ => some k_ ≠ (.slice Ao37 t204.length co37 : Value).ownBlock ∧ k_ ≠ gb212) (.slice Ao33 t199.length co33) t199) := ⟨by (with_reducible repeat (first | apply Kd.N_alloc | apply Kd.N_drewN | apply Kd.N_drew)); exact Kd.N_mono (Nf7 (g := gb212) (Kd.N_mono HO201.out (fun k_ hk => (⟨hk, hk.2⟩ : _ ∧ k_ ≠ gb212))) (fun _ hk => hk.2)) (fun _ hk => ⟨hk.1.1.2, hk.1.2⟩)⟩
     have n1_ : Aside0 (Kd.N k46 46 (((((((w35.setCell ⟨gb212, 0, none⟩ (.int .i64 t202)).setCell ⟨gb212, 1, none⟩ (.int .i64 t203)).setCell ⟨gb212, 2, none⟩ (.slice Ao37 t204.length co37)).setCell ⟨gb212, 3, none⟩ (.int .i64 t207)).setCell ⟨gb212, 4, none⟩ (.int .i64 t208)).setCell ⟨gb212, 5, none⟩ (.int .i64 t209)).setCell ⟨gb212, 6, none⟩ (.int .i64 t210)) w.heap.size (fun k_ => some k_ ≠ (.slice Ao33 t199.length co33 : Value).ownBlock ∧ k_ ≠ gb212) (.slice Ao37 t204.length co37) t204) := ⟨by (with_reducible repeat (first | apply Kd.N_alloc | apply Kd.N_drewN | apply Kd.N_drew)); exact Kd.N_mono (Nf7 (g := gb212) (Kd.N_mono HO206.out (fun k_ hk => (⟨hk, hk.2⟩ : _ ∧ k_ ≠ gb212))) (fun _ hk => hk.2)) (fun _ hk => ⟨hk.1.1, hk.1.2⟩)⟩
     have n2_ : Aside0 ((((((((w35.setCell ⟨gb212, 0, none⟩ (.int .i64 t202)).setCell ⟨gb212, 1, none⟩ (.int .i64 t203)).setCell ⟨gb212, 2, none⟩ (.slice Ao37 t204.length co37)).setCell ⟨gb212, 3, none⟩ (.int .i64 t207)).setCell ⟨gb212, 4, none⟩ (.int .i64 t208)).setCell ⟨gb212, 5, none⟩ (.int .i64 t209)).setCell ⟨gb212, 6, none⟩ (.int .i64 t210)).heap[gb212]? = some (.cells #[.int .i64 t202, .int .i64 t203, .slice Ao37 t204.length co37, .int .i64 t207, .int .i64 t208, .int .i64 t209, .int .i64 t210] 26 (0, 0))) := ⟨kX0 BK212.out⟩
     have n3_ : Aside0 (Below w.heap.size w (((((((w35.setCell ⟨gb212, 0, none⟩ (.int .i64 t202)).setCell ⟨gb212, 1, none⟩ (.int .i64 t203)).setCell ⟨gb212, 2, none⟩ (.slice Ao37 t204.length co37)).setCell ⟨gb212, 3, none⟩ (.int .i64 t207)).setCell ⟨gb212, 4, none⟩ (.int .i64 t208)).setCell ⟨gb212, 5, none⟩ (.int .i64 t209)).setCell ⟨gb212, 6, none⟩ (.int .i64 t210))) := ⟨pE HB.out GE212.out⟩
     (try clear HO201)
     (try clear HO206)
     (try clear BK212)
     (try clear HB)
     generalize (((((((w35.setCell ⟨gb212, 0, none⟩ (.int .i64 t202)).setCell ⟨gb212, 1, none⟩ (.int .i64 t203)).setCell ⟨gb212, 2, none⟩ (.slice Ao37 t204.length co37)).setCell ⟨gb212, 3, none⟩ (.int .i64 t207)).setCell ⟨gb212, 4, none⟩ (.int .i64 t208)).setCell ⟨gb212, 5, none⟩ (.int .i64 t209)).setCell ⟨gb212, 6, none⟩ (.int .i64 t210)) = w38 at n0_ n1_ n2_ n3_ ⊢
     have HO201 := n0_
     have HO206 := n1_
     have BK212 := n2_
     have HB := n3_
     clear n0_ n1_ n2_ n3_
     have n0_ := Aside0.mk (Kd.N_drew HO201.out)
     have n1_ := Aside0.mk (Kd.N_drew HO206.out)
     have n2_ := Aside0.mk (blk_drew BK212.out)
     have n3_ := Aside0.mk (below_drew1 HB.out)
     clear HO201
     clear HO206
     clear BK212
     clear HB
     have HO201 := n0_
     have HO206 := n1_
     have BK212 := n2_
     have HB := n3_
     clear n0_ n1_ n2_ n3_
     refine start_ (n := 8) (S := fun w' => cG w' gb212 0 (.int .i64 t202) ∧ cG w' gb212 1 (.int .i64 t203) ∧ cG w' gb212 2 (.slice Ao37 t204.length co37) ∧ cG w' gb212 3 (.int .i64 t207) ∧ cG w' gb212 4 (.int .i64 t208) ∧ cG w' gb212 5 (.int .i64 t209) ∧ cG w' gb212 6 (.int .i64 t210)) (ds := [6]) #[false, false, false, false, false, false, false, false] (by kernel_rfl) rfl rfl ⟨(blk_cell BK212.out 0).trans rfl, (blk_cell BK212.out 1).trans rfl, (blk_cell BK212.out 2).trans rfl, (blk_cell BK212.out 3).trans rfl, (blk_cell BK212.out 4).trans rfl, (blk_cell BK212.out 5).trans rfl, (blk_cell BK212.out 6).trans rfl⟩ (fun hHeld => ?_); refine with_tabW garnerlaw23_awake.tab2 garnerlaw23_awake.bits2 (fun HT_ HW_ => ?_)
     generalize w38.drew = w39 at HO201 HO206 BK212 HB hHeld ⊢
     refine tk 0 (some 13) (bw 8 1) HT_.out HW_.out hHeld (h := ?_)
     refine one_ (i := 1) (N := some 14) (bw 8 3) rfl rfl (one_of HT_.out (by kernel_rfl)) (by decide) (fun K hK => ?_)
     refine goes_ Try.func23 (by kernel_rfl) rfl #[.int .i64 2, .int .i64 2, .int .i64 1] (by rfl) rfl rfl pL ?_
     with_reducible refine (garnerlaw23_rows.calls k 2 2 1 t213 _ A3.out).mono ?_
     rintro e w40 ⟨v214, rfl, ho0, hb⟩
     refine ⟨_, rfl, ?_⟩
     have n0_ := Aside0.mk (Kd.N_elder' (pN HO201.out) (Kd.N_base (Kd.S_N ho0)) hb)
     have n1_ := Aside0.mk (Kd.N_elder' (pN HO206.out) (Kd.N_base (Kd.S_N ho0)) hb)
     have n2_ := Aside0.mk (Kd.N_lower (Kd.N_mono (ok' := fun k_ => some k_ ≠ (.slice Ao33 t199.length co33 : Value).ownBlock ∧ some k_ ≠ (.slice Ao37 t204.length co37 : Value).ownBlock ∧ k_ ≠ gb212) (Kd.S_N (Kd.S_bound ho0)) (fun k_ hk_ => ⟨(Kd.fresh' (Kd.N_lt (pN HO201.out)) k_ hk_.2.1), (Kd.fresh' (Kd.N_lt (pN HO206.out)) k_ hk_.2.1), (kF BK212.out k_ hk_.2.1)⟩)) (below_size (pE HB.out GE212.out)))
     have n3_ := Aside0.mk (kB BK212.out hb)
     have n4_ := Aside0.mk (below_step (pE HB.out GE212.out) hb)
     clear HO201
     clear HO206
     clear BK212
     clear HB
     have HO201 := n0_
     have HO206 := n1_
     have HO215 := n2_
     have BK212 := n3_
     have HB := n4_
     clear n0_ n1_ n2_ n3_ n4_
     (try clear hb)
     (try clear hb2)
     (try clear hk)
     (try clear hi)
     (try clear ho0)
     obtain ⟨Ao41, co41, eo41⟩ := Kd.N_slice HO215.out
     (first | subst eo41 | (injection eo41 with f1_ f2_ f3_; have f4_ := f1_.symm; have f5_ := f3_.symm; clear f1_ f2_ f3_; subst f4_; subst f5_))
     refine hK.out _ _ ⟨(blk_cell BK212.out 0).trans rfl, (blk_cell BK212.out 1).trans rfl, (blk_cell BK212.out 2).trans rfl, (blk_cell BK212.out 3).trans rfl, (blk_cell BK212.out 4).trans rfl, (blk_cell BK212.out 5).trans rfl, (blk_cell BK212.out 6).trans rfl⟩ (fun hHeld => ?_)
     clear hK K
     refine norm_ (a' := ?_) ?_ ?_
     rotate_left
     ·show Act.put _ (some 14) _ = _
      simp only [Act.put, List.setIfInBounds_toArray, List.set_cons_zero, List.set_cons_succ, i64_w, i32_w]
      rfl
     refine one_ (i := 2) (N := some 15) (bw 8 7) rfl rfl (one_of HT_.out (by kernel_rfl)) (by decide) (fun K hK => ?_)
     refine goes_ Try.func9 (by kernel_rfl) rfl #[.agg #[.int .i64 t202, .int .i64 t203, .slice Ao37 t204.length co37, .int .i64 t207, .int .i64 t208, .int .i64 t209, .int .i64 t210], .slice Ao41 t213.length co41] (by rfl) rfl rfl pL ?_
     with_reducible refine (raft_Put.calls k t202 t203 _ _ t204 t207 t208 t209 t210 _ _ t213 t216 t217 t218 t221 t222 t223 t224 t225 _ ?side1 ?side2 ?side3 ?side4 A4.out).mono ?_
     (case side1 => exact pC (Kd.N_reads' HO206.out).2.2)
     (case side2 => exact (Kd.N_reads' HO206.out).2.1)
     (case side3 => exact pC (Kd.N_reads' HO215.out).2.2)
     (case side4 => exact (Kd.N_reads' HO215.out).2.1)
     rintro e w42 ⟨v219, rfl, ho0, hb⟩
     refine ⟨_, rfl, ?_⟩
     have n0_ := Aside0.mk (Kd.N_elder' (pN HO201.out) (Kd.N_base ho0) hb)
     have n1_ := Aside0.mk (Kd.N_elder' (pN HO206.out) (Kd.N_base ho0) hb)
     have n2_ := Aside0.mk (Kd.N_elder' (pN HO215.out) (Kd.N_base ho0) hb)
     have n3_ := Aside0.mk (Kd.N_lower (Kd.N_mono (ok' := fun k_ => some k_ ≠ (.slice Ao33 t199.length co33 : Value).ownBlock ∧ some k_ ≠ (.slice Ao37 t204.length co37 : Value).ownBlock ∧ some k_ ≠ (.slice Ao41 t213.length co41 : Value).ownBlock ∧ k_ ≠ gb212) ho0 (fun k_ hk_ => ⟨(Kd.fresh' (Kd.N_lt (pN HO201.out)) k_ hk_), (Kd.fresh' (Kd.N_lt (pN HO206.out)) k_ hk_), (Kd.fresh' (Kd.N_lt (pN HO215.out)) k_ hk_), (kF BK212.out k_ hk_)⟩)) (below_size (pE HB.out GE212.out)))
     have n4_ := Aside0.mk (kB BK212.out hb)
     have n5_ := Aside0.mk (below_step (pE HB.out GE212.out) hb)
     clear HO201
     clear HO206
     clear HO215
     clear BK212
     clear HB
     have HO201 := n0_
     have HO206 := n1_
     have HO215 := n2_
     have HO220 := n3_
     have BK212 := n4_
     have HB := n5_
     clear n0_ n1_ n2_ n3_ n4_ n5_
     (try clear hb)
     (try clear hb2)
     (try clear hk)
     (try clear hi)
     (try clear ho0)
     obtain ⟨Ao45, co45, eo45⟩ := Kd.N_slice HO220.out
     (first | subst eo45 | (injection eo45 with f1_ f2_ f3_; have f4_ := f1_.symm; have f5_ := f3_.symm; clear f1_ f2_ f3_; subst f4_; subst f5_))
     refine hK.out _ _ ⟨(blk_cell BK212.out 0).trans rfl, (blk_cell BK212.out 1).trans rfl, (blk_cell BK212.out 2).trans rfl, (blk_cell BK212.out 3).trans rfl, (blk_cell BK212.out 4).trans rfl, (blk_cell BK212.out 5).trans rfl, (blk_cell BK212.out 6).trans rfl⟩ (fun hHeld => ?_)
     clear hK K
     refine norm_ (a' := ?_) ?_ ?_
     rotate_left
     ·show Act.put _ (some 15) _ = _
      simp only [Act.put, List.setIfInBounds_toArray, List.set_cons_zero, List.set_cons_succ, i64_w, i32_w]
      rfl
     refine pu 3 (some 12) (bw 8 15) HT_.out (h := ?_)
     refine pu 4 (some 16) (bw 8 31) HT_.out (h := ?_)
     refine pu 5 (some 17) (bw 8 63) HT_.out (h := ?_)
     refine last_ (i := 6) (N := none) (bw 8 127) rfl rfl (one_of HT_.out (by kernel_rfl)) (by decide) (fun K hK => ?_)
     have hs43 : w42.cell? ⟨gb212, 0, none⟩ = some (.int .i64 t202) := (blk_cell BK212.out 0).trans rfl
     have hfs43 := blk_frozen BK212.out 0
     have hs44 : w42.cell? ⟨gb212, 1, none⟩ = some (.int .i64 t203) := (blk_cell BK212.out 1).trans rfl
     have hfs44 := blk_frozen BK212.out 1
     have hs46 : w42.cell? ⟨gb212, 2, none⟩ = some (.slice Ao37 t204.length co37) := (blk_cell BK212.out 2).trans rfl
     have hfs46 := blk_frozen BK212.out 2
     have hs47 : w42.cell? ⟨gb212, 3, none⟩ = some (.int .i64 t207) := (blk_cell BK212.out 3).trans rfl
     have hfs47 := blk_frozen BK212.out 3
     have hs48 : w42.cell? ⟨gb212, 4, none⟩ = some (.int .i64 t208) := (blk_cell BK212.out 4).trans rfl
     have hfs48 := blk_frozen BK212.out 4
     have hs49 : w42.cell? ⟨gb212, 5, none⟩ = some (.int .i64 t209) := (blk_cell BK212.out 5).trans rfl
     have hfs49 := blk_frozen BK212.out 5
     have hs50 : w42.cell? ⟨gb212, 6, none⟩ = some (.int .i64 t210) := (blk_cell BK212.out 6).trans rfl
     have hfs50 := blk_frozen BK212.out 6
     refine skip_ (w1 := ?_) (by rfl) rfl ?_ ?_
     rotate_left
     ·go_simp
      rfl
     refine hK.out _ _ ?_
     clear hK K
     refine pu 7 (some 3) (bw 8 255) HT_.out (h := ?_)
     refine done_ (done_of HT_.out (by kernel_rfl)) ?_
     obtain ⟨hcz51_0, hcz51_1, hcz51_2, hcz51_3, hcz51_4, hcz51_5, hcz51_6⟩ := bc7 BK212.out
     obtain ⟨hfz51_0, hfz51_1, hfz51_2, hfz51_3, hfz51_4, hfz51_5, hfz51_6⟩ := bf7 BK212.out
     try go_wp2_with (first | ((with_reducible refine gate_callee (f := 24) rfl ?_); refine goesL_ (some 20) rfl rfl Try.func24 (by kernel_rfl) rfl #[.agg #[.int .i64 t216, .int .i64 t217, .slice Ao45 t218.length co45, .int .i64 t221, .int .i64 t222, .int .i64 t223, .int .i64 t224]] rfl pL ?_; (with_reducible refine (raft_Last.calls k t216 t217 _ _ t218 t221 t222 t223 t224 t226 t227 _ ?side1 ?side2 A5.out).mono ?_); (case side1 => refine (Kd.N_reads' (e := 46) (base := w.heap.size) (ok := fun k_ => (some k_ ≠ (.slice Ao33 t199.length co33 : Value).ownBlock ∧ (some k_ ≠ (.slice Ao37 t204.length co37 : Value).ownBlock ∧ (some k_ ≠ (.slice Ao41 t213.length co41 : Value).ownBlock ∧ k_ ≠ gb212)))) (n := t218.length) (c := co45) ?_).2.2; exact (by (with_reducible repeat (first | apply Kd.N_alloc | apply Kd.N_drewN | apply Kd.N_drew)); exact (Kd.N_mono (Nf7 (g := gb212) (Kd.N_mono HO220.out (fun k_ hk => (⟨hk, hk.2.2.2⟩ : _ ∧ k_ ≠ gb212))) (fun _ hk => hk.2)) (fun _ h_ => h_.1)))); (case side2 => exact (Kd.N_reads' HO220.out).2.1); rintro e w52 ⟨rfl, hb⟩; refine ⟨_, rfl, ?_⟩; have n0_ := Aside0.mk (Kd.N_below (by (with_reducible repeat (first | apply Kd.N_alloc | apply Kd.N_drewN | apply Kd.N_drew)); exact (Kd.N_mono (Nf7 (g := gb212) (Kd.N_mono HO201.out (fun k_ hk => (⟨hk, hk.1.1.2⟩ : _ ∧ k_ ≠ gb212))) (fun _ hk => hk.2)) (fun _ h_ => h_.1))) hb); have n1_ := Aside0.mk (Kd.N_below (by (with_reducible repeat (first | apply Kd.N_alloc | apply Kd.N_drewN | apply Kd.N_drew)); exact (Kd.N_mono (Nf7 (g := gb212) (Kd.N_mono HO206.out (fun k_ hk => (⟨hk, hk.1.1.2⟩ : _ ∧ k_ ≠ gb212))) (fun _ hk => hk.2)) (fun _ h_ => h_.1))) hb); have n2_ := Aside0.mk (Kd.N_below (by (with_reducible repeat (first | apply Kd.N_alloc | apply Kd.N_drewN | apply Kd.N_drew)); exact (Kd.N_mono (Nf7 (g := gb212) (Kd.N_mono HO215.out (fun k_ hk => (⟨hk, hk.1.2.2⟩ : _ ∧ k_ ≠ gb212))) (fun _ hk => hk.2)) (fun _ h_ => h_.1))) hb); have n3_ := Aside0.mk (Kd.N_below (by (with_reducible repeat (first | apply Kd.N_alloc | apply Kd.N_drewN | apply Kd.N_drew)); exact (Kd.N_mono (Nf7 (g := gb212) (Kd.N_mono HO220.out (fun k_ hk => (⟨hk, hk.2.2.2⟩ : _ ∧ k_ ≠ gb212))) (fun _ hk => hk.2)) (fun _ h_ => h_.1))) hb); have n4_ := Aside0.mk (blk_below (g := gb212) (kX0 BK212.out) hb); have n5_ := Aside0.mk (below_step (pE HB.out GE212.out) hb); clear HO201 HO206 HO215 HO220 BK212 HB; have HO201 := n0_; have HO206 := n1_; have HO215 := n2_; have HO220 := n3_; have BK212 := n4_; have HB := n5_; clear n0_ n1_ n2_ n3_ n4_ n5_; (try clear hb); (try clear hb2); (try clear hk); (try clear hi)))
     go_ret
     exact ⟨pX, pE HB.out GE212.out⟩
   ·rw [if_neg c8] at H
    have c8b0 : (t226 == 2) = false := beq_eq_false_iff_ne.mpr c8
    have c8b1 : (t226 != 2) = true := bne_iff_ne.mpr c8
    obtain rfl := Option.some.inj H
    go_enter Try.func8, Try.ntmps8
    try go_wp2_with (first | ((with_reducible refine gate_callee (f := 23) rfl ?_); refine goesL_ (some 8) rfl rfl Try.func23 (by kernel_rfl) rfl #[.int .i64 1, .int .i64 1, .int .i64 3] rfl pL ?_; (with_reducible refine (garnerlaw23_rows.calls k 1 1 3 t199 _ A1.out).mono ?_); rintro e w53 ⟨v200, rfl, ho0, hb⟩; refine ⟨_, rfl, ?_⟩; have n0_ := Aside0.mk (Kd.N_lower (Kd.N_mono (ok' := fun k_ => True) (Kd.S_N (Kd.S_bound ho0)) (fun k_ hk_ => trivial)) (below_size (pB HB.out))); have n1_ := Aside0.mk (below_step (pB HB.out) hb); clear HB; have HO201 := n0_; have HB := n1_; clear n0_ n1_; (try clear hb); (try clear hb2); (try clear hk); (try clear hi); (try clear ho0); obtain ⟨Ao54, co54, eo54⟩ := Kd.N_slice HO201.out; subst eo54) | ((with_reducible refine gate_callee (f := 9) rfl ?_); refine goesL_ (some 9) rfl rfl Try.func9 (by kernel_rfl) rfl #[.agg #[.int .i64 0, .int .i64 0, .slice none 0 0, .int .i64 0, .int .i64 0, .int .i64 0, .int .i64 0], .slice Ao54 t199.length co54] rfl pL ?_; (refine (raft_Put.calls k 0 0 _ _ ([] : List (S46)) 0 0 0 0 _ _ t199 t202 t203 t204 t207 t208 t209 t210 t211 _ ?side1 ?side2 ?side3 ?side4 A2.out).mono ?_); (case side1 => exact Kd.C_nil _ _); (case side2 => exact Nat.le_refl _); (case side3 => exact pC (Kd.N_reads' HO201.out).2.2); (case side4 => exact (Kd.N_reads' HO201.out).2.1); rintro e w55 ⟨v205, rfl, ho0, hb⟩; refine ⟨_, rfl, ?_⟩; have n0_ := Aside0.mk (Kd.N_elder' (pN HO201.out) (Kd.N_base ho0) hb); have n1_ := Aside0.mk (Kd.N_lower (Kd.N_mono (ok' := fun k_ => some k_ ≠ (.slice Ao54 t199.length co54 : Value).ownBlock) ho0 (fun k_ hk_ => (Kd.fresh' (Kd.N_lt (pN HO201.out)) k_ hk_))) (below_size (pB HB.out))); have n2_ := Aside0.mk (below_step (pB HB.out) hb); clear HO201 HB; have HO201 := n0_; have HO206 := n1_; have HB := n2_; clear n0_ n1_ n2_; (try clear hb); (try clear hb2); (try clear hk); (try clear hi); (try clear ho0)) | ((with_reducible refine gate_dst (N := 1) rfl ?_); (try (refine gate_guard (by rfl) ?_; dsimp only)); refine box_event ?hg (N := 1) ?hd (cs := #[.int .i64 0, .int .i64 0, .slice none 0 0, .int .i64 0, .int .i64 0, .int .i64 0, .int .i64 0]) (t := 26) ?hr ?_; (case hd => rfl); (case hg => rfl); (case hr => first | (go_simp; done) | (go_simp; rfl)); intro gb212 hg w56 hbox hb; have n0_ := Aside0.mk (Kd.N_below (Kd.N_elderB (pN HO201.out) gb212 (Nat.le_of_eq hg.symm)) hb); have n1_ := Aside0.mk (Kd.N_below (Kd.N_elderB (pN HO206.out) gb212 (Nat.le_of_eq hg.symm)) hb); have n2_ := Aside0.mk (below_step (pB HB.out) hb); have n3_ := Aside0.mk (hbox); have n4_ := Aside0.mk ((by rw [hg]; exact (below_size (pB HB.out)) : w.heap.size ≤ gb212)); have n5_ := n4_; clear HO201 HO206 HB; have HO201 := n0_; have HO206 := n1_; have HB := n2_; have BK212 := n3_; have GW212 := n4_; have GE212 := n5_; clear n0_ n1_ n2_ n3_ n4_ n5_ hb hbox hg; obtain ⟨hcz57_0, hcz57_1, hcz57_2, hcz57_3, hcz57_4, hcz57_5, hcz57_6⟩ := bc7 BK212.out; obtain ⟨hfz57_0, hfz57_1, hfz57_2, hfz57_3, hfz57_4, hfz57_5, hfz57_6⟩ := bf7 BK212.out; obtain ⟨Ao58, co58, eo58⟩ := Kd.N_slice HO206.out; subst eo58))
    have n0_ : Aside0 (Kd.N k46 46 (((((((w56.setCell ⟨gb212, 0, none⟩ (.int .i64 t202)).setCell ⟨gb212, 1, none⟩ (.int .i64 t203)).setCell ⟨gb212, 2, none⟩ (.slice Ao58 t204.length co58)).setCell ⟨gb212, 3, none⟩ (.int .i64 t207)).setCell ⟨gb212, 4, none⟩ (.int .i64 t208)).setCell ⟨gb212, 5, none⟩ (.int .i64 t209)).setCell ⟨gb212, 6, none⟩ (.int .i64 t210)) w.heap.size (fun k_ => some k_ ≠ (.slice Ao58 t204.length co58 : Value).ownBlock ∧ k_ ≠ gb212) (.slice Ao54 t199.length co54) t199) := ⟨by (with_reducible repeat (first | apply Kd.N_alloc | apply Kd.N_drewN | apply Kd.N_drew)); exact Kd.N_mono (Nf7 (g := gb212) (Kd.N_mono HO201.out (fun k_ hk => (⟨hk, hk.2⟩ : _ ∧ k_ ≠ gb212))) (fun _ hk => hk.2)) (fun _ hk => ⟨hk.1.1.2, hk.1.2⟩)⟩
    have n1_ : Aside0 (Kd.N k46 46 (((((((w56.setCell ⟨gb212, 0, none⟩ (.int .i64 t202)).setCell ⟨gb212, 1, none⟩ (.int .i64 t203)).setCell ⟨gb212, 2, none⟩ (.slice Ao58 t204.length co58)).setCell ⟨gb212, 3, none⟩ (.int .i64 t207)).setCell ⟨gb212, 4, none⟩ (.int .i64 t208)).setCell ⟨gb212, 5, none⟩ (.int .i64 t209)).setCell ⟨gb212, 6, none⟩ (.int .i64 t210)) w.heap.size (fun k_ => some k_ ≠ (.slice Ao54 t199.length co54 : Value).ownBlock ∧ k_ ≠ gb212) (.slice Ao58 t204.length co58) t204) := ⟨by (with_reducible repeat (first | apply Kd.N_alloc | apply Kd.N_drewN | apply Kd.N_drew)); exact Kd.N_mono (Nf7 (g := gb212) (Kd.N_mono HO206.out (fun k_ hk => (⟨hk, hk.2⟩ : _ ∧ k_ ≠ gb212))) (fun _ hk => hk.2)) (fun _ hk => ⟨hk.1.1, hk.1.2⟩)⟩
    have n2_ : Aside0 ((((((((w56.setCell ⟨gb212, 0, none⟩ (.int .i64 t202)).setCell ⟨gb212, 1, none⟩ (.int .i64 t203)).setCell ⟨gb212, 2, none⟩ (.slice Ao58 t204.length co58)).setCell ⟨gb212, 3, none⟩ (.int .i64 t207)).setCell ⟨gb212, 4, none⟩ (.int .i64 t208)).setCell ⟨gb212, 5, none⟩ (.int .i64 t209)).setCell ⟨gb212, 6, none⟩ (.int .i64 t210)).heap[gb212]? = some (.cells #[.int .i64 t202, .int .i64 t203, .slice Ao58 t204.length co58, .int .i64 t207, .int .i64 t208, .int .i64 t209, .int .i64 t210] 26 (0, 0))) := ⟨kX0 BK212.out⟩
    have n3_ : Aside0 (Below w.heap.size w (((((((w56.setCell ⟨gb212, 0, none⟩ (.int .i64 t202)).setCell ⟨gb212, 1, none⟩ (.int .i64 t203)).setCell ⟨gb212, 2, none⟩ (.slice Ao58 t204.length co58)).setCell ⟨gb212, 3, none⟩ (.int .i64 t207)).setCell ⟨gb212, 4, none⟩ (.int .i64 t208)).setCell ⟨gb212, 5, none⟩ (.int .i64 t209)).setCell ⟨gb212, 6, none⟩ (.int .i64 t210))) := ⟨pE HB.out GE212.out⟩
    (try clear HO201)
    (try clear HO206)
    (try clear BK212)
    (try clear HB)
    generalize (((((((w56.setCell ⟨gb212, 0, none⟩ (.int .i64 t202)).setCell ⟨gb212, 1, none⟩ (.int .i64 t203)).setCell ⟨gb212, 2, none⟩ (.slice Ao58 t204.length co58)).setCell ⟨gb212, 3, none⟩ (.int .i64 t207)).setCell ⟨gb212, 4, none⟩ (.int .i64 t208)).setCell ⟨gb212, 5, none⟩ (.int .i64 t209)).setCell ⟨gb212, 6, none⟩ (.int .i64 t210)) = w59 at n0_ n1_ n2_ n3_ ⊢
    have HO201 := n0_
    have HO206 := n1_
    have BK212 := n2_
    have HB := n3_
    clear n0_ n1_ n2_ n3_
    have n0_ := Aside0.mk (Kd.N_drew HO201.out)
    have n1_ := Aside0.mk (Kd.N_drew HO206.out)
    have n2_ := Aside0.mk (blk_drew BK212.out)
    have n3_ := Aside0.mk (below_drew1 HB.out)
    clear HO201
    clear HO206
    clear BK212
    clear HB
    have HO201 := n0_
    have HO206 := n1_
    have BK212 := n2_
    have HB := n3_
    clear n0_ n1_ n2_ n3_
    refine start_ (n := 8) (S := fun w' => cG w' gb212 0 (.int .i64 t202) ∧ cG w' gb212 1 (.int .i64 t203) ∧ cG w' gb212 2 (.slice Ao58 t204.length co58) ∧ cG w' gb212 3 (.int .i64 t207) ∧ cG w' gb212 4 (.int .i64 t208) ∧ cG w' gb212 5 (.int .i64 t209) ∧ cG w' gb212 6 (.int .i64 t210)) (ds := [6]) #[false, false, false, false, false, false, false, false] (by kernel_rfl) rfl rfl ⟨(blk_cell BK212.out 0).trans rfl, (blk_cell BK212.out 1).trans rfl, (blk_cell BK212.out 2).trans rfl, (blk_cell BK212.out 3).trans rfl, (blk_cell BK212.out 4).trans rfl, (blk_cell BK212.out 5).trans rfl, (blk_cell BK212.out 6).trans rfl⟩ (fun hHeld => ?_); refine with_tabW garnerlaw23_awake.tab2 garnerlaw23_awake.bits2 (fun HT_ HW_ => ?_)
    generalize w59.drew = w60 at HO201 HO206 BK212 HB hHeld ⊢
    refine tk 0 (some 13) (bw 8 1) HT_.out HW_.out hHeld (h := ?_)
    refine one_ (i := 1) (N := some 14) (bw 8 3) rfl rfl (one_of HT_.out (by kernel_rfl)) (by decide) (fun K hK => ?_)
    refine goes_ Try.func23 (by kernel_rfl) rfl #[.int .i64 2, .int .i64 2, .int .i64 1] (by rfl) rfl rfl pL ?_
    with_reducible refine (garnerlaw23_rows.calls k 2 2 1 t213 _ A3.out).mono ?_
    rintro e w61 ⟨v214, rfl, ho0, hb⟩
    refine ⟨_, rfl, ?_⟩
    have n0_ := Aside0.mk (Kd.N_elder' (pN HO201.out) (Kd.N_base (Kd.S_N ho0)) hb)
    have n1_ := Aside0.mk (Kd.N_elder' (pN HO206.out) (Kd.N_base (Kd.S_N ho0)) hb)
    have n2_ := Aside0.mk (Kd.N_lower (Kd.N_mono (ok' := fun k_ => some k_ ≠ (.slice Ao54 t199.length co54 : Value).ownBlock ∧ some k_ ≠ (.slice Ao58 t204.length co58 : Value).ownBlock ∧ k_ ≠ gb212) (Kd.S_N (Kd.S_bound ho0)) (fun k_ hk_ => ⟨(Kd.fresh' (Kd.N_lt (pN HO201.out)) k_ hk_.2.1), (Kd.fresh' (Kd.N_lt (pN HO206.out)) k_ hk_.2.1), (kF BK212.out k_ hk_.2.1)⟩)) (below_size (pE HB.out GE212.out)))
    have n3_ := Aside0.mk (kB BK212.out hb)
    have n4_ := Aside0.mk (below_step (pE HB.out GE212.out) hb)
    clear HO201
    clear HO206
    clear BK212
    clear HB
    have HO201 := n0_
    have HO206 := n1_
    have HO215 := n2_
    have BK212 := n3_
    have HB := n4_
    clear n0_ n1_ n2_ n3_ n4_
    (try clear hb)
    (try clear hb2)
    (try clear hk)
    (try clear hi)
    (try clear ho0)
    obtain ⟨Ao62, co62, eo62⟩ := Kd.N_slice HO215.out
    (first | subst eo62 | (injection eo62 with f1_ f2_ f3_; have f4_ := f1_.symm; have f5_ := f3_.symm; clear f1_ f2_ f3_; subst f4_; subst f5_))
    refine hK.out _ _ ⟨(blk_cell BK212.out 0).trans rfl, (blk_cell BK212.out 1).trans rfl, (blk_cell BK212.out 2).trans rfl, (blk_cell BK212.out 3).trans rfl, (blk_cell BK212.out 4).trans rfl, (blk_cell BK212.out 5).trans rfl, (blk_cell BK212.out 6).trans rfl⟩ (fun hHeld => ?_)
    clear hK K
    refine norm_ (a' := ?_) ?_ ?_
    rotate_left
    ·show Act.put _ (some 14) _ = _
     simp only [Act.put, List.setIfInBounds_toArray, List.set_cons_zero, List.set_cons_succ, i64_w, i32_w]
     rfl
    refine one_ (i := 2) (N := some 15) (bw 8 7) rfl rfl (one_of HT_.out (by kernel_rfl)) (by decide) (fun K hK => ?_)
    refine goes_ Try.func9 (by kernel_rfl) rfl #[.agg #[.int .i64 t202, .int .i64 t203, .slice Ao58 t204.length co58, .int .i64 t207, .int .i64 t208, .int .i64 t209, .int .i64 t210], .slice Ao62 t213.length co62] (by rfl) rfl rfl pL ?_
    with_reducible refine (raft_Put.calls k t202 t203 _ _ t204 t207 t208 t209 t210 _ _ t213 t216 t217 t218 t221 t222 t223 t224 t225 _ ?side1 ?side2 ?side3 ?side4 A4.out).mono ?_
    (case side1 => exact pC (Kd.N_reads' HO206.out).2.2)
    (case side2 => exact (Kd.N_reads' HO206.out).2.1)
    (case side3 => exact pC (Kd.N_reads' HO215.out).2.2)
    (case side4 => exact (Kd.N_reads' HO215.out).2.1)
    rintro e w63 ⟨v219, rfl, ho0, hb⟩
    refine ⟨_, rfl, ?_⟩
    have n0_ := Aside0.mk (Kd.N_elder' (pN HO201.out) (Kd.N_base ho0) hb)
    have n1_ := Aside0.mk (Kd.N_elder' (pN HO206.out) (Kd.N_base ho0) hb)
    have n2_ := Aside0.mk (Kd.N_elder' (pN HO215.out) (Kd.N_base ho0) hb)
    have n3_ := Aside0.mk (Kd.N_lower (Kd.N_mono (ok' := fun k_ => some k_ ≠ (.slice Ao54 t199.length co54 : Value).ownBlock ∧ some k_ ≠ (.slice Ao58 t204.length co58 : Value).ownBlock ∧ some k_ ≠ (.slice Ao62 t213.length co62 : Value).ownBlock ∧ k_ ≠ gb212) ho0 (fun k_ hk_ => ⟨(Kd.fresh' (Kd.N_lt (pN HO201.out)) k_ hk_), (Kd.fresh' (Kd.N_lt (pN HO206.out)) k_ hk_), (Kd.fresh' (Kd.N_lt (pN HO215.out)) k_ hk_), (kF BK212.out k_ hk_)⟩)) (below_size (pE HB.out GE212.out)))
    have n4_ := Aside0.mk (kB BK212.out hb)
    have n5_ := Aside0.mk (below_step (pE HB.out GE212.out) hb)
    clear HO201
    clear HO206
    clear HO215
    clear BK212
    clear HB
    have HO201 := n0_
    have HO206 := n1_
    have HO215 := n2_
    have HO220 := n3_
    have BK212 := n4_
    have HB := n5_
    clear n0_ n1_ n2_ n3_ n4_ n5_
    (try clear hb)
    (try clear hb2)
    (try clear hk)
    (try clear hi)
    (try clear ho0)
    obtain ⟨Ao66, co66, eo66⟩ := Kd.N_slice HO220.out
    (first | subst eo66 | (injection eo66 with f1_ f2_ f3_; have f4_ := f1_.symm; have f5_ := f3_.symm; clear f1_ f2_ f3_; subst f4_; subst f5_))
    refine hK.out _ _ ⟨(blk_cell BK212.out 0).trans rfl, (blk_cell BK212.out 1).trans rfl, (blk_cell BK212.out 2).trans rfl, (blk_cell BK212.out 3).trans rfl, (blk_cell BK212.out 4).trans rfl, (blk_cell BK212.out 5).trans rfl, (blk_cell BK212.out 6).trans rfl⟩ (fun hHeld => ?_)
    clear hK K
    refine norm_ (a' := ?_) ?_ ?_
    rotate_left
    ·show Act.put _ (some 15) _ = _
     simp only [Act.put, List.setIfInBounds_toArray, List.set_cons_zero, List.set_cons_succ, i64_w, i32_w]
     rfl
    refine pu 3 (some 12) (bw 8 15) HT_.out (h := ?_)
    refine pu 4 (some 16) (bw 8 31) HT_.out (h := ?_)
    refine pu 5 (some 17) (bw 8 63) HT_.out (h := ?_)
    refine last_ (i := 6) (N := none) (bw 8 127) rfl rfl (one_of HT_.out (by kernel_rfl)) (by decide) (fun K hK => ?_)
    have hs64 : w63.cell? ⟨gb212, 0, none⟩ = some (.int .i64 t202) := (blk_cell BK212.out 0).trans rfl
    have hfs64 := blk_frozen BK212.out 0
    have hs65 : w63.cell? ⟨gb212, 1, none⟩ = some (.int .i64 t203) := (blk_cell BK212.out 1).trans rfl
    have hfs65 := blk_frozen BK212.out 1
    have hs67 : w63.cell? ⟨gb212, 2, none⟩ = some (.slice Ao58 t204.length co58) := (blk_cell BK212.out 2).trans rfl
    have hfs67 := blk_frozen BK212.out 2
    have hs68 : w63.cell? ⟨gb212, 3, none⟩ = some (.int .i64 t207) := (blk_cell BK212.out 3).trans rfl
    have hfs68 := blk_frozen BK212.out 3
    have hs69 : w63.cell? ⟨gb212, 4, none⟩ = some (.int .i64 t208) := (blk_cell BK212.out 4).trans rfl
    have hfs69 := blk_frozen BK212.out 4
    have hs70 : w63.cell? ⟨gb212, 5, none⟩ = some (.int .i64 t209) := (blk_cell BK212.out 5).trans rfl
    have hfs70 := blk_frozen BK212.out 5
    have hs71 : w63.cell? ⟨gb212, 6, none⟩ = some (.int .i64 t210) := (blk_cell BK212.out 6).trans rfl
    have hfs71 := blk_frozen BK212.out 6
    refine skip_ (w1 := ?_) (by rfl) rfl ?_ ?_
    rotate_left
    ·go_simp
     rfl
    refine hK.out _ _ ?_
    clear hK K
    refine pu 7 (some 3) (bw 8 255) HT_.out (h := ?_)
    refine done_ (done_of HT_.out (by kernel_rfl)) ?_
    obtain ⟨hcz72_0, hcz72_1, hcz72_2, hcz72_3, hcz72_4, hcz72_5, hcz72_6⟩ := bc7 BK212.out
    obtain ⟨hfz72_0, hfz72_1, hfz72_2, hfz72_3, hfz72_4, hfz72_5, hfz72_6⟩ := bf7 BK212.out
    try go_wp2_with (first | ((with_reducible refine gate_callee (f := 24) rfl ?_); refine goesL_ (some 20) rfl rfl Try.func24 (by kernel_rfl) rfl #[.agg #[.int .i64 t216, .int .i64 t217, .slice Ao66 t218.length co66, .int .i64 t221, .int .i64 t222, .int .i64 t223, .int .i64 t224]] rfl pL ?_; (with_reducible refine (raft_Last.calls k t216 t217 _ _ t218 t221 t222 t223 t224 t226 t227 _ ?side1 ?side2 A5.out).mono ?_); (case side1 => refine (Kd.N_reads' (e := 46) (base := w.heap.size) (ok := fun k_ => (some k_ ≠ (.slice Ao54 t199.length co54 : Value).ownBlock ∧ (some k_ ≠ (.slice Ao58 t204.length co58 : Value).ownBlock ∧ (some k_ ≠ (.slice Ao62 t213.length co62 : Value).ownBlock ∧ k_ ≠ gb212)))) (n := t218.length) (c := co66) ?_).2.2; exact (by (with_reducible repeat (first | apply Kd.N_alloc | apply Kd.N_drewN | apply Kd.N_drew)); exact (Kd.N_mono (Nf7 (g := gb212) (Kd.N_mono HO220.out (fun k_ hk => (⟨hk, hk.2.2.2⟩ : _ ∧ k_ ≠ gb212))) (fun _ hk => hk.2)) (fun _ h_ => h_.1)))); (case side2 => exact (Kd.N_reads' HO220.out).2.1); rintro e w73 ⟨rfl, hb⟩; refine ⟨_, rfl, ?_⟩; have n0_ := Aside0.mk (Kd.N_below (by (with_reducible repeat (first | apply Kd.N_alloc | apply Kd.N_drewN | apply Kd.N_drew)); exact (Kd.N_mono (Nf7 (g := gb212) (Kd.N_mono HO201.out (fun k_ hk => (⟨hk, hk.1.1.2⟩ : _ ∧ k_ ≠ gb212))) (fun _ hk => hk.2)) (fun _ h_ => h_.1))) hb); have n1_ := Aside0.mk (Kd.N_below (by (with_reducible repeat (first | apply Kd.N_alloc | apply Kd.N_drewN | apply Kd.N_drew)); exact (Kd.N_mono (Nf7 (g := gb212) (Kd.N_mono HO206.out (fun k_ hk => (⟨hk, hk.1.1.2⟩ : _ ∧ k_ ≠ gb212))) (fun _ hk => hk.2)) (fun _ h_ => h_.1))) hb); have n2_ := Aside0.mk (Kd.N_below (by (with_reducible repeat (first | apply Kd.N_alloc | apply Kd.N_drewN | apply Kd.N_drew)); exact (Kd.N_mono (Nf7 (g := gb212) (Kd.N_mono HO215.out (fun k_ hk => (⟨hk, hk.1.2.2⟩ : _ ∧ k_ ≠ gb212))) (fun _ hk => hk.2)) (fun _ h_ => h_.1))) hb); have n3_ := Aside0.mk (Kd.N_below (by (with_reducible repeat (first | apply Kd.N_alloc | apply Kd.N_drewN | apply Kd.N_drew)); exact (Kd.N_mono (Nf7 (g := gb212) (Kd.N_mono HO220.out (fun k_ hk => (⟨hk, hk.2.2.2⟩ : _ ∧ k_ ≠ gb212))) (fun _ hk => hk.2)) (fun _ h_ => h_.1))) hb); have n4_ := Aside0.mk (blk_below (g := gb212) (kX0 BK212.out) hb); have n5_ := Aside0.mk (below_step (pE HB.out GE212.out) hb); clear HO201 HO206 HO215 HO220 BK212 HB; have HO201 := n0_; have HO206 := n1_; have HO215 := n2_; have HO220 := n3_; have BK212 := n4_; have HB := n5_; clear n0_ n1_ n2_ n3_ n4_ n5_; (try clear hb); (try clear hb2); (try clear hk); (try clear hi)))
    go_ret
    exact ⟨pX, pE HB.out GE212.out⟩
  ·rw [if_neg c7] at H
   have c7b0 : (t225 == 0) = false := beq_eq_false_iff_ne.mpr c7
   have c7b1 : (t225 != 0) = true := bne_iff_ne.mpr c7
   obtain rfl := Option.some.inj H
   go_enter Try.func8, Try.ntmps8
   try go_wp2_with (first | ((with_reducible refine gate_callee (f := 23) rfl ?_); refine goesL_ (some 8) rfl rfl Try.func23 (by kernel_rfl) rfl #[.int .i64 1, .int .i64 1, .int .i64 3] rfl pL ?_; (with_reducible refine (garnerlaw23_rows.calls k 1 1 3 t199 _ A1.out).mono ?_); rintro e w74 ⟨v200, rfl, ho0, hb⟩; refine ⟨_, rfl, ?_⟩; have n0_ := Aside0.mk (Kd.N_lower (Kd.N_mono (ok' := fun k_ => True) (Kd.S_N (Kd.S_bound ho0)) (fun k_ hk_ => trivial)) (below_size (pB HB.out))); have n1_ := Aside0.mk (below_step (pB HB.out) hb); clear HB; have HO201 := n0_; have HB := n1_; clear n0_ n1_; (try clear hb); (try clear hb2); (try clear hk); (try clear hi); (try clear ho0); obtain ⟨Ao75, co75, eo75⟩ := Kd.N_slice HO201.out; subst eo75) | ((with_reducible refine gate_callee (f := 9) rfl ?_); refine goesL_ (some 9) rfl rfl Try.func9 (by kernel_rfl) rfl #[.agg #[.int .i64 0, .int .i64 0, .slice none 0 0, .int .i64 0, .int .i64 0, .int .i64 0, .int .i64 0], .slice Ao75 t199.length co75] rfl pL ?_; (refine (raft_Put.calls k 0 0 _ _ ([] : List (S46)) 0 0 0 0 _ _ t199 t202 t203 t204 t207 t208 t209 t210 t211 _ ?side1 ?side2 ?side3 ?side4 A2.out).mono ?_); (case side1 => exact Kd.C_nil _ _); (case side2 => exact Nat.le_refl _); (case side3 => exact pC (Kd.N_reads' HO201.out).2.2); (case side4 => exact (Kd.N_reads' HO201.out).2.1); rintro e w76 ⟨v205, rfl, ho0, hb⟩; refine ⟨_, rfl, ?_⟩; have n0_ := Aside0.mk (Kd.N_elder' (pN HO201.out) (Kd.N_base ho0) hb); have n1_ := Aside0.mk (Kd.N_lower (Kd.N_mono (ok' := fun k_ => some k_ ≠ (.slice Ao75 t199.length co75 : Value).ownBlock) ho0 (fun k_ hk_ => (Kd.fresh' (Kd.N_lt (pN HO201.out)) k_ hk_))) (below_size (pB HB.out))); have n2_ := Aside0.mk (below_step (pB HB.out) hb); clear HO201 HB; have HO201 := n0_; have HO206 := n1_; have HB := n2_; clear n0_ n1_ n2_; (try clear hb); (try clear hb2); (try clear hk); (try clear hi); (try clear ho0)) | ((with_reducible refine gate_dst (N := 1) rfl ?_); (try (refine gate_guard (by rfl) ?_; dsimp only)); refine box_event ?hg (N := 1) ?hd (cs := #[.int .i64 0, .int .i64 0, .slice none 0 0, .int .i64 0, .int .i64 0, .int .i64 0, .int .i64 0]) (t := 26) ?hr ?_; (case hd => rfl); (case hg => rfl); (case hr => first | (go_simp; done) | (go_simp; rfl)); intro gb212 hg w77 hbox hb; have n0_ := Aside0.mk (Kd.N_below (Kd.N_elderB (pN HO201.out) gb212 (Nat.le_of_eq hg.symm)) hb); have n1_ := Aside0.mk (Kd.N_below (Kd.N_elderB (pN HO206.out) gb212 (Nat.le_of_eq hg.symm)) hb); have n2_ := Aside0.mk (below_step (pB HB.out) hb); have n3_ := Aside0.mk (hbox); have n4_ := Aside0.mk ((by rw [hg]; exact (below_size (pB HB.out)) : w.heap.size ≤ gb212)); have n5_ := n4_; clear HO201 HO206 HB; have HO201 := n0_; have HO206 := n1_; have HB := n2_; have BK212 := n3_; have GW212 := n4_; have GE212 := n5_; clear n0_ n1_ n2_ n3_ n4_ n5_ hb hbox hg; obtain ⟨hcz78_0, hcz78_1, hcz78_2, hcz78_3, hcz78_4, hcz78_5, hcz78_6⟩ := bc7 BK212.out; obtain ⟨hfz78_0, hfz78_1, hfz78_2, hfz78_3, hfz78_4, hfz78_5, hfz78_6⟩ := bf7 BK212.out; obtain ⟨Ao79, co79, eo79⟩ := Kd.N_slice HO206.out; subst eo79))
   have n0_ : Aside0 (Kd.N k46 46 (((((((w77.setCell ⟨gb212, 0, none⟩ (.int .i64 t202)).setCell ⟨gb212, 1, none⟩ (.int .i64 t203)).setCell ⟨gb212, 2, none⟩ (.slice Ao79 t204.length co79)).setCell ⟨gb212, 3, none⟩ (.int .i64 t207)).setCell ⟨gb212, 4, none⟩ (.int .i64 t208)).setCell ⟨gb212, 5, none⟩ (.int .i64 t209)).setCell ⟨gb212, 6, none⟩ (.int .i64 t210)) w.heap.size (fun k_ => some k_ ≠ (.slice Ao79 t204.length co79 : Value).ownBlock ∧ k_ ≠ gb212) (.slice Ao75 t199.length co75) t199) := ⟨by (with_reducible repeat (first | apply Kd.N_alloc | apply Kd.N_drewN | apply Kd.N_drew)); exact Kd.N_mono (Nf7 (g := gb212) (Kd.N_mono HO201.out (fun k_ hk => (⟨hk, hk.2⟩ : _ ∧ k_ ≠ gb212))) (fun _ hk => hk.2)) (fun _ hk => ⟨hk.1.1.2, hk.1.2⟩)⟩
   have n1_ : Aside0 (Kd.N k46 46 (((((((w77.setCell ⟨gb212, 0, none⟩ (.int .i64 t202)).setCell ⟨gb212, 1, none⟩ (.int .i64 t203)).setCell ⟨gb212, 2, none⟩ (.slice Ao79 t204.length co79)).setCell ⟨gb212, 3, none⟩ (.int .i64 t207)).setCell ⟨gb212, 4, none⟩ (.int .i64 t208)).setCell ⟨gb212, 5, none⟩ (.int .i64 t209)).setCell ⟨gb212, 6, none⟩ (.int .i64 t210)) w.heap.size (fun k_ => some k_ ≠ (.slice Ao75 t199.length co75 : Value).ownBlock ∧ k_ ≠ gb212) (.slice Ao79 t204.length co79) t204) := ⟨by (with_reducible repeat (first | apply Kd.N_alloc | apply Kd.N_drewN | apply Kd.N_drew)); exact Kd.N_mono (Nf7 (g := gb212) (Kd.N_mono HO206.out (fun k_ hk => (⟨hk, hk.2⟩ : _ ∧ k_ ≠ gb212))) (fun _ hk => hk.2)) (fun _ hk => ⟨hk.1.1, hk.1.2⟩)⟩
   have n2_ : Aside0 ((((((((w77.setCell ⟨gb212, 0, none⟩ (.int .i64 t202)).setCell ⟨gb212, 1, none⟩ (.int .i64 t203)).setCell ⟨gb212, 2, none⟩ (.slice Ao79 t204.length co79)).setCell ⟨gb212, 3, none⟩ (.int .i64 t207)).setCell ⟨gb212, 4, none⟩ (.int .i64 t208)).setCell ⟨gb212, 5, none⟩ (.int .i64 t209)).setCell ⟨gb212, 6, none⟩ (.int .i64 t210)).heap[gb212]? = some (.cells #[.int .i64 t202, .int .i64 t203, .slice Ao79 t204.length co79, .int .i64 t207, .int .i64 t208, .int .i64 t209, .int .i64 t210] 26 (0, 0))) := ⟨kX0 BK212.out⟩
   have n3_ : Aside0 (Below w.heap.size w (((((((w77.setCell ⟨gb212, 0, none⟩ (.int .i64 t202)).setCell ⟨gb212, 1, none⟩ (.int .i64 t203)).setCell ⟨gb212, 2, none⟩ (.slice Ao79 t204.length co79)).setCell ⟨gb212, 3, none⟩ (.int .i64 t207)).setCell ⟨gb212, 4, none⟩ (.int .i64 t208)).setCell ⟨gb212, 5, none⟩ (.int .i64 t209)).setCell ⟨gb212, 6, none⟩ (.int .i64 t210))) := ⟨pE HB.out GE212.out⟩
   (try clear HO201)
   (try clear HO206)
   (try clear BK212)
   (try clear HB)
   generalize (((((((w77.setCell ⟨gb212, 0, none⟩ (.int .i64 t202)).setCell ⟨gb212, 1, none⟩ (.int .i64 t203)).setCell ⟨gb212, 2, none⟩ (.slice Ao79 t204.length co79)).setCell ⟨gb212, 3, none⟩ (.int .i64 t207)).setCell ⟨gb212, 4, none⟩ (.int .i64 t208)).setCell ⟨gb212, 5, none⟩ (.int .i64 t209)).setCell ⟨gb212, 6, none⟩ (.int .i64 t210)) = w80 at n0_ n1_ n2_ n3_ ⊢
   have HO201 := n0_
   have HO206 := n1_
   have BK212 := n2_
   have HB := n3_
   clear n0_ n1_ n2_ n3_
   have n0_ := Aside0.mk (Kd.N_drew HO201.out)
   have n1_ := Aside0.mk (Kd.N_drew HO206.out)
   have n2_ := Aside0.mk (blk_drew BK212.out)
   have n3_ := Aside0.mk (below_drew1 HB.out)
   clear HO201
   clear HO206
   clear BK212
   clear HB
   have HO201 := n0_
   have HO206 := n1_
   have BK212 := n2_
   have HB := n3_
   clear n0_ n1_ n2_ n3_
   refine start_ (n := 8) (S := fun w' => cG w' gb212 0 (.int .i64 t202) ∧ cG w' gb212 1 (.int .i64 t203) ∧ cG w' gb212 2 (.slice Ao79 t204.length co79) ∧ cG w' gb212 3 (.int .i64 t207) ∧ cG w' gb212 4 (.int .i64 t208) ∧ cG w' gb212 5 (.int .i64 t209) ∧ cG w' gb212 6 (.int .i64 t210)) (ds := [6]) #[false, false, false, false, false, false, false, false] (by kernel_rfl) rfl rfl ⟨(blk_cell BK212.out 0).trans rfl, (blk_cell BK212.out 1).trans rfl, (blk_cell BK212.out 2).trans rfl, (blk_cell BK212.out 3).trans rfl, (blk_cell BK212.out 4).trans rfl, (blk_cell BK212.out 5).trans rfl, (blk_cell BK212.out 6).trans rfl⟩ (fun hHeld => ?_); refine with_tabW garnerlaw23_awake.tab2 garnerlaw23_awake.bits2 (fun HT_ HW_ => ?_)
   generalize w80.drew = w81 at HO201 HO206 BK212 HB hHeld ⊢
   refine tk 0 (some 13) (bw 8 1) HT_.out HW_.out hHeld (h := ?_)
   refine one_ (i := 1) (N := some 14) (bw 8 3) rfl rfl (one_of HT_.out (by kernel_rfl)) (by decide) (fun K hK => ?_)
   refine goes_ Try.func23 (by kernel_rfl) rfl #[.int .i64 2, .int .i64 2, .int .i64 1] (by rfl) rfl rfl pL ?_
   with_reducible refine (garnerlaw23_rows.calls k 2 2 1 t213 _ A3.out).mono ?_
   rintro e w82 ⟨v214, rfl, ho0, hb⟩
   refine ⟨_, rfl, ?_⟩
   have n0_ := Aside0.mk (Kd.N_elder' (pN HO201.out) (Kd.N_base (Kd.S_N ho0)) hb)
   have n1_ := Aside0.mk (Kd.N_elder' (pN HO206.out) (Kd.N_base (Kd.S_N ho0)) hb)
   have n2_ := Aside0.mk (Kd.N_lower (Kd.N_mono (ok' := fun k_ => some k_ ≠ (.slice Ao75 t199.length co75 : Value).ownBlock ∧ some k_ ≠ (.slice Ao79 t204.length co79 : Value).ownBlock ∧ k_ ≠ gb212) (Kd.S_N (Kd.S_bound ho0)) (fun k_ hk_ => ⟨(Kd.fresh' (Kd.N_lt (pN HO201.out)) k_ hk_.2.1), (Kd.fresh' (Kd.N_lt (pN HO206.out)) k_ hk_.2.1), (kF BK212.out k_ hk_.2.1)⟩)) (below_size (pE HB.out GE212.out)))
   have n3_ := Aside0.mk (kB BK212.out hb)
   have n4_ := Aside0.mk (below_step (pE HB.out GE212.out) hb)
   clear HO201
   clear HO206
   clear BK212
   clear HB
   have HO201 := n0_
   have HO206 := n1_
   have HO215 := n2_
   have BK212 := n3_
   have HB := n4_
   clear n0_ n1_ n2_ n3_ n4_
   (try clear hb)
   (try clear hb2)
   (try clear hk)
   (try clear hi)
   (try clear ho0)
   obtain ⟨Ao83, co83, eo83⟩ := Kd.N_slice HO215.out
   (first | subst eo83 | (injection eo83 with f1_ f2_ f3_; have f4_ := f1_.symm; have f5_ := f3_.symm; clear f1_ f2_ f3_; subst f4_; subst f5_))
   refine hK.out _ _ ⟨(blk_cell BK212.out 0).trans rfl, (blk_cell BK212.out 1).trans rfl, (blk_cell BK212.out 2).trans rfl, (blk_cell BK212.out 3).trans rfl, (blk_cell BK212.out 4).trans rfl, (blk_cell BK212.out 5).trans rfl, (blk_cell BK212.out 6).trans rfl⟩ (fun hHeld => ?_)
   clear hK K
   refine norm_ (a' := ?_) ?_ ?_
   rotate_left
   ·show Act.put _ (some 14) _ = _
    simp only [Act.put, List.setIfInBounds_toArray, List.set_cons_zero, List.set_cons_succ, i64_w, i32_w]
    rfl
   refine one_ (i := 2) (N := some 15) (bw 8 7) rfl rfl (one_of HT_.out (by kernel_rfl)) (by decide) (fun K hK => ?_)
   refine goes_ Try.func9 (by kernel_rfl) rfl #[.agg #[.int .i64 t202, .int .i64 t203, .slice Ao79 t204.length co79, .int .i64 t207, .int .i64 t208, .int .i64 t209, .int .i64 t210], .slice Ao83 t213.length co83] (by rfl) rfl rfl pL ?_
   with_reducible refine (raft_Put.calls k t202 t203 _ _ t204 t207 t208 t209 t210 _ _ t213 t216 t217 t218 t221 t222 t223 t224 t225 _ ?side1 ?side2 ?side3 ?side4 A4.out).mono ?_
   (case side1 => exact pC (Kd.N_reads' HO206.out).2.2)
   (case side2 => exact (Kd.N_reads' HO206.out).2.1)
   (case side3 => exact pC (Kd.N_reads' HO215.out).2.2)
   (case side4 => exact (Kd.N_reads' HO215.out).2.1)
   rintro e w84 ⟨v219, rfl, ho0, hb⟩
   refine ⟨_, rfl, ?_⟩
   have n0_ := Aside0.mk (Kd.N_elder' (pN HO201.out) (Kd.N_base ho0) hb)
   have n1_ := Aside0.mk (Kd.N_elder' (pN HO206.out) (Kd.N_base ho0) hb)
   have n2_ := Aside0.mk (Kd.N_elder' (pN HO215.out) (Kd.N_base ho0) hb)
   have n3_ := Aside0.mk (Kd.N_lower (Kd.N_mono (ok' := fun k_ => some k_ ≠ (.slice Ao75 t199.length co75 : Value).ownBlock ∧ some k_ ≠ (.slice Ao79 t204.length co79 : Value).ownBlock ∧ some k_ ≠ (.slice Ao83 t213.length co83 : Value).ownBlock ∧ k_ ≠ gb212) ho0 (fun k_ hk_ => ⟨(Kd.fresh' (Kd.N_lt (pN HO201.out)) k_ hk_), (Kd.fresh' (Kd.N_lt (pN HO206.out)) k_ hk_), (Kd.fresh' (Kd.N_lt (pN HO215.out)) k_ hk_), (kF BK212.out k_ hk_)⟩)) (below_size (pE HB.out GE212.out)))
   have n4_ := Aside0.mk (kB BK212.out hb)
   have n5_ := Aside0.mk (below_step (pE HB.out GE212.out) hb)
   clear HO201
   clear HO206
   clear HO215
   clear BK212
   clear HB
   have HO201 := n0_
   have HO206 := n1_
   have HO215 := n2_
   have HO220 := n3_
   have BK212 := n4_
   have HB := n5_
   clear n0_ n1_ n2_ n3_ n4_ n5_
   (try clear hb)
   (try clear hb2)
   (try clear hk)
   (try clear hi)
   (try clear ho0)
   obtain ⟨Ao87, co87, eo87⟩ := Kd.N_slice HO220.out
   (first | subst eo87 | (injection eo87 with f1_ f2_ f3_; have f4_ := f1_.symm; have f5_ := f3_.symm; clear f1_ f2_ f3_; subst f4_; subst f5_))
   refine hK.out _ _ ⟨(blk_cell BK212.out 0).trans rfl, (blk_cell BK212.out 1).trans rfl, (blk_cell BK212.out 2).trans rfl, (blk_cell BK212.out 3).trans rfl, (blk_cell BK212.out 4).trans rfl, (blk_cell BK212.out 5).trans rfl, (blk_cell BK212.out 6).trans rfl⟩ (fun hHeld => ?_)
   clear hK K
   refine norm_ (a' := ?_) ?_ ?_
   rotate_left
   ·show Act.put _ (some 15) _ = _
    simp only [Act.put, List.setIfInBounds_toArray, List.set_cons_zero, List.set_cons_succ, i64_w, i32_w]
    rfl
   refine pu 3 (some 12) (bw 8 15) HT_.out (h := ?_)
   refine pu 4 (some 16) (bw 8 31) HT_.out (h := ?_)
   refine pu 5 (some 17) (bw 8 63) HT_.out (h := ?_)
   refine last_ (i := 6) (N := none) (bw 8 127) rfl rfl (one_of HT_.out (by kernel_rfl)) (by decide) (fun K hK => ?_)
   have hs85 : w84.cell? ⟨gb212, 0, none⟩ = some (.int .i64 t202) := (blk_cell BK212.out 0).trans rfl
   have hfs85 := blk_frozen BK212.out 0
   have hs86 : w84.cell? ⟨gb212, 1, none⟩ = some (.int .i64 t203) := (blk_cell BK212.out 1).trans rfl
   have hfs86 := blk_frozen BK212.out 1
   have hs88 : w84.cell? ⟨gb212, 2, none⟩ = some (.slice Ao79 t204.length co79) := (blk_cell BK212.out 2).trans rfl
   have hfs88 := blk_frozen BK212.out 2
   have hs89 : w84.cell? ⟨gb212, 3, none⟩ = some (.int .i64 t207) := (blk_cell BK212.out 3).trans rfl
   have hfs89 := blk_frozen BK212.out 3
   have hs90 : w84.cell? ⟨gb212, 4, none⟩ = some (.int .i64 t208) := (blk_cell BK212.out 4).trans rfl
   have hfs90 := blk_frozen BK212.out 4
   have hs91 : w84.cell? ⟨gb212, 5, none⟩ = some (.int .i64 t209) := (blk_cell BK212.out 5).trans rfl
   have hfs91 := blk_frozen BK212.out 5
   have hs92 : w84.cell? ⟨gb212, 6, none⟩ = some (.int .i64 t210) := (blk_cell BK212.out 6).trans rfl
   have hfs92 := blk_frozen BK212.out 6
   refine skip_ (w1 := ?_) (by rfl) rfl ?_ ?_
   rotate_left
   ·go_simp
    rfl
   refine hK.out _ _ ?_
   clear hK K
   refine pu 7 (some 3) (bw 8 255) HT_.out (h := ?_)
   refine done_ (done_of HT_.out (by kernel_rfl)) ?_
   obtain ⟨hcz93_0, hcz93_1, hcz93_2, hcz93_3, hcz93_4, hcz93_5, hcz93_6⟩ := bc7 BK212.out
   obtain ⟨hfz93_0, hfz93_1, hfz93_2, hfz93_3, hfz93_4, hfz93_5, hfz93_6⟩ := bf7 BK212.out
   try go_wp2_with (first | ((with_reducible refine gate_callee (f := 24) rfl ?_); refine goesL_ (some 20) rfl rfl Try.func24 (by kernel_rfl) rfl #[.agg #[.int .i64 t216, .int .i64 t217, .slice Ao87 t218.length co87, .int .i64 t221, .int .i64 t222, .int .i64 t223, .int .i64 t224]] rfl pL ?_; (with_reducible refine (raft_Last.calls k t216 t217 _ _ t218 t221 t222 t223 t224 t226 t227 _ ?side1 ?side2 A5.out).mono ?_); (case side1 => refine (Kd.N_reads' (e := 46) (base := w.heap.size) (ok := fun k_ => (some k_ ≠ (.slice Ao75 t199.length co75 : Value).ownBlock ∧ (some k_ ≠ (.slice Ao79 t204.length co79 : Value).ownBlock ∧ (some k_ ≠ (.slice Ao83 t213.length co83 : Value).ownBlock ∧ k_ ≠ gb212)))) (n := t218.length) (c := co87) ?_).2.2; exact (by (with_reducible repeat (first | apply Kd.N_alloc | apply Kd.N_drewN | apply Kd.N_drew)); exact (Kd.N_mono (Nf7 (g := gb212) (Kd.N_mono HO220.out (fun k_ hk => (⟨hk, hk.2.2.2⟩ : _ ∧ k_ ≠ gb212))) (fun _ hk => hk.2)) (fun _ h_ => h_.1)))); (case side2 => exact (Kd.N_reads' HO220.out).2.1); rintro e w94 ⟨rfl, hb⟩; refine ⟨_, rfl, ?_⟩; have n0_ := Aside0.mk (Kd.N_below (by (with_reducible repeat (first | apply Kd.N_alloc | apply Kd.N_drewN | apply Kd.N_drew)); exact (Kd.N_mono (Nf7 (g := gb212) (Kd.N_mono HO201.out (fun k_ hk => (⟨hk, hk.1.1.2⟩ : _ ∧ k_ ≠ gb212))) (fun _ hk => hk.2)) (fun _ h_ => h_.1))) hb); have n1_ := Aside0.mk (Kd.N_below (by (with_reducible repeat (first | apply Kd.N_alloc | apply Kd.N_drewN | apply Kd.N_drew)); exact (Kd.N_mono (Nf7 (g := gb212) (Kd.N_mono HO206.out (fun k_ hk => (⟨hk, hk.1.1.2⟩ : _ ∧ k_ ≠ gb212))) (fun _ hk => hk.2)) (fun _ h_ => h_.1))) hb); have n2_ := Aside0.mk (Kd.N_below (by (with_reducible repeat (first | apply Kd.N_alloc | apply Kd.N_drewN | apply Kd.N_drew)); exact (Kd.N_mono (Nf7 (g := gb212) (Kd.N_mono HO215.out (fun k_ hk => (⟨hk, hk.1.2.2⟩ : _ ∧ k_ ≠ gb212))) (fun _ hk => hk.2)) (fun _ h_ => h_.1))) hb); have n3_ := Aside0.mk (Kd.N_below (by (with_reducible repeat (first | apply Kd.N_alloc | apply Kd.N_drewN | apply Kd.N_drew)); exact (Kd.N_mono (Nf7 (g := gb212) (Kd.N_mono HO220.out (fun k_ hk => (⟨hk, hk.2.2.2⟩ : _ ∧ k_ ≠ gb212))) (fun _ hk => hk.2)) (fun _ h_ => h_.1))) hb); have n4_ := Aside0.mk (blk_below (g := gb212) (kX0 BK212.out) hb); have n5_ := Aside0.mk (below_step (pE HB.out GE212.out) hb); clear HO201 HO206 HO215 HO220 BK212 HB; have HO201 := n0_; have HO206 := n1_; have HO215 := n2_; have HO220 := n3_; have BK212 := n4_; have HB := n5_; clear n0_ n1_ n2_ n3_ n4_ n5_; (try clear hb); (try clear hb2); (try clear hk); (try clear hi)))
   go_ret
   exact ⟨pX, pE HB.out GE212.out⟩
 ·rw [if_neg c6] at H
  have c6b0 : (t211 == 0) = false := beq_eq_false_iff_ne.mpr c6
  have c6b1 : (t211 != 0) = true := bne_iff_ne.mpr c6
  obtain rfl := Option.some.inj H
  go_enter Try.func8, Try.ntmps8
  try go_wp2_with (first | ((with_reducible refine gate_callee (f := 23) rfl ?_); refine goesL_ (some 8) rfl rfl Try.func23 (by kernel_rfl) rfl #[.int .i64 1, .int .i64 1, .int .i64 3] rfl pL ?_; (with_reducible refine (garnerlaw23_rows.calls k 1 1 3 t199 _ A1.out).mono ?_); rintro e w95 ⟨v200, rfl, ho0, hb⟩; refine ⟨_, rfl, ?_⟩; have n0_ := Aside0.mk (Kd.N_lower (Kd.N_mono (ok' := fun k_ => True) (Kd.S_N (Kd.S_bound ho0)) (fun k_ hk_ => trivial)) (below_size (pB HB.out))); have n1_ := Aside0.mk (below_step (pB HB.out) hb); clear HB; have HO201 := n0_; have HB := n1_; clear n0_ n1_; (try clear hb); (try clear hb2); (try clear hk); (try clear hi); (try clear ho0); obtain ⟨Ao96, co96, eo96⟩ := Kd.N_slice HO201.out; subst eo96) | ((with_reducible refine gate_callee (f := 9) rfl ?_); refine goesL_ (some 9) rfl rfl Try.func9 (by kernel_rfl) rfl #[.agg #[.int .i64 0, .int .i64 0, .slice none 0 0, .int .i64 0, .int .i64 0, .int .i64 0, .int .i64 0], .slice Ao96 t199.length co96] rfl pL ?_; (refine (raft_Put.calls k 0 0 _ _ ([] : List (S46)) 0 0 0 0 _ _ t199 t202 t203 t204 t207 t208 t209 t210 t211 _ ?side1 ?side2 ?side3 ?side4 A2.out).mono ?_); (case side1 => exact Kd.C_nil _ _); (case side2 => exact Nat.le_refl _); (case side3 => exact pC (Kd.N_reads' HO201.out).2.2); (case side4 => exact (Kd.N_reads' HO201.out).2.1); rintro e w97 ⟨v205, rfl, ho0, hb⟩; refine ⟨_, rfl, ?_⟩; have n0_ := Aside0.mk (Kd.N_elder' (pN HO201.out) (Kd.N_base ho0) hb); have n1_ := Aside0.mk (Kd.N_lower (Kd.N_mono (ok' := fun k_ => some k_ ≠ (.slice Ao96 t199.length co96 : Value).ownBlock) ho0 (fun k_ hk_ => (Kd.fresh' (Kd.N_lt (pN HO201.out)) k_ hk_))) (below_size (pB HB.out))); have n2_ := Aside0.mk (below_step (pB HB.out) hb); clear HO201 HB; have HO201 := n0_; have HO206 := n1_; have HB := n2_; clear n0_ n1_ n2_; (try clear hb); (try clear hb2); (try clear hk); (try clear hi); (try clear ho0)) | ((with_reducible refine gate_dst (N := 1) rfl ?_); (try (refine gate_guard (by rfl) ?_; dsimp only)); refine box_event ?hg (N := 1) ?hd (cs := #[.int .i64 0, .int .i64 0, .slice none 0 0, .int .i64 0, .int .i64 0, .int .i64 0, .int .i64 0]) (t := 26) ?hr ?_; (case hd => rfl); (case hg => rfl); (case hr => first | (go_simp; done) | (go_simp; rfl)); intro gb212 hg w98 hbox hb; have n0_ := Aside0.mk (Kd.N_below (Kd.N_elderB (pN HO201.out) gb212 (Nat.le_of_eq hg.symm)) hb); have n1_ := Aside0.mk (Kd.N_below (Kd.N_elderB (pN HO206.out) gb212 (Nat.le_of_eq hg.symm)) hb); have n2_ := Aside0.mk (below_step (pB HB.out) hb); have n3_ := Aside0.mk (hbox); have n4_ := Aside0.mk ((by rw [hg]; exact (below_size (pB HB.out)) : w.heap.size ≤ gb212)); have n5_ := n4_; clear HO201 HO206 HB; have HO201 := n0_; have HO206 := n1_; have HB := n2_; have BK212 := n3_; have GW212 := n4_; have GE212 := n5_; clear n0_ n1_ n2_ n3_ n4_ n5_ hb hbox hg; obtain ⟨hcz99_0, hcz99_1, hcz99_2, hcz99_3, hcz99_4, hcz99_5, hcz99_6⟩ := bc7 BK212.out; obtain ⟨hfz99_0, hfz99_1, hfz99_2, hfz99_3, hfz99_4, hfz99_5, hfz99_6⟩ := bf7 BK212.out; obtain ⟨Ao100, co100, eo100⟩ := Kd.N_slice HO206.out; subst eo100))
  have n0_ : Aside0 (Kd.N k46 46 (((((((w98.setCell ⟨gb212, 0, none⟩ (.int .i64 t202)).setCell ⟨gb212, 1, none⟩ (.int .i64 t203)).setCell ⟨gb212, 2, none⟩ (.slice Ao100 t204.length co100)).setCell ⟨gb212, 3, none⟩ (.int .i64 t207)).setCell ⟨gb212, 4, none⟩ (.int .i64 t208)).setCell ⟨gb212, 5, none⟩ (.int .i64 t209)).setCell ⟨gb212, 6, none⟩ (.int .i64 t210)) w.heap.size (fun k_ => some k_ ≠ (.slice Ao100 t204.length co100 : Value).ownBlock ∧ k_ ≠ gb212) (.slice Ao96 t199.length co96) t199) := ⟨by (with_reducible repeat (first | apply Kd.N_alloc | apply Kd.N_drewN | apply Kd.N_drew)); exact Kd.N_mono (Nf7 (g := gb212) (Kd.N_mono HO201.out (fun k_ hk => (⟨hk, hk.2⟩ : _ ∧ k_ ≠ gb212))) (fun _ hk => hk.2)) (fun _ hk => ⟨hk.1.1.2, hk.1.2⟩)⟩
  have n1_ : Aside0 (Kd.N k46 46 (((((((w98.setCell ⟨gb212, 0, none⟩ (.int .i64 t202)).setCell ⟨gb212, 1, none⟩ (.int .i64 t203)).setCell ⟨gb212, 2, none⟩ (.slice Ao100 t204.length co100)).setCell ⟨gb212, 3, none⟩ (.int .i64 t207)).setCell ⟨gb212, 4, none⟩ (.int .i64 t208)).setCell ⟨gb212, 5, none⟩ (.int .i64 t209)).setCell ⟨gb212, 6, none⟩ (.int .i64 t210)) w.heap.size (fun k_ => some k_ ≠ (.slice Ao96 t199.length co96 : Value).ownBlock ∧ k_ ≠ gb212) (.slice Ao100 t204.length co100) t204) := ⟨by (with_reducible repeat (first | apply Kd.N_alloc | apply Kd.N_drewN | apply Kd.N_drew)); exact Kd.N_mono (Nf7 (g := gb212) (Kd.N_mono HO206.out (fun k_ hk => (⟨hk, hk.2⟩ : _ ∧ k_ ≠ gb212))) (fun _ hk => hk.2)) (fun _ hk => ⟨hk.1.1, hk.1.2⟩)⟩
  have n2_ : Aside0 ((((((((w98.setCell ⟨gb212, 0, none⟩ (.int .i64 t202)).setCell ⟨gb212, 1, none⟩ (.int .i64 t203)).setCell ⟨gb212, 2, none⟩ (.slice Ao100 t204.length co100)).setCell ⟨gb212, 3, none⟩ (.int .i64 t207)).setCell ⟨gb212, 4, none⟩ (.int .i64 t208)).setCell ⟨gb212, 5, none⟩ (.int .i64 t209)).setCell ⟨gb212, 6, none⟩ (.int .i64 t210)).heap[gb212]? = some (.cells #[.int .i64 t202, .int .i64 t203, .slice Ao100 t204.length co100, .int .i64 t207, .int .i64 t208, .int .i64 t209, .int .i64 t210] 26 (0, 0))) := ⟨kX0 BK212.out⟩
  have n3_ : Aside0 (Below w.heap.size w (((((((w98.setCell ⟨gb212, 0, none⟩ (.int .i64 t202)).setCell ⟨gb212, 1, none⟩ (.int .i64 t203)).setCell ⟨gb212, 2, none⟩ (.slice Ao100 t204.length co100)).setCell ⟨gb212, 3, none⟩ (.int .i64 t207)).setCell ⟨gb212, 4, none⟩ (.int .i64 t208)).setCell ⟨gb212, 5, none⟩ (.int .i64 t209)).setCell ⟨gb212, 6, none⟩ (.int .i64 t210))) := ⟨pE HB.out GE212.out⟩
  (try clear HO201)
  (try clear HO206)
  (try clear BK212)
  (try clear HB)
  generalize (((((((w98.setCell ⟨gb212, 0, none⟩ (.int .i64 t202)).setCell ⟨gb212, 1, none⟩ (.int .i64 t203)).setCell ⟨gb212, 2, none⟩ (.slice Ao100 t204.length co100)).setCell ⟨gb212, 3, none⟩ (.int .i64 t207)).setCell ⟨gb212, 4, none⟩ (.int .i64 t208)).setCell ⟨gb212, 5, none⟩ (.int .i64 t209)).setCell ⟨gb212, 6, none⟩ (.int .i64 t210)) = w101 at n0_ n1_ n2_ n3_ ⊢
  have HO201 := n0_
  have HO206 := n1_
  have BK212 := n2_
  have HB := n3_
  clear n0_ n1_ n2_ n3_
  have n0_ := Aside0.mk (Kd.N_drew HO201.out)
  have n1_ := Aside0.mk (Kd.N_drew HO206.out)
  have n2_ := Aside0.mk (blk_drew BK212.out)
  have n3_ := Aside0.mk (below_drew1 HB.out)
  clear HO201
  clear HO206
  clear BK212
  clear HB
  have HO201 := n0_
  have HO206 := n1_
  have BK212 := n2_
  have HB := n3_
  clear n0_ n1_ n2_ n3_
  refine start_ (n := 8) (S := fun w' => cG w' gb212 0 (.int .i64 t202) ∧ cG w' gb212 1 (.int .i64 t203) ∧ cG w' gb212 2 (.slice Ao100 t204.length co100) ∧ cG w' gb212 3 (.int .i64 t207) ∧ cG w' gb212 4 (.int .i64 t208) ∧ cG w' gb212 5 (.int .i64 t209) ∧ cG w' gb212 6 (.int .i64 t210)) (ds := [6]) #[false, false, false, false, false, false, false, false] (by kernel_rfl) rfl rfl ⟨(blk_cell BK212.out 0).trans rfl, (blk_cell BK212.out 1).trans rfl, (blk_cell BK212.out 2).trans rfl, (blk_cell BK212.out 3).trans rfl, (blk_cell BK212.out 4).trans rfl, (blk_cell BK212.out 5).trans rfl, (blk_cell BK212.out 6).trans rfl⟩ (fun hHeld => ?_); refine with_tabW garnerlaw23_awake.tab2 garnerlaw23_awake.bits2 (fun HT_ HW_ => ?_)
  generalize w101.drew = w102 at HO201 HO206 BK212 HB hHeld ⊢
  refine tk 0 (some 13) (bw 8 1) HT_.out HW_.out hHeld (h := ?_)
  refine one_ (i := 1) (N := some 14) (bw 8 3) rfl rfl (one_of HT_.out (by kernel_rfl)) (by decide) (fun K hK => ?_)
  refine goes_ Try.func23 (by kernel_rfl) rfl #[.int .i64 2, .int .i64 2, .int .i64 1] (by rfl) rfl rfl pL ?_
  with_reducible refine (garnerlaw23_rows.calls k 2 2 1 t213 _ A3.out).mono ?_
  rintro e w103 ⟨v214, rfl, ho0, hb⟩
  refine ⟨_, rfl, ?_⟩
  have n0_ := Aside0.mk (Kd.N_elder' (pN HO201.out) (Kd.N_base (Kd.S_N ho0)) hb)
  have n1_ := Aside0.mk (Kd.N_elder' (pN HO206.out) (Kd.N_base (Kd.S_N ho0)) hb)
  have n2_ := Aside0.mk (Kd.N_lower (Kd.N_mono (ok' := fun k_ => some k_ ≠ (.slice Ao96 t199.length co96 : Value).ownBlock ∧ some k_ ≠ (.slice Ao100 t204.length co100 : Value).ownBlock ∧ k_ ≠ gb212) (Kd.S_N (Kd.S_bound ho0)) (fun k_ hk_ => ⟨(Kd.fresh' (Kd.N_lt (pN HO201.out)) k_ hk_.2.1), (Kd.fresh' (Kd.N_lt (pN HO206.out)) k_ hk_.2.1), (kF BK212.out k_ hk_.2.1)⟩)) (below_size (pE HB.out GE212.out)))
  have n3_ := Aside0.mk (kB BK212.out hb)
  have n4_ := Aside0.mk (below_step (pE HB.out GE212.out) hb)
  clear HO201
  clear HO206
  clear BK212
  clear HB
  have HO201 := n0_
  have HO206 := n1_
  have HO215 := n2_
  have BK212 := n3_
  have HB := n4_
  clear n0_ n1_ n2_ n3_ n4_
  (try clear hb)
  (try clear hb2)
  (try clear hk)
  (try clear hi)
  (try clear ho0)
  obtain ⟨Ao104, co104, eo104⟩ := Kd.N_slice HO215.out
  (first | subst eo104 | (injection eo104 with f1_ f2_ f3_; have f4_ := f1_.symm; have f5_ := f3_.symm; clear f1_ f2_ f3_; subst f4_; subst f5_))
  refine hK.out _ _ ⟨(blk_cell BK212.out 0).trans rfl, (blk_cell BK212.out 1).trans rfl, (blk_cell BK212.out 2).trans rfl, (blk_cell BK212.out 3).trans rfl, (blk_cell BK212.out 4).trans rfl, (blk_cell BK212.out 5).trans rfl, (blk_cell BK212.out 6).trans rfl⟩ (fun hHeld => ?_)
  clear hK K
  refine norm_ (a' := ?_) ?_ ?_
  rotate_left
  ·show Act.put _ (some 14) _ = _
   simp only [Act.put, List.setIfInBounds_toArray, List.set_cons_zero, List.set_cons_succ, i64_w, i32_w]
   rfl
  refine one_ (i := 2) (N := some 15) (bw 8 7) rfl rfl (one_of HT_.out (by kernel_rfl)) (by decide) (fun K hK => ?_)
  refine goes_ Try.func9 (by kernel_rfl) rfl #[.agg #[.int .i64 t202, .int .i64 t203, .slice Ao100 t204.length co100, .int .i64 t207, .int .i64 t208, .int .i64 t209, .int .i64 t210], .slice Ao104 t213.length co104] (by rfl) rfl rfl pL ?_
  with_reducible refine (raft_Put.calls k t202 t203 _ _ t204 t207 t208 t209 t210 _ _ t213 t216 t217 t218 t221 t222 t223 t224 t225 _ ?side1 ?side2 ?side3 ?side4 A4.out).mono ?_
  (case side1 => exact pC (Kd.N_reads' HO206.out).2.2)
  (case side2 => exact (Kd.N_reads' HO206.out).2.1)
  (case side3 => exact pC (Kd.N_reads' HO215.out).2.2)
  (case side4 => exact (Kd.N_reads' HO215.out).2.1)
  rintro e w105 ⟨v219, rfl, ho0, hb⟩
  refine ⟨_, rfl, ?_⟩
  have n0_ := Aside0.mk (Kd.N_elder' (pN HO201.out) (Kd.N_base ho0) hb)
  have n1_ := Aside0.mk (Kd.N_elder' (pN HO206.out) (Kd.N_base ho0) hb)
  have n2_ := Aside0.mk (Kd.N_elder' (pN HO215.out) (Kd.N_base ho0) hb)
  have n3_ := Aside0.mk (Kd.N_lower (Kd.N_mono (ok' := fun k_ => some k_ ≠ (.slice Ao96 t199.length co96 : Value).ownBlock ∧ some k_ ≠ (.slice Ao100 t204.length co100 : Value).ownBlock ∧ some k_ ≠ (.slice Ao104 t213.length co104 : Value).ownBlock ∧ k_ ≠ gb212) ho0 (fun k_ hk_ => ⟨(Kd.fresh' (Kd.N_lt (pN HO201.out)) k_ hk_), (Kd.fresh' (Kd.N_lt (pN HO206.out)) k_ hk_), (Kd.fresh' (Kd.N_lt (pN HO215.out)) k_ hk_), (kF BK212.out k_ hk_)⟩)) (below_size (pE HB.out GE212.out)))
  have n4_ := Aside0.mk (kB BK212.out hb)
  have n5_ := Aside0.mk (below_step (pE HB.out GE212.out) hb)
  clear HO201
  clear HO206
  clear HO215
  clear BK212
  clear HB
  have HO201 := n0_
  have HO206 := n1_
  have HO215 := n2_
  have HO220 := n3_
  have BK212 := n4_
  have HB := n5_
  clear n0_ n1_ n2_ n3_ n4_ n5_
  (try clear hb)
  (try clear hb2)
  (try clear hk)
  (try clear hi)
  (try clear ho0)
  obtain ⟨Ao108, co108, eo108⟩ := Kd.N_slice HO220.out
  (first | subst eo108 | (injection eo108 with f1_ f2_ f3_; have f4_ := f1_.symm; have f5_ := f3_.symm; clear f1_ f2_ f3_; subst f4_; subst f5_))
  refine hK.out _ _ ⟨(blk_cell BK212.out 0).trans rfl, (blk_cell BK212.out 1).trans rfl, (blk_cell BK212.out 2).trans rfl, (blk_cell BK212.out 3).trans rfl, (blk_cell BK212.out 4).trans rfl, (blk_cell BK212.out 5).trans rfl, (blk_cell BK212.out 6).trans rfl⟩ (fun hHeld => ?_)
  clear hK K
  refine norm_ (a' := ?_) ?_ ?_
  rotate_left
  ·show Act.put _ (some 15) _ = _
   simp only [Act.put, List.setIfInBounds_toArray, List.set_cons_zero, List.set_cons_succ, i64_w, i32_w]
   rfl
  refine pu 3 (some 12) (bw 8 15) HT_.out (h := ?_)
  refine pu 4 (some 16) (bw 8 31) HT_.out (h := ?_)
  refine pu 5 (some 17) (bw 8 63) HT_.out (h := ?_)
  refine last_ (i := 6) (N := none) (bw 8 127) rfl rfl (one_of HT_.out (by kernel_rfl)) (by decide) (fun K hK => ?_)
  have hs106 : w105.cell? ⟨gb212, 0, none⟩ = some (.int .i64 t202) := (blk_cell BK212.out 0).trans rfl
  have hfs106 := blk_frozen BK212.out 0
  have hs107 : w105.cell? ⟨gb212, 1, none⟩ = some (.int .i64 t203) := (blk_cell BK212.out 1).trans rfl
  have hfs107 := blk_frozen BK212.out 1
  have hs109 : w105.cell? ⟨gb212, 2, none⟩ = some (.slice Ao100 t204.length co100) := (blk_cell BK212.out 2).trans rfl
  have hfs109 := blk_frozen BK212.out 2
  have hs110 : w105.cell? ⟨gb212, 3, none⟩ = some (.int .i64 t207) := (blk_cell BK212.out 3).trans rfl
  have hfs110 := blk_frozen BK212.out 3
  have hs111 : w105.cell? ⟨gb212, 4, none⟩ = some (.int .i64 t208) := (blk_cell BK212.out 4).trans rfl
  have hfs111 := blk_frozen BK212.out 4
  have hs112 : w105.cell? ⟨gb212, 5, none⟩ = some (.int .i64 t209) := (blk_cell BK212.out 5).trans rfl
  have hfs112 := blk_frozen BK212.out 5
  have hs113 : w105.cell? ⟨gb212, 6, none⟩ = some (.int .i64 t210) := (blk_cell BK212.out 6).trans rfl
  have hfs113 := blk_frozen BK212.out 6
  refine skip_ (w1 := ?_) (by rfl) rfl ?_ ?_
  rotate_left
  ·go_simp
   rfl
  refine hK.out _ _ ?_
  clear hK K
  refine pu 7 (some 3) (bw 8 255) HT_.out (h := ?_)
  refine done_ (done_of HT_.out (by kernel_rfl)) ?_
  obtain ⟨hcz114_0, hcz114_1, hcz114_2, hcz114_3, hcz114_4, hcz114_5, hcz114_6⟩ := bc7 BK212.out
  obtain ⟨hfz114_0, hfz114_1, hfz114_2, hfz114_3, hfz114_4, hfz114_5, hfz114_6⟩ := bf7 BK212.out
  try go_wp2_with (first | ((with_reducible refine gate_callee (f := 24) rfl ?_); refine goesL_ (some 20) rfl rfl Try.func24 (by kernel_rfl) rfl #[.agg #[.int .i64 t216, .int .i64 t217, .slice Ao108 t218.length co108, .int .i64 t221, .int .i64 t222, .int .i64 t223, .int .i64 t224]] rfl pL ?_; (with_reducible refine (raft_Last.calls k t216 t217 _ _ t218 t221 t222 t223 t224 t226 t227 _ ?side1 ?side2 A5.out).mono ?_); (case side1 => refine (Kd.N_reads' (e := 46) (base := w.heap.size) (ok := fun k_ => (some k_ ≠ (.slice Ao96 t199.length co96 : Value).ownBlock ∧ (some k_ ≠ (.slice Ao100 t204.length co100 : Value).ownBlock ∧ (some k_ ≠ (.slice Ao104 t213.length co104 : Value).ownBlock ∧ k_ ≠ gb212)))) (n := t218.length) (c := co108) ?_).2.2; exact (by (with_reducible repeat (first | apply Kd.N_alloc | apply Kd.N_drewN | apply Kd.N_drew)); exact (Kd.N_mono (Nf7 (g := gb212) (Kd.N_mono HO220.out (fun k_ hk => (⟨hk, hk.2.2.2⟩ : _ ∧ k_ ≠ gb212))) (fun _ hk => hk.2)) (fun _ h_ => h_.1)))); (case side2 => exact (Kd.N_reads' HO220.out).2.1); rintro e w115 ⟨rfl, hb⟩; refine ⟨_, rfl, ?_⟩; have n0_ := Aside0.mk (Kd.N_below (by (with_reducible repeat (first | apply Kd.N_alloc | apply Kd.N_drewN | apply Kd.N_drew)); exact (Kd.N_mono (Nf7 (g := gb212) (Kd.N_mono HO201.out (fun k_ hk => (⟨hk, hk.1.1.2⟩ : _ ∧ k_ ≠ gb212))) (fun _ hk => hk.2)) (fun _ h_ => h_.1))) hb); have n1_ := Aside0.mk (Kd.N_below (by (with_reducible repeat (first | apply Kd.N_alloc | apply Kd.N_drewN | apply Kd.N_drew)); exact (Kd.N_mono (Nf7 (g := gb212) (Kd.N_mono HO206.out (fun k_ hk => (⟨hk, hk.1.1.2⟩ : _ ∧ k_ ≠ gb212))) (fun _ hk => hk.2)) (fun _ h_ => h_.1))) hb); have n2_ := Aside0.mk (Kd.N_below (by (with_reducible repeat (first | apply Kd.N_alloc | apply Kd.N_drewN | apply Kd.N_drew)); exact (Kd.N_mono (Nf7 (g := gb212) (Kd.N_mono HO215.out (fun k_ hk => (⟨hk, hk.1.2.2⟩ : _ ∧ k_ ≠ gb212))) (fun _ hk => hk.2)) (fun _ h_ => h_.1))) hb); have n3_ := Aside0.mk (Kd.N_below (by (with_reducible repeat (first | apply Kd.N_alloc | apply Kd.N_drewN | apply Kd.N_drew)); exact (Kd.N_mono (Nf7 (g := gb212) (Kd.N_mono HO220.out (fun k_ hk => (⟨hk, hk.2.2.2⟩ : _ ∧ k_ ≠ gb212))) (fun _ hk => hk.2)) (fun _ h_ => h_.1))) hb); have n4_ := Aside0.mk (blk_below (g := gb212) (kX0 BK212.out) hb); have n5_ := Aside0.mk (below_step (pE HB.out GE212.out) hb); clear HO201 HO206 HO215 HO220 BK212 HB; have HO201 := n0_; have HO206 := n1_; have HO215 := n2_; have HO220 := n3_; have BK212 := n4_; have HB := n5_; clear n0_ n1_ n2_ n3_ n4_ n5_; (try clear hb); (try clear hb2); (try clear hk); (try clear hi)))
  go_ret
  exact ⟨pX, pE HB.out GE212.out⟩
end Go.Proofs.Ytinldhpdfomcjaa.PRaftParts
