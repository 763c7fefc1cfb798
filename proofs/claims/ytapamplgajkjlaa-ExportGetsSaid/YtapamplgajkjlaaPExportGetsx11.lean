/- What the law reaches, as plain Lean functions, and that the machine's calls answer just that. -/
import Derived.Test.YtapamplgajkjlaaPExportGetsx0
import Derived.Test.YtapamplgajkjlaaPExportGetsx7
import Derived.Test.YtapamplgajkjlaaPExportGetsx8
import Derived.Test.YtapamplgajkjlaaPExportGetsx10
namespace Go.Proofs.Ytapamplgajkjlaa.PExportGets
open Go.RowKit Go.Proofs.YtapamplgajkjlaaW.PrintWords Go.Proofs.YtapamplgajkjlaaW.PrintLast Go.Proofs.YtapamplgajkjlaaW.PrintMore
attribute [local go_sem] max2_int min2_int max_two min_two max_three min_three max_four min_four
set_option linter.unusedVariables false
set_option linter.unusedSimpArgs false
attribute [local go_sem] wrap64_l1 wrap64_l2 wrap64_l3 wrap64_l4 wrap64_l5 str_leq str_gtr str_geq
def garnerref03_All.l0 : Nat → List (S83) → List Int → Int → Option (List Int)
 | 0, _, _, _ => none
 | k + 1, x0, x3, x4 => if x4 < (x0.length : Int) then (if 0 ≤ x4 then ((garnerref03_Put.f k ((rd_T83 x0 x4).f0) ((rd_T83 x0 x4).f1)).bind fun t432 => (if x3.length + t432.length < 140737488355328 then (garnerref03_All.l0 k x0 (x3 ++ t432) (wrap64 (x4 + 1))) else (none))) else (none)) else (some x3)
def garnerref03_All.f (k : Nat) (l0 : List (S83)) : Option (List Int) := garnerref03_All.l0 k l0 (([] : List Int)) 0
theorem garnerref03_All.mono_l : ∀ k, (∀ y0 y1 y2, LeO (garnerref03_All.l0 k y0 y1 y2) (garnerref03_All.l0 (k + 1) y0 y1 y2))
 | 0 => fun _ _ _ r h => by simp [garnerref03_All.l0] at h
 | k + 1 => by
  have ih0 := garnerref03_All.mono_l k
  ·intro y0 y1 y2
   unfold garnerref03_All.l0
   repeat' first
   | (with_reducible exact ih0 _ _ _)
   | (with_reducible exact garnerref03_Put.mono _ _ _)
   | (with_reducible exact LeO.refl _)
   | (with_reducible exact LeO.none _)
   | (with_reducible refine LeO.ite ?_ ?_)
   | (with_reducible refine LeO.bind ?_ (fun _ => ?_))
   | exact ih0 _ _ _
   | exact garnerref03_Put.mono _ _ _
   | exact LeO.none _
   | refine LeO.ite ?_ ?_
   | refine LeO.bind ?_ (fun _ => ?_)
theorem garnerref03_All.mono : ∀ a0 k, LeO (garnerref03_All.f k a0) (garnerref03_All.f (k + 1) a0) := by
 intro a0 k
 have ih0 := garnerref03_All.mono_l k
 unfold garnerref03_All.f
 repeat' first
   | (with_reducible exact ih0 _ _ _)
   | (with_reducible exact garnerref03_Put.mono _ _ _)
   | (with_reducible exact LeO.refl _)
   | (with_reducible exact LeO.none _)
   | (with_reducible refine LeO.ite ?_ ?_)
   | (with_reducible refine LeO.bind ?_ (fun _ => ?_))
   | exact ih0 _ _ _
   | exact garnerref03_Put.mono _ _ _
   | exact LeO.none _
   | refine LeO.ite ?_ ?_
   | refine LeO.bind ?_ (fun _ => ?_)
set_option maxHeartbeats 8000000 in
set_option maxRecDepth 100000 in
theorem garnerref03_All.calls (k : Nat) (A0 : Option Addr) (c0 : Nat) (l0 : List (S83)) (r : List Int) (w : World) (hr0 : Kd.C k83 w A0 l0.length l0) (hc0 : l0.length ≤ c0) (h : garnerref03_All.f k l0 = some r) :
  Calls Try.prog 83 #[.slice A0 l0.length c0] w fun e w' => ∃ v0_ : Value, e = .returned (v0_) ∧ Kd.R (Kd.int .u8) 5 w' w.heap.size (fun _ => True) v0_ r ∧ Below w.heap.size w w' := by
 have hu83 := Try.underlying83
 have HR0 := Aside0.mk hr0
 have HC0 := Aside0.mk hc0
 clear hr0 hc0
 have HB := Aside0.mk (Below.refl w.heap.size w)
 have H : (garnerref03_All.l0 k l0 (([] : List Int)) 0) = some r := h
 clear h
 obtain ⟨y428, hy428⟩ : ∃ y_ : List Int, y_ = (([] : List Int)) := ⟨_, rfl⟩
 replace H : (garnerref03_All.l0 k l0 y428 0) = some r := by first | (rw [hy428]; with_reducible exact H) | (have H2_ := (Option.bind_some _ _).symm.trans H; rw [hy428]; with_reducible exact H2_) | (have H2_ := (Option.bind_some _ _).symm.trans H; with_reducible exact H2_) | with_reducible exact H | (rw [hy428]; exact H) | exact H
 have Ny428 := Aside0.mk hy428
 clear hy428
 have H' := Aside0.mk H
 clear H
 go_enter Try.func83, Try.ntmps83
 go_wp2_with (first | ((with_reducible refine gate_dst (N := 5) rfl ?_); refine Kd.R_lit (Kd.int .u8) _ 5 ?hg (N := 5) ?hd (xs := ([] : List Int)) (inner := []) (ok := fun _ => True) (okp := fun _ => True) ?hr ?hp (fun _ hk => hk) trivial (Below.refl _ _) (Nat.le_refl _) (by simp) ?_; (case hd => rfl); (case hg => rfl); (case hr => first | (go_simp; done) | (go_simp; rfl)); (case hp => exact (Reps.none _ _)); intro v429 w2 ho3 hb hg_ hnew_; clear hg_ hnew_; (first | rw [← Ny428.out] at ho3 | (simp only [Int.reduceToNat] at ho3; rw [← Ny428.out] at ho3)); have n0_ := Aside0.mk (Kd.R_lower ho3 (below_size (pB HB.out))); have n1_ := Aside0.mk (below_step (pB HB.out) hb); clear HB; have HO430 := n0_; have HB := n1_; clear n0_ n1_ hb ho3))
 go_loopg [3, 4] k (fun kq v3 v4 w' => ∃ (x3_1 : List Int) (x4_1 : Int), v4 = .int .i64 x4_1 ∧ Aside0 (garnerref03_All.l0 kq l0 x3_1 x4_1 = some r) ∧ Aside0 (kq ≤ k) ∧ Aside0 (Kd.R (Kd.int .u8) 5 w' w.heap.size (fun _ => True) v3 x3_1) ∧ Aside0 (Below w.heap.size w w'))
 case atStart => exact ⟨(y428), (0), (by first | rfl | (simp; done) | (simp [*]; done)), H', ⟨Nat.le_refl _⟩, ⟨by (with_reducible repeat (first | apply Kd.R_alloc | apply Kd.R_drewN | apply Kd.R_drew)); exact HO430.out⟩, ⟨by repeat (first | (with_reducible first | exact HB.out | apply below_alloc | apply pw_below_drewN | apply below_drew1) | exact HB.out)⟩⟩
 case round =>
  clear H'
  try clear p2
  obtain ⟨x3_1, x4_1, rfl, HA, HK1, HO_3, HB⟩ := hrel
  cases gk with
  | zero => exact absurd HA.out (by simp [garnerref03_All.l0])
  | succ k1 =>
   have H := HA.out
   clear HA
   simp only [garnerref03_All.l0] at H
   by_cases c4 : x4_1 < (l0.length : Int)
   ·rw [if_pos c4] at H
    have c4b0 : decide (x4_1 < (l0.length : Int)) = true := decide_eq_true c4
    clear c4
    by_cases c5 : 0 ≤ x4_1
    ·rw [if_pos c5] at H
     have c5b0 : decide (0 ≤ x4_1) = true := decide_eq_true c5
     clear c5
     replace H := Option.bind_eq_some_iff.mp H
     obtain ⟨t432, A60, H⟩ := H
     replace H : (if x3_1.length + t432.length < 140737488355328 then (garnerref03_All.l0 k1 l0 (x3_1 ++ t432) (wrap64 (x4_1 + 1))) else (none)) = some r := H
     have A6 := Aside0.mk A60
     clear A60
     by_cases c7 : x3_1.length + t432.length < 140737488355328
     ·rw [if_pos c7] at H
      have LMc7 := Aside0.mk c7
      clear c7
      obtain ⟨y435, hy435⟩ : ∃ y_ : List Int, y_ = (x3_1 ++ t432) := ⟨_, rfl⟩
      replace H : (garnerref03_All.l0 k1 l0 y435 (wrap64 (x4_1 + 1))) = some r := by first | (rw [hy435]; with_reducible exact H) | (have H2_ := (Option.bind_some _ _).symm.trans H; rw [hy435]; with_reducible exact H2_) | (have H2_ := (Option.bind_some _ _).symm.trans H; with_reducible exact H2_) | with_reducible exact H | (rw [hy435]; exact H) | exact H
      have Ny435 := Aside0.mk hy435
      clear hy435
      have H' := Aside0.mk H
      clear H
      have p431 : 0 ≤ (x4_1 : Int) := of_decide_eq_true pS
      have q431 : x4_1 < (l0.length : Int) := of_decide_eq_true pS
      obtain ⟨ad431, A431_1, c431_1, e431, hx431_0, hx431_1, hl431_1, hi431_1⟩ := at_T83 HR0.out x4_1 p431 q431
      cases e431
      replace hx431_0 := (HB.out.cell (World.block_lt_of_cell? w _ hx431_0)).trans hx431_0
      replace hx431_1 := (HB.out.cell (World.block_lt_of_cell? w _ hx431_1)).trans hx431_1
      have HR431_1 := Aside0.mk hi431_1
      have HC431_1 := Aside0.mk hl431_1
      clear hi431_1 hl431_1
      replace p431 := eq_true p431
      replace q431 := eq_true q431
      go_wp2_with (first | ((with_reducible refine gate_callee (f := 84) rfl ?_); refine goesL_ (some 17) rfl rfl Try.func84 (by kernel_rfl) rfl #[.agg #[.int .i64 ((rd_T83 l0 x4_1).f0), .slice A431_1 ((rd_T83 l0 x4_1).f1).length c431_1]] rfl pL ?_; (with_reducible refine (garnerref03_Put.calls k1 ((rd_T83 l0 x4_1).f0) _ _ ((rd_T83 l0 x4_1).f1) t432 _ ?side1 ?side2 A6.out).mono ?_); (case side1 => exact pC (Kd.C_below HR431_1.out HB.out)); (case side2 => exact HC431_1.out); rintro e w8 ⟨v433, rfl, ho0, hb⟩; refine ⟨_, rfl, ?_⟩; have n0_ := Aside0.mk (Kd.R_elder' (pR HO_3.out) (Kd.R_base ho0) hb); have n1_ := Aside0.mk (Kd.R_lower (Kd.R_new' ho0 (Kd.R_lt (pR HO_3.out))) (below_size (pB HB.out))); have n2_ := Aside0.mk (below_step (pB HB.out) hb); clear HO_3 HB; have HO_3 := n0_; have HO434 := n1_; have HB := n2_; clear n0_ n1_ n2_; (try clear hb); (try clear hb2); (try clear hk); (try clear hi); (try clear ho0); obtain ⟨Ao10, co10, eo10⟩ := Kd.R_slice HO434.out; subst eo10) | ((with_reducible refine gate_builtin (b := .append) (xs := #[.tmp 12, .tmp 17]) rfl ?_); at_builtin; refine Kd.R_append_rows (Kd.int .u8) (w0 := w) w.heap.size rfl (.tmp 12) (.tmp 17) 22 5 (.int .u8 0) 1 rfl Try.underlying22 info5 rfl (by decide) (by omega) u3 x3_1 t432 _ _ _ (fun k_ => some k_ ≠ (.slice Ao10 t432.length co10 : Value).ownBlock) (fun _ => False) rfl rfl ?aO ?aR (fun _ _ h => h) (fun _ h => h.elim) ?aF ?aB ?aS ?aL ?_; (case aR => exact pC (Kd.R_reads' HO434.out).2.2); (case aB => exact (pB HB.out)); (case aF => exact (fun k_ hk => Kd.fresh' (Kd.R_lt (pR HO434.out)) k_ hk)); (case aO => exact (by (with_reducible repeat (first | apply Kd.R_alloc | apply Kd.R_drewN | apply Kd.R_drew)); exact Kd.R_mono HO_3.out (fun _ hk => hk.2))); (case aS => exact (below_size (pB HB.out))); (case aL => have := LMc7.out; omega); intro v436 w9 ho hb hg hat; rw [← Ny435.out] at ho; have n0_ := Aside0.mk (Kd.R_after (ok := (fun _ => True)) (pR HO434.out) hg hat); have n1_ := Aside0.mk (hb); have n2_ := Aside0.mk (ho); clear HO434 HB HO_3; have HO434 := n0_; have HB := n1_; have HO437 := n2_; clear n0_ n1_ n2_ ho hb hg hat))
      go_roundg k1
      case measure => have := HK1.out; omega
      case rel => exact ⟨(y435), (wrap64 (x4_1 + 1)), (by first | rfl | (simp; done) | (simp [*]; done)), H', ⟨by have := HK1.out; omega⟩, ⟨by (with_reducible repeat (first | apply Kd.R_alloc | apply Kd.R_drewN | apply Kd.R_drew)); exact Kd.R_mono HO437.out (fun _ hk => trivial)⟩, ⟨by repeat (first | (with_reducible first | exact HB.out | apply below_alloc | apply pw_below_drewN | apply below_drew1) | exact HB.out)⟩⟩
     ·rw [if_neg c7] at H
      exact absurd H (by simp)
    ·rw [if_neg c5] at H
     exact absurd H (by simp)
   ·rw [if_neg c4] at H
    have c4b0 : decide (x4_1 < (l0.length : Int)) = false := decide_eq_false c4
    clear c4
    obtain rfl := Option.some.inj H
    go_wp2
    go_ret
    exact ⟨_, by first | rfl | (simp [errW_none, errW_some] <;> rfl) | (simp [*, errW_none, errW_some] <;> rfl), by (with_reducible repeat (first | apply Kd.R_alloc | apply Kd.R_drewN | apply Kd.R_drew)); exact HO_3.out, by repeat (first | (with_reducible first | exact HB.out | apply below_alloc | apply pw_below_drewN | apply below_drew1) | exact HB.out)⟩
def garnerref04_Sum.l0 : Nat → Int → List Int → Int → Option (List Int)
 | 0, _, _, _ => none
 | k + 1, x0, x3, x4 => if x4 < 4 then (if x3.length < 140737488355328 then (garnerref04_Sum.l0 k ((Int.tdiv x0 256) % 4294967296) (x3 ++ [(Int.tmod x0 256) % 256]) (wrap64 (x4 + 1))) else (none)) else (some x3)
def garnerref04_Sum.f (k : Nat) (a0 : Int) : Option (List Int) := garnerref04_Sum.l0 k a0 (([] : List Int)) 0
theorem garnerref04_Sum.mono_l : ∀ k, (∀ y0 y1 y2, LeO (garnerref04_Sum.l0 k y0 y1 y2) (garnerref04_Sum.l0 (k + 1) y0 y1 y2))
 | 0 => fun _ _ _ r h => by simp [garnerref04_Sum.l0] at h
 | k + 1 => by
  have ih0 := garnerref04_Sum.mono_l k
  ·intro y0 y1 y2
   unfold garnerref04_Sum.l0
   repeat' first
   | (with_reducible exact ih0 _ _ _)
   | (with_reducible exact LeO.refl _)
   | (with_reducible exact LeO.none _)
   | (with_reducible refine LeO.ite ?_ ?_)
   | (with_reducible refine LeO.bind ?_ (fun _ => ?_))
   | exact ih0 _ _ _
   | exact LeO.none _
   | refine LeO.ite ?_ ?_
   | refine LeO.bind ?_ (fun _ => ?_)
theorem garnerref04_Sum.mono : ∀ a0 k, LeO (garnerref04_Sum.f k a0) (garnerref04_Sum.f (k + 1) a0) := by
 intro a0 k
 have ih0 := garnerref04_Sum.mono_l k
 unfold garnerref04_Sum.f
 repeat' first
   | (with_reducible exact ih0 _ _ _)
   | (with_reducible exact LeO.refl _)
   | (with_reducible exact LeO.none _)
   | (with_reducible refine LeO.ite ?_ ?_)
   | (with_reducible refine LeO.bind ?_ (fun _ => ?_))
   | exact ih0 _ _ _
   | exact LeO.none _
   | refine LeO.ite ?_ ?_
   | refine LeO.bind ?_ (fun _ => ?_)
set_option maxHeartbeats 8000000 in
set_option maxRecDepth 100000 in
theorem garnerref04_Sum.calls (k : Nat) (a0 : Int) (r : List Int) (w : World) (h : garnerref04_Sum.f k a0 = some r) :
  Calls Try.prog 85 #[.int .u32 a0] w fun e w' => ∃ v0_ : Value, e = .returned (v0_) ∧ Kd.R (Kd.int .u8) 5 w' w.heap.size (fun _ => True) v0_ r ∧ Below w.heap.size w w' := by
 have HB := Aside0.mk (Below.refl w.heap.size w)
 have H : (garnerref04_Sum.l0 k a0 (([] : List Int)) 0) = some r := h
 clear h
 obtain ⟨y438, hy438⟩ : ∃ y_ : List Int, y_ = (([] : List Int)) := ⟨_, rfl⟩
 replace H : (garnerref04_Sum.l0 k a0 y438 0) = some r := by first | (rw [hy438]; with_reducible exact H) | (have H2_ := (Option.bind_some _ _).symm.trans H; rw [hy438]; with_reducible exact H2_) | (have H2_ := (Option.bind_some _ _).symm.trans H; with_reducible exact H2_) | with_reducible exact H | (rw [hy438]; exact H) | exact H
 have Ny438 := Aside0.mk hy438
 clear hy438
 have H' := Aside0.mk H
 clear H
 go_enter Try.func85, Try.ntmps85
 go_wp2_with (first | ((with_reducible refine gate_dst (N := 5) rfl ?_); refine Kd.R_lit (Kd.int .u8) _ 5 ?hg (N := 5) ?hd (xs := ([] : List Int)) (inner := []) (ok := fun _ => True) (okp := fun _ => True) ?hr ?hp (fun _ hk => hk) trivial (Below.refl _ _) (Nat.le_refl _) (by simp) ?_; (case hd => rfl); (case hg => rfl); (case hr => first | (go_simp; done) | (go_simp; rfl)); (case hp => exact (Reps.none _ _)); intro v439 w2 ho3 hb hg_ hnew_; clear hg_ hnew_; (first | rw [← Ny438.out] at ho3 | (simp only [Int.reduceToNat] at ho3; rw [← Ny438.out] at ho3)); have n0_ := Aside0.mk (Kd.R_lower ho3 (below_size (pB HB.out))); have n1_ := Aside0.mk (below_step (pB HB.out) hb); clear HB; have HO440 := n0_; have HB := n1_; clear n0_ n1_ hb ho3))
 go_loopg [0, 3, 4] k (fun kq v0 v3 v4 w' => ∃ (x0_1 : Int) (x3_1 : List Int) (x4_1 : Int), v0 = .int .u32 x0_1 ∧ v4 = .int .i64 x4_1 ∧ Aside0 (garnerref04_Sum.l0 kq x0_1 x3_1 x4_1 = some r) ∧ Aside0 (kq ≤ k) ∧ Aside0 (Kd.R (Kd.int .u8) 5 w' w.heap.size (fun _ => True) v3 x3_1) ∧ Aside0 (Below w.heap.size w w'))
 case atStart => exact ⟨(a0), (y438), (0), (by first | rfl | (simp; done) | (simp [*]; done)), (by first | rfl | (simp; done) | (simp [*]; done)), H', ⟨Nat.le_refl _⟩, ⟨by (with_reducible repeat (first | apply Kd.R_alloc | apply Kd.R_drewN | apply Kd.R_drew)); exact HO440.out⟩, ⟨by repeat (first | (with_reducible first | exact HB.out | apply below_alloc | apply pw_below_drewN | apply below_drew1) | exact HB.out)⟩⟩
 case round =>
  clear H'
  try clear p2
  obtain ⟨x0_1, x3_1, x4_1, rfl, rfl, HA, HK1, HO_3, HB⟩ := hrel
  cases gk with
  | zero => exact absurd HA.out (by simp [garnerref04_Sum.l0])
  | succ k1 =>
   have H := HA.out
   clear HA
   simp only [garnerref04_Sum.l0] at H
   by_cases c4 : x4_1 < 4
   ·rw [if_pos c4] at H
    have c4b0 : decide (x4_1 < 4) = true := decide_eq_true c4
    clear c4
    by_cases c5 : x3_1.length < 140737488355328
    ·rw [if_pos c5] at H
     have LMc5 := Aside0.mk c5
     clear c5
     obtain ⟨y441, hy441⟩ : ∃ y_ : List Int, y_ = (x3_1 ++ [(Int.tmod x0_1 256) % 256]) := ⟨_, rfl⟩
     replace H : (garnerref04_Sum.l0 k1 ((Int.tdiv x0_1 256) % 4294967296) y441 (wrap64 (x4_1 + 1))) = some r := by first | (rw [hy441]; with_reducible exact H) | (have H2_ := (Option.bind_some _ _).symm.trans H; rw [hy441]; with_reducible exact H2_) | (have H2_ := (Option.bind_some _ _).symm.trans H; with_reducible exact H2_) | with_reducible exact H | (rw [hy441]; exact H) | exact H
     have Ny441 := Aside0.mk hy441
     clear hy441
     have H' := Aside0.mk H
     clear H
     go_wp2_with (first | ((with_reducible refine gate_builtin (b := .append) (xs := #[.tmp 10, .tmp 14]) rfl ?_); at_builtin; refine Kd.R_append (Kd.int .u8) (w0 := w) w.heap.size rfl (.tmp 10) (.tmp 14) 22 5 (.int .u8 0) 1 rfl Try.underlying22 info5 rfl (by decide) (by omega) u3 x3_1 ((Int.tmod x0_1 256) % 256) [.int .u8 ((Int.tmod x0_1 256) % 256)] (fun _ => True) (fun _ => False) rfl rfl ?aP (fun _ hk => hk.elim) ?aF ?aO ?aB ?aS ?aL ?_; (case aP => exact rfl); (case aB => exact (pB HB.out)); (case aF => exact (fun _ _ => trivial)); (case aO => exact (pR HO_3.out)); (case aS => exact (below_size (pB HB.out))); (case aL => have := LMc5.out; omega); intro v442 w6 ho hb hg hat; rw [← Ny441.out] at ho; have n0_ := Aside0.mk (hb); have n1_ := Aside0.mk (ho); clear HB HO_3; have HB := n0_; have HO443 := n1_; clear n0_ n1_ ho hb hg hat))
     go_roundg k1
     case measure => have := HK1.out; omega
     case rel => exact ⟨((Int.tdiv x0_1 256) % 4294967296), (y441), (wrap64 (x4_1 + 1)), (by first | rfl | (simp; done) | (simp [*]; done)), (by first | rfl | (simp; done) | (simp [*]; done)), H', ⟨by have := HK1.out; omega⟩, ⟨by (with_reducible repeat (first | apply Kd.R_alloc | apply Kd.R_drewN | apply Kd.R_drew)); exact HO443.out⟩, ⟨by repeat (first | (with_reducible first | exact HB.out | apply below_alloc | apply pw_below_drewN | apply below_drew1) | exact HB.out)⟩⟩
    ·rw [if_neg c5] at H
     exact absurd H (by simp)
   ·rw [if_neg c4] at H
    have c4b0 : decide (x4_1 < 4) = false := decide_eq_false c4
    clear c4
    obtain rfl := Option.some.inj H
    go_wp2
    go_ret
    exact ⟨_, by first | rfl | (simp [errW_none, errW_some] <;> rfl) | (simp [*, errW_none, errW_some] <;> rfl), by (with_reducible repeat (first | apply Kd.R_alloc | apply Kd.R_drewN | apply Kd.R_drew)); exact HO_3.out, by repeat (first | (with_reducible first | exact HB.out | apply below_alloc | apply pw_below_drewN | apply below_drew1) | exact HB.out)⟩
def garnerref27_Put.l0 : Nat → List (S83) → Int → Int → Int → List (S135) → Option (List Int)
 | 0, _, _, _, _, _ => none
 | k + 1, x3, x4, x445000, x445001, x445002 => if x4 < (x445002.length : Int) then (if 0 ≤ x4 then ((garnerref02_One.f k (IntKind.u64.wrap ((((rd_T135 x445002 x4).f0).size : Int)))).bind fun t456 => (if t456.length + ((rd_T135 x445002 x4).f0).size < 140737488355328 then ((some (t456 ++ bytesOf ((rd_T135 x445002 x4).f0) : List Int)).bind fun y459 => (if y459.length + ((rd_T135 x445002 x4).f1).length < 140737488355328 then (if x3.length < 4398046511104 then (garnerref27_Put.l0 k (x3 ++ [(⟨22, (y459 ++ ((rd_T135 x445002 x4).f1))⟩ : S83)]) (wrap64 (x4 + 1)) x445000 x445001 x445002) else (none)) else (none))) else (none))) else (none)) else ((garnerref03_All.f k x3).bind fun t468 => ((garnerref01_Of.f k t468).bind fun t471 => ((garnerref04_Sum.f k t471).bind fun t472 => ((garnerref03_Put.f k 23 t472).bind fun t475 => (if t468.length + t475.length < 140737488355328 then (some (t468 ++ t475)) else (none))))))
def garnerref27_Put.f (k : Nat) (a0_0 : Int) (a0_1 : Int) (l0_2 : List (S135)) : Option (List Int) := (garnerref02_Put.f k (([IntKind.u64.wrap (a0_0), IntKind.u64.wrap (a0_1), IntKind.u64.wrap ((l0_2.length : Int))] : List Int))).bind fun t448 => (garnerref27_Put.l0 k (([(⟨21, t448⟩ : S83)] : List (S83))) 0 a0_0 a0_1 l0_2)
theorem garnerref27_Put.mono_l : ∀ k, (∀ y0 y1 y2 y3 y4, LeO (garnerref27_Put.l0 k y0 y1 y2 y3 y4) (garnerref27_Put.l0 (k + 1) y0 y1 y2 y3 y4))
 | 0 => fun _ _ _ _ _ r h => by simp [garnerref27_Put.l0] at h
 | k + 1 => by
  have ih0 := garnerref27_Put.mono_l k
  ·intro y0 y1 y2 y3 y4
   unfold garnerref27_Put.l0
   repeat' first
   | (with_reducible exact ih0 _ _ _ _ _)
   | (with_reducible exact garnerref01_Of.mono _ _)
   | (with_reducible exact garnerref02_One.mono _ _)
   | (with_reducible exact garnerref02_Put.mono _ _)
   | (with_reducible exact garnerref03_All.mono _ _)
   | (with_reducible exact garnerref03_Put.mono _ _ _)
   | (with_reducible exact garnerref04_Sum.mono _ _)
   | (with_reducible exact LeO.refl _)
   | (with_reducible exact LeO.none _)
   | (with_reducible refine LeO.ite ?_ ?_)
   | (with_reducible refine LeO.bind ?_ (fun _ => ?_))
   | exact ih0 _ _ _ _ _
   | exact garnerref01_Of.mono _ _
   | exact garnerref02_One.mono _ _
   | exact garnerref02_Put.mono _ _
   | exact garnerref03_All.mono _ _
   | exact garnerref03_Put.mono _ _ _
   | exact garnerref04_Sum.mono _ _
   | exact LeO.none _
   | refine LeO.ite ?_ ?_
   | refine LeO.bind ?_ (fun _ => ?_)
theorem garnerref27_Put.mono : ∀ a0 a1 a2 k, LeO (garnerref27_Put.f k a0 a1 a2) (garnerref27_Put.f (k + 1) a0 a1 a2) := by
 intro a0 a1 a2 k
 have ih0 := garnerref27_Put.mono_l k
 unfold garnerref27_Put.f
 repeat' first
   | (with_reducible exact ih0 _ _ _ _ _)
   | (with_reducible exact garnerref01_Of.mono _ _)
   | (with_reducible exact garnerref02_One.mono _ _)
   | (with_reducible exact garnerref02_Put.mono _ _)
   | (with_reducible exact garnerref03_All.mono _ _)
   | (with_reducible exact garnerref03_Put.mono _ _ _)
   | (with_reducible exact garnerref04_Sum.mono _ _)
   | (with_reducible exact LeO.refl _)
   | (with_reducible exact LeO.none _)
   | (with_reducible refine LeO.ite ?_ ?_)
   | (with_reducible refine LeO.bind ?_ (fun _ => ?_))
   | exact ih0 _ _ _ _ _
   | exact garnerref01_Of.mono _ _
   | exact garnerref02_One.mono _ _
   | exact garnerref02_Put.mono _ _
   | exact garnerref03_All.mono _ _
   | exact garnerref03_Put.mono _ _ _
   | exact garnerref04_Sum.mono _ _
   | exact LeO.none _
   | refine LeO.ite ?_ ?_
   | refine LeO.bind ?_ (fun _ => ?_)
def garnerref27_Put.T6 : Bool × List (List Nat × List Nat) := (true, [([], []), ([0], [0]), ([1], [1]), ([2], [2]), ([3], [3]), ([], []), ([5], [5]), ([4, 6, 4], [4, 6]), ([], []), ([8], [8]), ([7, 9, 7], [7, 9]), ([10, 10, 0, 1, 2, 3, 4, 5, 6, 7, 8, 9, 10], [10])])
def garnerref27_Put.B6 : List Nat := [0, 1, 3, 7, 15, 0, 32, 127, 0, 256, 1023, 2047]
theorem garnerref27_Put.tab6 : rtab .any (opsOf Try.f26 6) = garnerref27_Put.T6 := by kernel_rfl
theorem garnerref27_Put.bits6 : waitsOk garnerref27_Put.T6.2 garnerref27_Put.B6 = true := by kernel_rfl
set_option maxHeartbeats 8000000 in
set_option maxRecDepth 100000 in
theorem garnerref27_Put.calls (k : Nat) (a0_0 : Int) (a0_1 : Int) (A0_2 : Option Addr) (c0_2 : Nat) (l0_2 : List (S135)) (r : List Int) (w : World) (hr0_2 : Kd.C k135 w A0_2 l0_2.length l0_2) (hc0_2 : l0_2.length ≤ c0_2) (h : garnerref27_Put.f k a0_0 a0_1 l0_2 = some r) :
  Calls Try.prog 26 #[.agg #[.int .i64 a0_0, .int .i64 a0_1, .slice A0_2 l0_2.length c0_2]] w fun e w' => ∃ v0_ : Value, e = .returned (v0_) ∧ Kd.R (Kd.int .u8) 5 w' w.heap.size (fun _ => True) v0_ r ∧ Below w.heap.size w w' := by
 have hu29 := Try.underlying29
 have hu83 := Try.underlying83
 have hu135 := Try.underlying135
 have HR0_2 := Aside0.mk hr0_2
 have HC0_2 := Aside0.mk hc0_2
 clear hr0_2 hc0_2
 have HB := Aside0.mk (Below.refl w.heap.size w)
 have H : ((garnerref02_Put.f k (([IntKind.u64.wrap (a0_0), IntKind.u64.wrap (a0_1), IntKind.u64.wrap ((l0_2.length : Int))] : List Int))).bind fun t448 => (garnerref27_Put.l0 k (([(⟨21, t448⟩ : S83)] : List (S83))) 0 a0_0 a0_1 l0_2)) = some r := h
 clear h
 obtain ⟨y445, hy445⟩ : ∃ y_ : List Int, y_ = (([IntKind.u64.wrap (a0_0), IntKind.u64.wrap (a0_1), IntKind.u64.wrap ((l0_2.length : Int))] : List Int)) := ⟨_, rfl⟩
 replace H : ((garnerref02_Put.f k y445).bind fun t448 => (garnerref27_Put.l0 k (([(⟨21, t448⟩ : S83)] : List (S83))) 0 a0_0 a0_1 l0_2)) = some r := by first | (rw [hy445]; with_reducible exact H) | (have H2_ := (Option.bind_some _ _).symm.trans H; rw [hy445]; with_reducible exact H2_) | (have H2_ := (Option.bind_some _ _).symm.trans H; with_reducible exact H2_) | with_reducible exact H | (rw [hy445]; exact H) | exact H
 have Ny445 := Aside0.mk hy445
 clear hy445
 replace H := Option.bind_eq_some_iff.mp H
 obtain ⟨t448, A20, H⟩ := H
 replace H : (garnerref27_Put.l0 k (([(⟨21, t448⟩ : S83)] : List (S83))) 0 a0_0 a0_1 l0_2) = some r := H
 have A2 := Aside0.mk A20
 clear A20
 obtain ⟨y451, hy451⟩ : ∃ y_ : List (S83), y_ = (([(⟨21, t448⟩ : S83)] : List (S83))) := ⟨_, rfl⟩
 replace H : (garnerref27_Put.l0 k y451 0 a0_0 a0_1 l0_2) = some r := by first | (rw [hy451]; with_reducible exact H) | (have H2_ := (Option.bind_some _ _).symm.trans H; rw [hy451]; with_reducible exact H2_) | (have H2_ := (Option.bind_some _ _).symm.trans H; with_reducible exact H2_) | with_reducible exact H | (rw [hy451]; exact H) | exact H
 have Ny451 := Aside0.mk hy451
 clear hy451
 have H' := Aside0.mk H
 clear H
 go_enter Try.func26, Try.ntmps26
 go_wp2_with (first | ((with_reducible refine gate_dst (N := 1) rfl ?_); refine box_event ?hg (N := 1) ?hd (cs := #[.int .i64 a0_0, .int .i64 a0_1, .slice A0_2 l0_2.length c0_2]) (t := 29) ?hr ?_; (case hd => rfl); (case hg => rfl); (case hr => first | (go_simp; done) | (go_simp; rfl)); intro gb444 hg w3 hbox hb; have n0_ := Aside0.mk (below_step (pB HB.out) hb); have n1_ := Aside0.mk (hbox); have n2_ := Aside0.mk ((by rw [hg]; exact (below_size (pB HB.out)) : w.heap.size ≤ gb444)); have n3_ := Aside0.mk ((by rw [hg]; exact (below_size (pB HB.out)) : w.heap.size ≤ gb444)); clear HB; have HB := n0_; have BK444 := n1_; have GW444 := n2_; have GE444 := n3_; clear n0_ n1_ n2_ n3_ hb hbox hg; have hcz4_0 : w3.cell? ⟨gb444, 0, none⟩ = some (.int .i64 a0_0) := (blk_cell BK444.out 0).trans rfl; have hcz4_1 : w3.cell? ⟨gb444, 1, none⟩ = some (.int .i64 a0_1) := (blk_cell BK444.out 1).trans rfl; have hcz4_2 : w3.cell? ⟨gb444, 2, none⟩ = some (.slice A0_2 l0_2.length c0_2) := (blk_cell BK444.out 2).trans rfl; have hfz4_0 := blk_frozen BK444.out 0; have hfz4_1 := blk_frozen BK444.out 1; have hfz4_2 := blk_frozen BK444.out 2) | ((with_reducible refine gate_dst (N := 18) rfl ?_); refine Kd.R_lit (Kd.int .u64) _ 133 ?hg (N := 18) ?hd (xs := ([IntKind.u64.wrap (a0_0), IntKind.u64.wrap (a0_1), IntKind.u64.wrap ((l0_2.length : Int))] : List Int)) (inner := [.int .u64 (IntKind.u64.wrap (a0_0)), .int .u64 (IntKind.u64.wrap (a0_1)), .int .u64 (IntKind.u64.wrap ((l0_2.length : Int)))]) (ok := fun _ => True) (okp := fun _ => True) ?hr ?hp (fun _ hk => hk) trivial (Below.refl _ _) (Nat.le_refl _) (by simp) ?_; (case hd => rfl); (case hg => rfl); (case hr => first | (go_simp; done) | (go_simp; rfl)); (case hp => exact (Reps.one (show Kd.M (Kd.int .u64) _ _ _ (IntKind.u64.wrap (a0_0)) [.int .u64 (IntKind.u64.wrap (a0_0))] from rfl) (Reps.one (show Kd.M (Kd.int .u64) _ _ _ (IntKind.u64.wrap (a0_1)) [.int .u64 (IntKind.u64.wrap (a0_1))] from rfl) (Reps.one (show Kd.M (Kd.int .u64) _ _ _ (IntKind.u64.wrap ((l0_2.length : Int))) [.int .u64 (IntKind.u64.wrap ((l0_2.length : Int)))] from rfl) (Reps.none _ _))))); intro v446 w5 ho6 hb hg_ hnew_; clear hg_ hnew_; (first | rw [← Ny445.out] at ho6 | (simp only [Int.reduceToNat] at ho6; rw [← Ny445.out] at ho6)); have n0_ := Aside0.mk (Kd.R_lower ho6 (below_size (pE HB.out GE444.out))); have n1_ := Aside0.mk (blk_below (g := gb444) (o := .cells #[.int .i64 a0_0, .int .i64 a0_1, .slice A0_2 l0_2.length c0_2] 29 (0, 0)) (pK BK444.out) hb); have n2_ := Aside0.mk (below_step (pE HB.out GE444.out) hb); clear BK444 HB; have HO447 := n0_; have BK444 := n1_; have HB := n2_; clear n0_ n1_ n2_ hb ho6; obtain ⟨Ao7, co7, eo7⟩ := Kd.R_slice HO447.out; subst eo7) | ((with_reducible refine gate_callee (f := 81) rfl ?_); refine goesL_ (some 19) rfl rfl Try.func81 (by kernel_rfl) rfl #[.slice Ao7 y445.length co7] rfl pL ?_; (with_reducible refine (garnerref02_Put.calls k _ _ y445 t448 _ ?side1 ?side2 A2.out).mono ?_); (case side1 => exact pC (Kd.R_reads' HO447.out).2.2); (case side2 => exact (Kd.R_reads' HO447.out).2.1); rintro e w8 ⟨v449, rfl, ho0, hb⟩; refine ⟨_, rfl, ?_⟩; have n0_ := Aside0.mk (Kd.R_below (pR HO447.out) hb); have n1_ := Aside0.mk (Kd.R_lower ho0 (below_size (pE HB.out GE444.out))); have n2_ := Aside0.mk (blk_below (g := gb444) (o := .cells #[.int .i64 a0_0, .int .i64 a0_1, .slice A0_2 l0_2.length c0_2] 29 (0, 0)) (pK BK444.out) hb); have n3_ := Aside0.mk (below_step (pE HB.out GE444.out) hb); clear HO447 BK444 HB; have HO447 := n0_; have HO450 := n1_; have BK444 := n2_; have HB := n3_; clear n0_ n1_ n2_ n3_; (try clear hb); (try clear hb2); (try clear hk); (try clear hi); (try clear ho0); obtain ⟨Ao9, co9, eo9⟩ := Kd.R_slice HO450.out; subst eo9) | ((with_reducible refine gate_dst (N := 21) rfl ?_); refine Kd.N_lit k83 _ 83 ?hg (N' := 21) ?hd (xs := ([(⟨21, t448⟩ : S83)] : List (S83))) (inner := [.int .i64 21, .slice Ao9 t448.length co9]) (ok := (fun k_ => some k_ ≠ (.slice Ao7 y445.length co7 : Value).ownBlock ∧ k_ ≠ gb444)) (okp := (fun k_ => some k_ ≠ (.slice Ao7 y445.length co7 : Value).ownBlock ∧ k_ ≠ gb444)) ?hr ?hp (fun _ hk => hk) ((show ∀ k_, w8.heap.size ≤ k_ → (fun k_ => some k_ ≠ (.slice Ao7 y445.length co7 : Value).ownBlock ∧ k_ ≠ gb444) k_ from fun k_ hk => ⟨Kd.fresh' (Kd.R_lt (pR HO447.out)) k_ hk, Kd.freshB (g := gb444) (o := .cells #[.int .i64 a0_0, .int .i64 a0_1, .slice A0_2 l0_2.length c0_2] 29 (0, 0)) (pK BK444.out) k_ hk⟩) _ (Nat.le_refl _)) (Below.refl _ _) (Nat.le_refl _) (by simp) ?_; (case hd => rfl); (case hg => rfl); (case hr => first | (go_simp; done) | (go_simp; rfl)); (case hp => exact (Reps.c2 (show Kd.FK k83 _ _ (⟨21, t448⟩ : S83) [.int .i64 21, .slice Ao9 t448.length co9] from (k83_mkF _ _ (⟨21, t448⟩ : S83) (Kd.R_reads' (Kd.R_mono (ok' := (fun k_ => some k_ ≠ (.slice Ao7 y445.length co7 : Value).ownBlock ∧ k_ ≠ gb444)) (Kd.R_types (Kd.R_apart' (HO450.out) (Kd.R_typed HO447.out) (by decide)) BK444.out (by decide)) (fun k_ hk => ⟨hk.1.2, hk.2⟩))).2.1 (Kd.R_F (Kd.R_mono (ok' := (fun k_ => some k_ ≠ (.slice Ao7 y445.length co7 : Value).ownBlock ∧ k_ ≠ gb444)) (Kd.R_types (Kd.R_apart' (HO450.out) (Kd.R_typed HO447.out) (by decide)) BK444.out (by decide)) (fun k_ hk => ⟨hk.1.2, hk.2⟩))))) (Reps.none _ _))); intro v452 w10 ho11 hb hg_ hnew_; clear hg_ hnew_; (first | rw [← Ny451.out] at ho11 | (simp only [Int.reduceToNat] at ho11; rw [← Ny451.out] at ho11)); have n0_ := Aside0.mk (Kd.R_below (pR HO447.out) hb); have n1_ := Aside0.mk (Kd.N_lower ho11 (below_size (pE HB.out GE444.out))); have n2_ := Aside0.mk (blk_below (g := gb444) (o := .cells #[.int .i64 a0_0, .int .i64 a0_1, .slice A0_2 l0_2.length c0_2] 29 (0, 0)) (pK BK444.out) hb); have n3_ := Aside0.mk (below_step (pE HB.out GE444.out) hb); clear HO447 BK444 HB HO450; have HO447 := n0_; have HO453 := n1_; have BK444 := n2_; have HB := n3_; clear n0_ n1_ n2_ n3_ hb ho11))
 go_loopg [3, 4] k (fun kq v3 v4 w' => ∃ (x3_1 : List (S83)) (x4_1 : Int), v4 = .int .i64 x4_1 ∧ Aside0 (garnerref27_Put.l0 kq x3_1 x4_1 a0_0 a0_1 l0_2 = some r) ∧ Aside0 (kq ≤ k) ∧ Aside0 (Kd.N k83 83 w' w.heap.size (fun k_ => k_ ≠ gb444) v3 x3_1) ∧ Aside0 (w'.heap[gb444]? = some (.cells #[.int .i64 a0_0, .int .i64 a0_1, (.slice A0_2 l0_2.length c0_2)] 29 (0, 0))) ∧ Aside0 (Below w.heap.size w w'))
 case atStart => exact ⟨(y451), (0), (by first | rfl | (simp; done) | (simp [*]; done)), H', ⟨Nat.le_refl _⟩, ⟨by (with_reducible repeat (first | apply Kd.N_alloc | apply Kd.N_drewN | apply Kd.N_drew)); exact Kd.N_mono HO453.out (fun _ hk => hk.2)⟩, ⟨by (with_reducible repeat (first | refine blk_drewN ?_ _ | refine blk_drew ?_ | refine blk_alloc ?_ _)); exact BK444.out⟩, ⟨by repeat (first | (with_reducible first | exact HB.out | apply below_alloc | apply pw_below_drewN | apply below_drew1 | refine below_set ?_ GE444.out) | exact HB.out)⟩⟩
 case round =>
  clear H'
  try clear c2
  try clear p2
  try clear c8
  try clear hcz4_0
  try clear hcz4_1
  try clear hcz4_2
  try clear hfz4_0
  try clear hfz4_1
  try clear hfz4_2
  obtain ⟨x3_1, x4_1, rfl, HA, HK1, HO_3, BK444, HB⟩ := hrel
  cases gk with
  | zero => exact absurd HA.out (by simp [garnerref27_Put.l0])
  | succ k1 =>
   have H := HA.out
   clear HA
   simp only [garnerref27_Put.l0] at H
   by_cases c12 : x4_1 < (l0_2.length : Int)
   ·rw [if_pos c12] at H
    have c12b0 : decide (x4_1 < (l0_2.length : Int)) = true := decide_eq_true c12
    clear c12
    by_cases c13 : 0 ≤ x4_1
    ·rw [if_pos c13] at H
     have c13b0 : decide (0 ≤ x4_1) = true := decide_eq_true c13
     clear c13
     replace H := Option.bind_eq_some_iff.mp H
     obtain ⟨t456, A140, H⟩ := H
     replace H : (if t456.length + ((rd_T135 l0_2 x4_1).f0).size < 140737488355328 then ((some (t456 ++ bytesOf ((rd_T135 l0_2 x4_1).f0) : List Int)).bind fun y459 => (if y459.length + ((rd_T135 l0_2 x4_1).f1).length < 140737488355328 then (if x3_1.length < 4398046511104 then (garnerref27_Put.l0 k1 (x3_1 ++ [(⟨22, (y459 ++ ((rd_T135 l0_2 x4_1).f1))⟩ : S83)]) (wrap64 (x4_1 + 1)) a0_0 a0_1 l0_2) else (none)) else (none))) else (none)) = some r := H
     have A14 := Aside0.mk A140
     clear A140
     by_cases c15 : t456.length + ((rd_T135 l0_2 x4_1).f0).size < 140737488355328
     ·rw [if_pos c15] at H
      have LMc15 := Aside0.mk c15
      clear c15
      obtain ⟨y459, hy459⟩ : ∃ y_ : List Int, y_ = (t456 ++ bytesOf ((rd_T135 l0_2 x4_1).f0)) := ⟨_, rfl⟩
      replace H : (if y459.length + ((rd_T135 l0_2 x4_1).f1).length < 140737488355328 then (if x3_1.length < 4398046511104 then (garnerref27_Put.l0 k1 (x3_1 ++ [(⟨22, (y459 ++ ((rd_T135 l0_2 x4_1).f1))⟩ : S83)]) (wrap64 (x4_1 + 1)) a0_0 a0_1 l0_2) else (none)) else (none)) = some r := by first | (rw [hy459]; with_reducible exact H) | (have H2_ := (Option.bind_some _ _).symm.trans H; rw [hy459]; with_reducible exact H2_) | (have H2_ := (Option.bind_some _ _).symm.trans H; with_reducible exact H2_) | with_reducible exact H | (rw [hy459]; exact H) | exact H
      have Ny459 := Aside0.mk hy459
      clear hy459
      by_cases c16 : y459.length + ((rd_T135 l0_2 x4_1).f1).length < 140737488355328
      ·rw [if_pos c16] at H
       have LMc16 := Aside0.mk c16
       clear c16
       obtain ⟨y462, hy462⟩ : ∃ y_ : List Int, y_ = (y459 ++ ((rd_T135 l0_2 x4_1).f1)) := ⟨_, rfl⟩
       replace H : (if x3_1.length < 4398046511104 then (garnerref27_Put.l0 k1 (x3_1 ++ [(⟨22, y462⟩ : S83)]) (wrap64 (x4_1 + 1)) a0_0 a0_1 l0_2) else (none)) = some r := by first | (rw [hy462]; with_reducible exact H) | (have H2_ := (Option.bind_some _ _).symm.trans H; rw [hy462]; with_reducible exact H2_) | (have H2_ := (Option.bind_some _ _).symm.trans H; with_reducible exact H2_) | with_reducible exact H | (rw [hy462]; exact H) | exact H
       have Ny462 := Aside0.mk hy462
       clear hy462
       by_cases c17 : x3_1.length < 4398046511104
       ·rw [if_pos c17] at H
        have LMc17 := Aside0.mk c17
        clear c17
        obtain ⟨y465, hy465⟩ : ∃ y_ : List (S83), y_ = (x3_1 ++ [(⟨22, y462⟩ : S83)]) := ⟨_, rfl⟩
        replace H : (garnerref27_Put.l0 k1 y465 (wrap64 (x4_1 + 1)) a0_0 a0_1 l0_2) = some r := by first | (rw [hy465]; with_reducible exact H) | (have H2_ := (Option.bind_some _ _).symm.trans H; rw [hy465]; with_reducible exact H2_) | (have H2_ := (Option.bind_some _ _).symm.trans H; with_reducible exact H2_) | with_reducible exact H | (rw [hy465]; exact H) | exact H
        have Ny465 := Aside0.mk hy465
        clear hy465
        have H' := Aside0.mk H
        clear H
        have hcz18_0 : wr.cell? ⟨gb444, 0, none⟩ = some (.int .i64 a0_0) := (blk_cell BK444.out 0).trans rfl
        have hcz18_1 : wr.cell? ⟨gb444, 1, none⟩ = some (.int .i64 a0_1) := (blk_cell BK444.out 1).trans rfl
        have hcz18_2 : wr.cell? ⟨gb444, 2, none⟩ = some (.slice A0_2 l0_2.length c0_2) := (blk_cell BK444.out 2).trans rfl
        have hfz18_0 := blk_frozen BK444.out 0
        have hfz18_1 := blk_frozen BK444.out 1
        have hfz18_2 := blk_frozen BK444.out 2
        have p454 : 0 ≤ (x4_1 : Int) := of_decide_eq_true pS
        have q454 : x4_1 < (l0_2.length : Int) := of_decide_eq_true pS
        obtain ⟨ad454, A454_1, c454_1, e454, hx454_0, hx454_1, hl454_1, hi454_1⟩ := at_T135 HR0_2.out x4_1 p454 q454
        cases e454
        replace hx454_0 := (HB.out.cell (World.block_lt_of_cell? w _ hx454_0)).trans hx454_0
        replace hx454_1 := (HB.out.cell (World.block_lt_of_cell? w _ hx454_1)).trans hx454_1
        have HR454_1 := Aside0.mk hi454_1
        have HC454_1 := Aside0.mk hl454_1
        clear hi454_1 hl454_1
        replace p454 := eq_true p454
        replace q454 := eq_true q454
        try go_wp2_with (first | ((with_reducible refine gate_dst (N := 5) rfl ?_); refine box_event ?hg (N := 5) ?hd (cs := #[.string (⟨#[]⟩ : ByteArray), .slice none 0 0]) (t := 135) ?hr ?_; (case hd => rfl); (case hg => rfl); (case hr => first | (go_simp; done) | (go_simp; rfl)); intro gb455 hg w19 hbox hb; have n0_ := Aside0.mk (Kd.N_below (Kd.N_elderB (pN HO_3.out) gb455 (Nat.le_of_eq hg.symm)) hb); have n1_ := Aside0.mk (blk_below (g := gb444) (o := .cells #[.int .i64 a0_0, .int .i64 a0_1, .slice (some ad454) l0_2.length c0_2] 29 (0, 0)) (pK BK444.out) hb); have n2_ := Aside0.mk (below_step (pE HB.out GE444.out) hb); have n3_ := Aside0.mk (hbox); have n4_ := Aside0.mk ((by rw [hg]; exact (below_size (pE HB.out GE444.out)) : w.heap.size ≤ gb455)); have n5_ := Aside0.mk ((by rw [hg]; exact (below_size (pE HB.out GE444.out)) : w.heap.size ≤ gb455)); have n6_ := Aside0.mk ((by rw [hg]; exact Nat.ne_of_lt (blk_lt (g := gb444) (o := .cells #[.int .i64 a0_0, .int .i64 a0_1, .slice (some ad454) l0_2.length c0_2] 29 (0, 0)) (pK BK444.out)) : gb444 ≠ gb455)); have n7_ := Aside0.mk ((by rw [hg]; exact Nat.ne_of_gt (blk_lt (g := gb444) (o := .cells #[.int .i64 a0_0, .int .i64 a0_1, .slice (some ad454) l0_2.length c0_2] 29 (0, 0)) (pK BK444.out)) : gb455 ≠ gb444)); clear HO_3 BK444 HB; have HO_3 := n0_; have BK444 := n1_; have HB := n2_; have BK455 := n3_; have GW455 := n4_; have GE455 := n5_; have NB444_455 := n6_; have NB455_444 := n7_; clear n0_ n1_ n2_ n3_ n4_ n5_ n6_ n7_ hb hbox hg; have hnb20 := NB455_444.out; have hnc20 := NB444_455.out; have hcz21_0 : w19.cell? ⟨gb455, 0, none⟩ = some (.string (⟨#[]⟩ : ByteArray)) := (blk_cell BK455.out 0).trans rfl; have hcz21_1 : w19.cell? ⟨gb455, 1, none⟩ = some (.slice none 0 0) := (blk_cell BK455.out 1).trans rfl; have hfz21_0 := blk_frozen BK455.out 0; have hfz21_1 := blk_frozen BK455.out 1))
        have n0_ : Aside0 (Kd.N k83 83 ((w19.setCell ⟨gb455, 0, none⟩ (.string ((rd_T135 l0_2 x4_1).f0))).setCell ⟨gb455, 1, none⟩ (.slice A454_1 ((rd_T135 l0_2 x4_1).f1).length c454_1)) w.heap.size (fun k_ => k_ ≠ gb444 ∧ k_ ≠ gb455) u3 x3_1) := ⟨by (with_reducible repeat (first | apply Kd.N_alloc | apply Kd.N_drewN | apply Kd.N_drew)); exact Kd.N_mono (Kd.N_far (p := ⟨gb455, 1, none⟩) (Kd.N_far (p := ⟨gb455, 0, none⟩) (Kd.N_mono HO_3.out (fun k_ hk => (⟨hk, hk.2⟩ : _ ∧ k_ ≠ gb455))) (fun _ hk => hk.2) (.string ((rd_T135 l0_2 x4_1).f0))) (fun _ hk => hk.2) (.slice A454_1 ((rd_T135 l0_2 x4_1).f1).length c454_1)) (fun _ hk => ⟨hk.1.1, hk.1.2⟩)⟩
        have n1_ : Aside0 (((w19.setCell ⟨gb455, 0, none⟩ (.string ((rd_T135 l0_2 x4_1).f0))).setCell ⟨gb455, 1, none⟩ (.slice A454_1 ((rd_T135 l0_2 x4_1).f1).length c454_1)).heap[gb444]? = some (.cells #[.int .i64 a0_0, .int .i64 a0_1, .slice (some ad454) l0_2.length c0_2] 29 (0, 0))) := ⟨by (with_reducible repeat (first | refine blk_drewN ?_ _ | refine blk_drew ?_ | refine blk_alloc ?_ _)); refine blk_far ?_ NB444_455.out _; (with_reducible repeat (first | refine blk_drewN ?_ _ | refine blk_drew ?_ | refine blk_alloc ?_ _)); refine blk_far ?_ NB444_455.out _; (with_reducible repeat (first | refine blk_drewN ?_ _ | refine blk_drew ?_ | refine blk_alloc ?_ _)); exact BK444.out⟩
        have n2_ : Aside0 (((w19.setCell ⟨gb455, 0, none⟩ (.string ((rd_T135 l0_2 x4_1).f0))).setCell ⟨gb455, 1, none⟩ (.slice A454_1 ((rd_T135 l0_2 x4_1).f1).length c454_1)).heap[gb455]? = some (.cells #[.string ((rd_T135 l0_2 x4_1).f0), .slice A454_1 ((rd_T135 l0_2 x4_1).f1).length c454_1] 135 (0, 0))) := ⟨by (with_reducible repeat (first | refine blk_drewN ?_ _ | refine blk_drew ?_ | refine blk_alloc ?_ _)); refine blk_put (cs := #[.string ((rd_T135 l0_2 x4_1).f0), .slice none 0 0]) ?_ 1 _ rfl; (with_reducible repeat (first | refine blk_drewN ?_ _ | refine blk_drew ?_ | refine blk_alloc ?_ _)); refine blk_put (cs := #[.string (⟨#[]⟩ : ByteArray), .slice none 0 0]) ?_ 0 _ rfl; (with_reducible repeat (first | refine blk_drewN ?_ _ | refine blk_drew ?_ | refine blk_alloc ?_ _)); exact BK455.out⟩
        have n3_ : Aside0 (Below w.heap.size w ((w19.setCell ⟨gb455, 0, none⟩ (.string ((rd_T135 l0_2 x4_1).f0))).setCell ⟨gb455, 1, none⟩ (.slice A454_1 ((rd_T135 l0_2 x4_1).f1).length c454_1))) := ⟨by repeat (first | (with_reducible first | exact HB.out | apply below_alloc | apply pw_below_drewN | apply below_drew1 | refine below_set ?_ GE444.out | refine below_set ?_ GE455.out) | exact HB.out)⟩
        (try clear HO_3)
        (try clear BK444)
        (try clear BK455)
        (try clear HB)
        generalize ((w19.setCell ⟨gb455, 0, none⟩ (.string ((rd_T135 l0_2 x4_1).f0))).setCell ⟨gb455, 1, none⟩ (.slice A454_1 ((rd_T135 l0_2 x4_1).f1).length c454_1)) = w22 at n0_ n1_ n2_ n3_ ⊢
        have HO_3 := n0_
        have BK444 := n1_
        have BK455 := n2_
        have HB := n3_
        clear n0_ n1_ n2_ n3_
        have n0_ := Aside0.mk (Kd.N_drew HO_3.out)
        have n1_ := Aside0.mk (blk_drew BK444.out)
        have n2_ := Aside0.mk (blk_drew BK455.out)
        have n3_ := Aside0.mk (below_drew1 HB.out)
        clear HO_3
        clear BK444
        clear BK455
        clear HB
        have HO_3 := n0_
        have BK444 := n1_
        have BK455 := n2_
        have HB := n3_
        clear n0_ n1_ n2_ n3_
        refine start_ (n := 12) (S := fun w' => w'.cell? ⟨gb455, 0, none⟩ = some (.string ((rd_T135 l0_2 x4_1).f0)) ∧ w'.cell? ⟨gb455, 1, none⟩ = some (.slice A454_1 ((rd_T135 l0_2 x4_1).f1).length c454_1)) (ds := []) #[false, false, false, false, false, false, false, false, false, false, false, false] (by kernel_rfl) rfl rfl ⟨(blk_cell BK455.out 0).trans rfl, (blk_cell BK455.out 1).trans rfl⟩ (fun hHeld => ?_); refine with_tabW garnerref27_Put.tab6 garnerref27_Put.bits6 (fun HT_ HW_ => ?_)
        generalize w22.drew = w23 at HO_3 BK444 BK455 HB hHeld ⊢
        refine pure_ (i := 0) (N := some 34) (v := ?_) (a' := ?_) #[true, false, false, false, false, false, false, false, false, false, false, false] rfl rfl (any_of HT_.out (by kernel_rfl)) (fun _ _ _ h => h) (Or.inl ⟨by rfl, ?_⟩) ?_ ?_
        rotate_left
        ·intro w'
         go_simp
         with_reducible rfl
        rotate_left
        ·simp only [Act.put, List.setIfInBounds_toArray, List.set_cons_zero, List.set_cons_succ, i64_w, i32_w]
         rfl
        refine pure_ (i := 5) (N := some 39) (v := ?_) (a' := ?_) #[true, false, false, false, false, true, false, false, false, false, false, false] rfl rfl (any_of HT_.out (by kernel_rfl)) (fun _ _ _ h => h) (Or.inl ⟨by rfl, ?_⟩) ?_ ?_
        rotate_left
        ·intro w'
         go_simp
         with_reducible rfl
        rotate_left
        ·simp only [Act.put, List.setIfInBounds_toArray, List.set_cons_zero, List.set_cons_succ, i64_w, i32_w]
         rfl
        refine pure_ (i := 8) (N := some 42) (v := ?_) (a' := ?_) #[true, false, false, false, false, true, false, false, true, false, false, false] rfl rfl (any_of HT_.out (by kernel_rfl)) (fun _ _ _ h => h) (Or.inl ⟨by rfl, ?_⟩) ?_ ?_
        rotate_left
        ·intro w'
         go_simp
         with_reducible rfl
        rotate_left
        ·simp only [Act.put, List.setIfInBounds_toArray, List.set_cons_zero, List.set_cons_succ, i64_w, i32_w]
         rfl
        refine take_ (i := 1) (N := some 35) (v := ?_) (a' := ?_) #[true, true, false, false, false, true, false, false, true, false, false, false] rfl rfl (take_ofW HT_.out HW_.out (by kernel_rfl)) (fun _ _ _ h => h) (Or.inl ⟨by rfl, ?_⟩) hHeld ?_ ?_
        rotate_left
        ·rintro w' ⟨s0, s1⟩
         go_simp
         with_reducible rfl
        rotate_left
        ·simp only [Act.put, List.setIfInBounds_toArray, List.set_cons_zero, List.set_cons_succ, i64_w, i32_w]
         rfl
        refine pure_ (i := 2) (N := some 36) (v := ?_) (a' := ?_) #[true, true, true, false, false, true, false, false, true, false, false, false] rfl rfl (any_of HT_.out (by kernel_rfl)) (fun _ _ _ h => h) (Or.inl ⟨by rfl, ?_⟩) ?_ ?_
        rotate_left
        ·intro w'
         go_simp
         with_reducible rfl
        rotate_left
        ·simp only [Act.put, List.setIfInBounds_toArray, List.set_cons_zero, List.set_cons_succ, i64_w, i32_w]
         rfl
        refine pure_ (i := 3) (N := some 37) (v := ?_) (a' := ?_) #[true, true, true, true, false, true, false, false, true, false, false, false] rfl rfl (any_of HT_.out (by kernel_rfl)) (fun _ _ _ h => h) (Or.inl ⟨by rfl, ?_⟩) ?_ ?_
        rotate_left
        ·intro w'
         go_simp
         with_reducible rfl
        rotate_left
        ·simp only [Act.put, List.setIfInBounds_toArray, List.set_cons_zero, List.set_cons_succ, i64_w, i32_w]
         rfl
        refine take_ (i := 6) (N := some 40) (v := ?_) (a' := ?_) #[true, true, true, true, false, true, true, false, true, false, false, false] rfl rfl (take_ofW HT_.out HW_.out (by kernel_rfl)) (fun _ _ _ h => h) (Or.inl ⟨by rfl, ?_⟩) hHeld ?_ ?_
        rotate_left
        ·rintro w' ⟨s0, s1⟩
         go_simp
         with_reducible rfl
        rotate_left
        ·simp only [Act.put, List.setIfInBounds_toArray, List.set_cons_zero, List.set_cons_succ, i64_w, i32_w]
         rfl
        refine take_ (i := 9) (N := some 43) (v := ?_) (a' := ?_) #[true, true, true, true, false, true, true, false, true, true, false, false] rfl rfl (take_ofW HT_.out HW_.out (by kernel_rfl)) (fun _ _ _ h => h) (Or.inl ⟨by rfl, ?_⟩) hHeld ?_ ?_
        rotate_left
        ·rintro w' ⟨s0, s1⟩
         go_simp
         with_reducible rfl
        rotate_left
        ·simp only [Act.put, List.setIfInBounds_toArray, List.set_cons_zero, List.set_cons_succ, i64_w, i32_w]
         rfl
        refine one_ (i := 4) (N := some 38) #[true, true, true, true, true, true, true, false, true, true, false, false] rfl rfl (one_of HT_.out (by kernel_rfl)) (by decide) (fun K hK => ?_)
        refine goes_ Try.func82 (by kernel_rfl) rfl #[.int .u64 (IntKind.u64.wrap ((((rd_T135 l0_2 x4_1).f0).size : Int)))] (by rfl) rfl rfl pL ?_
        with_reducible refine (garnerref02_One.calls k1 (IntKind.u64.wrap ((((rd_T135 l0_2 x4_1).f0).size : Int))) t456 _ A14.out).mono ?_
        rintro e w24 ⟨v457, rfl, ho0, hb⟩
        refine ⟨_, rfl, ?_⟩
        have n0_ := Aside0.mk (Kd.N_elder' (pN HO_3.out) (Kd.R_base ho0) hb)
        have n1_ := Aside0.mk (Kd.R_lower ho0 (below_size (by repeat (first | (with_reducible first | exact HB.out | apply below_alloc | apply pw_below_drewN | apply below_drew1 | refine below_set ?_ GE444.out | refine below_set ?_ GE455.out) | exact HB.out))))
        have n2_ := Aside0.mk (blk_below (g := gb444) (o := .cells #[.int .i64 a0_0, .int .i64 a0_1, .slice (some ad454) l0_2.length c0_2] 29 (0, 0)) (pK BK444.out) hb)
        have n3_ := Aside0.mk (blk_below (g := gb455) (o := .cells #[.string ((rd_T135 l0_2 x4_1).f0), .slice A454_1 ((rd_T135 l0_2 x4_1).f1).length c454_1] 135 (0, 0)) (pK BK455.out) hb)
        have n4_ := Aside0.mk (below_step (by repeat (first | (with_reducible first | exact HB.out | apply below_alloc | apply pw_below_drewN | apply below_drew1 | refine below_set ?_ GE444.out | refine below_set ?_ GE455.out) | exact HB.out)) hb)
        clear HO_3
        clear BK444
        clear BK455
        clear HB
        have HO_3 := n0_
        have HO458 := n1_
        have BK444 := n2_
        have BK455 := n3_
        have HB := n4_
        clear n0_ n1_ n2_ n3_ n4_
        (try clear hb)
        (try clear hb2)
        (try clear hk)
        (try clear hi)
        (try clear ho0)
        refine hK.out _ _ ⟨(blk_cell BK455.out 0).trans rfl, (blk_cell BK455.out 1).trans rfl⟩ (fun hHeld => ?_)
        clear hK K
        refine norm_ (a' := ?_) ?_ ?_
        rotate_left
        ·show Act.put _ (some 38) _ = _
         simp only [Act.put, List.setIfInBounds_toArray, List.set_cons_zero, List.set_cons_succ, i64_w, i32_w]
         rfl
        refine one_ (i := 7) (N := some 41) #[true, true, true, true, true, true, true, true, true, true, false, false] rfl rfl (one_of HT_.out (by kernel_rfl)) (by decide) (fun K hK => ?_)
        refine R_append_str_step (w0 := w) w.heap.size (by rfl) (.tmp 38) _ 22 9 5 rfl Try.underlying22 Try.underlying9 info5 v457 t456 ((rd_T135 l0_2 x4_1).f0) (fun _ => True) rfl rfl ?aO ?aF ?aB ?aS ?aL ?_
        (case aB => exact (by repeat (first | (with_reducible first | exact HB.out | apply below_alloc | apply pw_below_drewN | apply below_drew1 | refine below_set ?_ GE444.out | refine below_set ?_ GE455.out) | exact HB.out)))
        (case aF => exact (fun _ _ => trivial))
        (case aO => exact (pR HO458.out))
        (case aS => exact (below_size (by repeat (first | (with_reducible first | exact HB.out | apply below_alloc | apply pw_below_drewN | apply below_drew1 | refine below_set ?_ GE444.out | refine below_set ?_ GE455.out) | exact HB.out))))
        (case aL => have := LMc15.out; omega)
        intro v460 w25 ho hb hg hat
        rw [← Ny459.out] at ho
        have n0_ := Aside0.mk (Kd.N_afterv (ok := (fun k_ => k_ ≠ gb444 ∧ k_ ≠ gb455)) (pN HO_3.out) hg hat)
        have n1_ := Aside0.mk (blk_grown (g := gb444) (o := .cells #[.int .i64 a0_0, .int .i64 a0_1, .slice (some ad454) l0_2.length c0_2] 29 (0, 0)) (pK BK444.out) hg (Kd.R_ne HO458.out BK444.out (by decide)))
        have n2_ := Aside0.mk (blk_grown (g := gb455) (o := .cells #[.string ((rd_T135 l0_2 x4_1).f0), .slice A454_1 ((rd_T135 l0_2 x4_1).f1).length c454_1] 135 (0, 0)) (pK BK455.out) hg (Kd.R_ne HO458.out BK455.out (by decide)))
        have n3_ := Aside0.mk (hb)
        have n4_ := Aside0.mk (ho)
        clear HO_3
        clear BK444
        clear BK455
        clear HB
        clear HO458
        have HO_3 := n0_
        have BK444 := n1_
        have BK455 := n2_
        have HB := n3_
        have HO461 := n4_
        clear n0_ n1_ n2_ n3_ n4_
        clear ho hb hg hat
        refine hK.out _ _ ⟨(blk_cell BK455.out 0).trans rfl, (blk_cell BK455.out 1).trans rfl⟩ (fun hHeld => ?_)
        clear hK K
        refine norm_ (a' := ?_) ?_ ?_
        rotate_left
        ·show Act.put _ (some 41) _ = _
         simp only [Act.put, List.setIfInBounds_toArray, List.set_cons_zero, List.set_cons_succ, i64_w, i32_w]
         rfl
        refine one_ (i := 10) (N := some 44) #[true, true, true, true, true, true, true, true, true, true, true, false] rfl rfl (one_of HT_.out (by kernel_rfl)) (by decide) (fun K hK => ?_)
        refine Kd.R_append_rows_step (Kd.int .u8) (w0 := w) w.heap.size (by rfl) (.tmp 41) (.tmp 43) 22 5 (.int .u8 0) 1 rfl Try.underlying22 info5 rfl (by decide) (by omega) v460 y459 ((rd_T135 l0_2 x4_1).f1) _ _ _ (fun _ => True) (fun _ => False) rfl rfl ?aO ?aR (fun _ _ h => h) (fun _ h => h.elim) ?aF ?aB ?aS ?aL ?_
        (case aR => exact pC (Kd.C_below HR454_1.out HB.out))
        (case aB => exact (by repeat (first | (with_reducible first | exact HB.out | apply below_alloc | apply pw_below_drewN | apply below_drew1 | refine below_set ?_ GE444.out | refine below_set ?_ GE455.out) | exact HB.out)))
        (case aF => exact (fun _ _ => trivial))
        (case aO => exact (pR HO461.out))
        (case aS => exact (below_size (by repeat (first | (with_reducible first | exact HB.out | apply below_alloc | apply pw_below_drewN | apply below_drew1 | refine below_set ?_ GE444.out | refine below_set ?_ GE455.out) | exact HB.out))))
        (case aL => have := LMc16.out; omega)
        intro v463 w26 ho hb hg hat
        rw [← Ny462.out] at ho
        have n0_ := Aside0.mk (Kd.N_afterv (ok := (fun k_ => k_ ≠ gb444 ∧ k_ ≠ gb455)) (pN HO_3.out) hg hat)
        have n1_ := Aside0.mk (blk_grown (g := gb444) (o := .cells #[.int .i64 a0_0, .int .i64 a0_1, .slice (some ad454) l0_2.length c0_2] 29 (0, 0)) (pK BK444.out) hg (Kd.R_ne HO461.out BK444.out (by decide)))
        have n2_ := Aside0.mk (blk_grown (g := gb455) (o := .cells #[.string ((rd_T135 l0_2 x4_1).f0), .slice A454_1 ((rd_T135 l0_2 x4_1).f1).length c454_1] 135 (0, 0)) (pK BK455.out) hg (Kd.R_ne HO461.out BK455.out (by decide)))
        have n3_ := Aside0.mk (hb)
        have n4_ := Aside0.mk (ho)
        clear HO_3
        clear BK444
        clear BK455
        clear HB
        clear HO461
        have HO_3 := n0_
        have BK444 := n1_
        have BK455 := n2_
        have HB := n3_
        have HO464 := n4_
        clear n0_ n1_ n2_ n3_ n4_
        clear ho hb hg hat
        refine hK.out _ _ ⟨(blk_cell BK455.out 0).trans rfl, (blk_cell BK455.out 1).trans rfl⟩ (fun hHeld => ?_)
        clear hK K
        refine norm_ (a' := ?_) ?_ ?_
        rotate_left
        ·show Act.put _ (some 44) _ = _
         simp only [Act.put, List.setIfInBounds_toArray, List.set_cons_zero, List.set_cons_succ, i64_w, i32_w]
         rfl
        refine pure_ (i := 11) (N := some 6) (v := ?_) (a' := ?_) #[true, true, true, true, true, true, true, true, true, true, true, true] rfl rfl (any_of HT_.out (by kernel_rfl)) (fun _ _ _ h => h) (Or.inl ⟨by rfl, ?_⟩) ?_ ?_
        rotate_left
        ·intro w'
         go_simp
         with_reducible rfl
        rotate_left
        ·simp only [Act.put, List.setIfInBounds_toArray, List.set_cons_zero, List.set_cons_succ, i64_w, i32_w]
         rfl
        refine done_ (done_of HT_.out (by kernel_rfl)) ?_
        obtain ⟨Ao27, co27, eo27⟩ := Kd.R_slice HO464.out
        subst eo27
        try go_wp2_with (first | ((with_reducible refine gate_builtin (b := .append) (xs := #[.tmp 45, .tmp 48]) rfl ?_); at_builtin; refine Kd.N_append k83 (w0 := w) w.heap.size rfl (.tmp 45) (.tmp 48) 92 83 (.agg #[(.int .i64 0), (.slice none 0 0)]) 32 rfl Try.underlying92 info83 rfl (by decide) (by omega) u3 x3_1 (⟨22, y462⟩ : S83) [.int .i64 22, .slice Ao27 y462.length co27] (fun k_ => k_ ≠ gb444 ∧ k_ ≠ gb455) (fun k_ => ((fun k_ => k_ ≠ gb444 ∧ k_ ≠ gb455)) k_ ∧ some k_ ≠ (u3 : Value).ownBlock) rfl rfl ?aP (fun _ hk => hk) ?aF ?aO ?aB ?aS ?aL ?_; (case aP => exact (k83_mkF _ _ (⟨22, y462⟩ : S83) (Kd.R_reads' (Kd.R_mono (ok' := (fun k_ => ((fun k_ => k_ ≠ gb444 ∧ k_ ≠ gb455)) k_ ∧ some k_ ≠ (u3 : Value).ownBlock)) (Kd.R_types (Kd.R_types (Kd.R_apart' (HO464.out) (Kd.N_typed HO_3.out) (by decide)) BK444.out (by decide)) BK455.out (by decide)) (fun k_ hk => ⟨⟨hk.1.2, hk.2⟩, hk.1.1.2⟩))).2.1 (Kd.R_F (Kd.R_mono (ok' := (fun k_ => ((fun k_ => k_ ≠ gb444 ∧ k_ ≠ gb455)) k_ ∧ some k_ ≠ (u3 : Value).ownBlock)) (Kd.R_types (Kd.R_types (Kd.R_apart' (HO464.out) (Kd.N_typed HO_3.out) (by decide)) BK444.out (by decide)) BK455.out (by decide)) (fun k_ hk => ⟨⟨hk.1.2, hk.2⟩, hk.1.1.2⟩))))); (case aB => exact (by repeat (first | (with_reducible first | exact HB.out | apply below_alloc | apply pw_below_drewN | apply below_drew1 | refine below_set ?_ GE444.out | refine below_set ?_ GE455.out) | exact HB.out))); (case aF => exact (fun k_ hk => ⟨Kd.freshB (g := gb444) (o := .cells #[.int .i64 a0_0, .int .i64 a0_1, .slice (some ad454) l0_2.length c0_2] 29 (0, 0)) (pK BK444.out) k_ hk, Kd.freshB (g := gb455) (o := .cells #[.string ((rd_T135 l0_2 x4_1).f0), .slice A454_1 ((rd_T135 l0_2 x4_1).f1).length c454_1] 135 (0, 0)) (pK BK455.out) k_ hk⟩)); (case aO => exact (by (with_reducible repeat (first | apply Kd.N_alloc | apply Kd.N_drewN | apply Kd.N_drew)); exact Kd.N_mono HO_3.out (fun _ hk => ⟨hk.1.1, hk.1.2⟩))); (case aS => exact (below_size (by repeat (first | (with_reducible first | exact HB.out | apply below_alloc | apply pw_below_drewN | apply below_drew1 | refine below_set ?_ GE444.out | refine below_set ?_ GE455.out) | exact HB.out)))); (case aL => have := LMc17.out; omega); intro v466 w28 ho hb hg hat; rw [← Ny465.out] at ho; have n0_ := Aside0.mk (blk_grown (g := gb444) (o := .cells #[.int .i64 a0_0, .int .i64 a0_1, .slice (some ad454) l0_2.length c0_2] 29 (0, 0)) (pK BK444.out) hg (Kd.N_ne HO_3.out BK444.out (by decide))); have n1_ := Aside0.mk (blk_grown (g := gb455) (o := .cells #[.string ((rd_T135 l0_2 x4_1).f0), .slice A454_1 ((rd_T135 l0_2 x4_1).f1).length c454_1] 135 (0, 0)) (pK BK455.out) hg (Kd.N_ne HO_3.out BK455.out (by decide))); have n2_ := Aside0.mk (hb); have n3_ := Aside0.mk (ho); clear BK444 BK455 HB HO_3 HO464; have BK444 := n0_; have BK455 := n1_; have HB := n2_; have HO467 := n3_; clear n0_ n1_ n2_ n3_ ho hb hg hat))
        go_roundg k1
        case measure => have := HK1.out; omega
        case rel => exact ⟨(y465), (wrap64 (x4_1 + 1)), (by first | rfl | (simp; done) | (simp [*]; done)), H', ⟨by have := HK1.out; omega⟩, ⟨by (with_reducible repeat (first | apply Kd.N_alloc | apply Kd.N_drewN | apply Kd.N_drew)); exact Kd.N_mono HO467.out (fun _ hk => hk.1)⟩, ⟨by (with_reducible repeat (first | refine blk_drewN ?_ _ | refine blk_drew ?_ | refine blk_alloc ?_ _)); exact BK444.out⟩, ⟨by repeat (first | (with_reducible first | exact HB.out | apply below_alloc | apply pw_below_drewN | apply below_drew1 | refine below_set ?_ GE444.out | refine below_set ?_ GE455.out) | exact HB.out)⟩⟩
       ·rw [if_neg c17] at H
        exact absurd H (by simp)
      ·rw [if_neg c16] at H
       exact absurd H (by simp)
     ·rw [if_neg c15] at H
      exact absurd H (by simp)
    ·rw [if_neg c13] at H
     exact absurd H (by simp)
   ·rw [if_neg c12] at H
    have c12b0 : decide (x4_1 < (l0_2.length : Int)) = false := decide_eq_false c12
    clear c12
    replace H := Option.bind_eq_some_iff.mp H
    obtain ⟨t468, A290, H⟩ := H
    replace H : ((garnerref01_Of.f k1 t468).bind fun t471 => ((garnerref04_Sum.f k1 t471).bind fun t472 => ((garnerref03_Put.f k1 23 t472).bind fun t475 => (if t468.length + t475.length < 140737488355328 then (some (t468 ++ t475)) else (none))))) = some r := H
    have A29 := Aside0.mk A290
    clear A290
    replace H := Option.bind_eq_some_iff.mp H
    obtain ⟨t471, A300, H⟩ := H
    replace H : ((garnerref04_Sum.f k1 t471).bind fun t472 => ((garnerref03_Put.f k1 23 t472).bind fun t475 => (if t468.length + t475.length < 140737488355328 then (some (t468 ++ t475)) else (none)))) = some r := H
    have A30 := Aside0.mk A300
    clear A300
    replace H := Option.bind_eq_some_iff.mp H
    obtain ⟨t472, A310, H⟩ := H
    replace H : ((garnerref03_Put.f k1 23 t472).bind fun t475 => (if t468.length + t475.length < 140737488355328 then (some (t468 ++ t475)) else (none))) = some r := H
    have A31 := Aside0.mk A310
    clear A310
    replace H := Option.bind_eq_some_iff.mp H
    obtain ⟨t475, A320, H⟩ := H
    replace H : (if t468.length + t475.length < 140737488355328 then (some (t468 ++ t475)) else (none)) = some r := H
    have A32 := Aside0.mk A320
    clear A320
    by_cases c33 : t468.length + t475.length < 140737488355328
    ·rw [if_pos c33] at H
     have LMc33 := Aside0.mk c33
     clear c33
     obtain ⟨y478, hy478⟩ : ∃ y_ : List Int, y_ = (t468 ++ t475) := ⟨_, rfl⟩
     replace H : (some y478) = some r := by first | (rw [hy478]; with_reducible exact H) | (have H2_ := (Option.bind_some _ _).symm.trans H; rw [hy478]; with_reducible exact H2_) | (have H2_ := (Option.bind_some _ _).symm.trans H; with_reducible exact H2_) | with_reducible exact H | (rw [hy478]; exact H) | exact H
     have Ny478 := Aside0.mk hy478
     clear hy478
     obtain rfl := Option.some.inj H
     have hcz34_0 : wr.cell? ⟨gb444, 0, none⟩ = some (.int .i64 a0_0) := (blk_cell BK444.out 0).trans rfl
     have hcz34_1 : wr.cell? ⟨gb444, 1, none⟩ = some (.int .i64 a0_1) := (blk_cell BK444.out 1).trans rfl
     have hcz34_2 : wr.cell? ⟨gb444, 2, none⟩ = some (.slice A0_2 l0_2.length c0_2) := (blk_cell BK444.out 2).trans rfl
     have hfz34_0 := blk_frozen BK444.out 0
     have hfz34_1 := blk_frozen BK444.out 1
     have hfz34_2 := blk_frozen BK444.out 2
     obtain ⟨Ao35, co35, eo35⟩ := Kd.N_slice HO_3.out
     subst eo35
     go_wp2_with (first | ((with_reducible refine gate_callee (f := 83) rfl ?_); refine goesL_ (some 51) rfl rfl Try.func83 (by kernel_rfl) rfl #[.slice Ao35 x3_1.length co35] rfl pL ?_; (with_reducible refine (garnerref03_All.calls k1 _ _ x3_1 t468 _ ?side1 ?side2 A29.out).mono ?_); (case side1 => exact pC (Kd.N_reads' HO_3.out).2.2); (case side2 => exact (Kd.N_reads' HO_3.out).2.1); rintro e w36 ⟨v469, rfl, ho0, hb⟩; refine ⟨_, rfl, ?_⟩; have n0_ := Aside0.mk (Kd.N_elder' (pN HO_3.out) (Kd.R_base ho0) hb); have n1_ := Aside0.mk (Kd.R_lower ho0 (below_size (pE HB.out GE444.out))); have n2_ := Aside0.mk (blk_below (g := gb444) (o := .cells #[.int .i64 a0_0, .int .i64 a0_1, .slice A0_2 l0_2.length c0_2] 29 (0, 0)) (pK BK444.out) hb); have n3_ := Aside0.mk (below_step (pE HB.out GE444.out) hb); clear HO_3 BK444 HB; have HO_3 := n0_; have HO470 := n1_; have BK444 := n2_; have HB := n3_; clear n0_ n1_ n2_ n3_; (try clear hb); (try clear hb2); (try clear hk); (try clear hi); (try clear ho0); obtain ⟨Ao37, co37, eo37⟩ := Kd.R_slice HO470.out; subst eo37) | ((with_reducible refine gate_callee (f := 86) rfl ?_); refine goesL_ (some 54) rfl rfl Try.func86 (by kernel_rfl) rfl #[.slice Ao37 t468.length co37] rfl pL ?_; (with_reducible refine (garnerref01_Of.calls k1 _ _ t468 t471 _ ?side1 ?side2 A30.out).mono ?_); (case side1 => exact pC (Kd.R_reads' HO470.out).2.2); (case side2 => exact (Kd.R_reads' HO470.out).2.1); rintro e w' ⟨rfl, ⟨nd, rfl⟩⟩; refine ⟨_, rfl, ?_⟩) | ((with_reducible refine gate_callee (f := 85) rfl ?_); refine goesL_ (some 55) rfl rfl Try.func85 (by kernel_rfl) rfl #[.int .u32 t471] rfl pL ?_; (with_reducible refine (garnerref04_Sum.calls k1 t471 t472 _ A31.out).mono ?_); rintro e w38 ⟨v473, rfl, ho0, hb⟩; refine ⟨_, rfl, ?_⟩; have n0_ := Aside0.mk (Kd.N_elder' (pN HO_3.out) (Kd.R_base ho0) hb); have n1_ := Aside0.mk (Kd.R_elder' (pR HO470.out) (Kd.R_base ho0) hb); have n2_ := Aside0.mk (Kd.R_lower (Kd.R_new' ho0 (Kd.R_lt (pR HO470.out))) (below_size (pE HB.out GE444.out))); have n3_ := Aside0.mk (blk_below (g := gb444) (o := .cells #[.int .i64 a0_0, .int .i64 a0_1, .slice A0_2 l0_2.length c0_2] 29 (0, 0)) (pK BK444.out) hb); have n4_ := Aside0.mk (below_step (pE HB.out GE444.out) hb); clear HO_3 HO470 BK444 HB; have HO_3 := n0_; have HO470 := n1_; have HO474 := n2_; have BK444 := n3_; have HB := n4_; clear n0_ n1_ n2_ n3_ n4_; (try clear hb); (try clear hb2); (try clear hk); (try clear hi); (try clear ho0); obtain ⟨Ao39, co39, eo39⟩ := Kd.R_slice HO474.out; subst eo39) | ((with_reducible refine gate_callee (f := 84) rfl ?_); refine goesL_ (some 57) rfl rfl Try.func84 (by kernel_rfl) rfl #[.agg #[.int .i64 23, .slice Ao39 t472.length co39]] rfl pL ?_; (with_reducible refine (garnerref03_Put.calls k1 23 _ _ t472 t475 _ ?side1 ?side2 A32.out).mono ?_); (case side1 => exact pC (Kd.R_reads' HO474.out).2.2); (case side2 => exact (Kd.R_reads' HO474.out).2.1); rintro e w40 ⟨v476, rfl, ho0, hb⟩; refine ⟨_, rfl, ?_⟩; have n0_ := Aside0.mk (Kd.N_elder' (pN HO_3.out) (Kd.R_base ho0) hb); have n1_ := Aside0.mk (Kd.R_elder' (pR HO470.out) (Kd.R_base ho0) hb); have n2_ := Aside0.mk (Kd.R_elder' (pR HO474.out) (Kd.R_base ho0) hb); have n3_ := Aside0.mk (Kd.R_lower (Kd.R_new' (Kd.R_new' ho0 (Kd.R_lt (pR HO470.out))) (Kd.R_lt (pR HO474.out))) (below_size (pE HB.out GE444.out))); have n4_ := Aside0.mk (blk_below (g := gb444) (o := .cells #[.int .i64 a0_0, .int .i64 a0_1, .slice A0_2 l0_2.length c0_2] 29 (0, 0)) (pK BK444.out) hb); have n5_ := Aside0.mk (below_step (pE HB.out GE444.out) hb); clear HO_3 HO470 HO474 BK444 HB; have HO_3 := n0_; have HO470 := n1_; have HO474 := n2_; have HO477 := n3_; have BK444 := n4_; have HB := n5_; clear n0_ n1_ n2_ n3_ n4_ n5_; (try clear hb); (try clear hb2); (try clear hk); (try clear hi); (try clear ho0); obtain ⟨Ao42, co42, eo42⟩ := Kd.R_slice HO477.out; subst eo42) | ((with_reducible refine gate_builtin (b := .append) (xs := #[.tmp 52, .tmp 57]) rfl ?_); at_builtin; refine Kd.R_append_rows (Kd.int .u8) (w0 := w) w.heap.size rfl (.tmp 52) (.tmp 57) 22 5 (.int .u8 0) 1 rfl Try.underlying22 info5 rfl (by decide) (by omega) (.slice Ao37 t468.length co37) t468 t475 _ _ _ (fun k_ => some k_ ≠ (.slice Ao39 t472.length co39 : Value).ownBlock ∧ some k_ ≠ (.slice Ao42 t475.length co42 : Value).ownBlock) (fun _ => False) rfl rfl ?aO ?aR (fun _ _ h => h) (fun _ h => h.elim) ?aF ?aB ?aS ?aL ?_; (case aR => exact pC (Kd.R_reads' HO477.out).2.2); (case aB => exact (pE HB.out GE444.out)); (case aF => exact (fun k_ hk => ⟨Kd.fresh' (Kd.R_lt (pR HO474.out)) k_ hk, Kd.fresh' (Kd.R_lt (pR HO477.out)) k_ hk⟩)); (case aO => exact (by (with_reducible repeat (first | apply Kd.R_alloc | apply Kd.R_drewN | apply Kd.R_drew)); exact Kd.R_mono HO470.out (fun _ hk => ⟨hk.1.2, hk.2⟩))); (case aS => exact (below_size (pE HB.out GE444.out))); (case aL => have := LMc33.out; omega); intro v479 w41 ho hb hg hat; rw [← Ny478.out] at ho; have n0_ := Aside0.mk (Kd.N_afterv (ok := (fun k_ => some k_ ≠ (.slice Ao39 t472.length co39 : Value).ownBlock ∧ some k_ ≠ (.slice Ao42 t475.length co42 : Value).ownBlock ∧ k_ ≠ gb444)) (by (with_reducible repeat (first | apply Kd.N_alloc | apply Kd.N_drewN | apply Kd.N_drew)); exact Kd.N_mono HO_3.out (fun _ hk => ⟨⟨hk.1.2, ⟨hk.2, hk.1.1.1⟩⟩, hk.1.1.2⟩)) hg hat); have n1_ := Aside0.mk (blk_grown (g := gb444) (o := .cells #[.int .i64 a0_0, .int .i64 a0_1, .slice A0_2 l0_2.length c0_2] 29 (0, 0)) (pK BK444.out) hg (Kd.R_ne HO470.out BK444.out (by decide))); have n2_ := Aside0.mk (Kd.R_after (ok := (fun k_ => some k_ ≠ (.slice Ao42 t475.length co42 : Value).ownBlock)) (by (with_reducible repeat (first | apply Kd.R_alloc | apply Kd.R_drewN | apply Kd.R_drew)); exact Kd.R_mono HO474.out (fun _ hk => ⟨hk.2, hk.1.2⟩)) hg hat); have n3_ := Aside0.mk (Kd.R_after (ok := (fun k_ => some k_ ≠ (.slice Ao39 t472.length co39 : Value).ownBlock)) (by (with_reducible repeat (first | apply Kd.R_alloc | apply Kd.R_drewN | apply Kd.R_drew)); exact Kd.R_mono HO477.out (fun _ hk => ⟨hk.2, hk.1.2⟩)) hg hat); have n4_ := Aside0.mk (hb); have n5_ := Aside0.mk (ho); clear HO_3 BK444 HO474 HO477 HB HO470; have HO_3 := n0_; have BK444 := n1_; have HO474 := n2_; have HO477 := n3_; have HB := n4_; have HO480 := n5_; clear n0_ n1_ n2_ n3_ n4_ n5_ ho hb hg hat))
     go_ret
     exact ⟨_, by first | rfl | (simp [errW_none, errW_some] <;> rfl) | (simp [*, errW_none, errW_some] <;> rfl), by (with_reducible repeat (first | apply Kd.R_alloc | apply Kd.R_drewN | apply Kd.R_drew)); exact Kd.R_mono HO480.out (fun _ hk => trivial), by repeat (first | (with_reducible first | exact HB.out | apply below_alloc | apply pw_below_drewN | apply below_drew1 | refine below_set ?_ GE444.out) | exact HB.out)⟩
    ·rw [if_neg c33] at H
     exact absurd H (by simp)
def garnerref02_All.l0 : Nat → List Int → Int → List Int → Int → Int → Option (List Int × Int × Int)
 | 0, _, _, _, _, _ => none
 | k + 1, x0, x1, x7, x8, x9 => if x9 < x1 then (if 0 ≤ x8 then (if x8 ≤ (x0.length : Int) then ((garnerref02_Get.f k (x0.drop (x8 : Int).toNat)).bind fun bt485 => (if bt485.2 = 0 then (some (([] : List Int), x8, 2)) else (if x7.length < 17592186044416 then (garnerref02_All.l0 k x0 x1 (x7 ++ [bt485.1]) (wrap64 (x8 + bt485.2)) (wrap64 (x9 + 1))) else (none)))) else (none)) else (none)) else (some (x7, x8, 0))
def garnerref02_All.f (k : Nat) (l0 : List Int) (a1 : Int) : Option (List Int × Int × Int) := garnerref02_All.l0 k l0 a1 (([] : List Int)) 0 0
theorem garnerref02_All.mono_l : ∀ k, (∀ y0 y1 y2 y3 y4, LeO (garnerref02_All.l0 k y0 y1 y2 y3 y4) (garnerref02_All.l0 (k + 1) y0 y1 y2 y3 y4))
 | 0 => fun _ _ _ _ _ r h => by simp [garnerref02_All.l0] at h
 | k + 1 => by
  have ih0 := garnerref02_All.mono_l k
  ·intro y0 y1 y2 y3 y4
   unfold garnerref02_All.l0
   repeat' first
   | (with_reducible exact ih0 _ _ _ _ _)
   | (with_reducible exact garnerref02_Get.mono _ _)
   | (with_reducible exact LeO.refl _)
   | (with_reducible exact LeO.none _)
   | (with_reducible refine LeO.ite ?_ ?_)
   | (with_reducible refine LeO.bind ?_ (fun _ => ?_))
   | exact ih0 _ _ _ _ _
   | exact garnerref02_Get.mono _ _
   | exact LeO.none _
   | refine LeO.ite ?_ ?_
   | refine LeO.bind ?_ (fun _ => ?_)
theorem garnerref02_All.mono : ∀ a0 a1 k, LeO (garnerref02_All.f k a0 a1) (garnerref02_All.f (k + 1) a0 a1) := by
 intro a0 a1 k
 have ih0 := garnerref02_All.mono_l k
 unfold garnerref02_All.f
 repeat' first
   | (with_reducible exact ih0 _ _ _ _ _)
   | (with_reducible exact garnerref02_Get.mono _ _)
   | (with_reducible exact LeO.refl _)
   | (with_reducible exact LeO.none _)
   | (with_reducible refine LeO.ite ?_ ?_)
   | (with_reducible refine LeO.bind ?_ (fun _ => ?_))
   | exact ih0 _ _ _ _ _
   | exact garnerref02_Get.mono _ _
   | exact LeO.none _
   | refine LeO.ite ?_ ?_
   | refine LeO.bind ?_ (fun _ => ?_)
set_option maxHeartbeats 8000000 in
set_option maxRecDepth 100000 in
theorem garnerref02_All.calls (k : Nat) (A0 : Option Addr) (c0 : Nat) (l0 : List Int) (a1 : Int) (r1 : List Int) (r2 : Int) (r3 : Int) (w : World) (hr0 : Kd.C (Kd.int .u8) w A0 l0.length l0) (hc0 : l0.length ≤ c0) (h : garnerref02_All.f k l0 a1 = some (r1, r2, r3)) :
  Calls Try.prog 71 #[.slice A0 l0.length c0, .int .i64 a1] w fun e w' => ∃ v0_ : Value, e = .returned (.tuple #[v0_, .int .i64 r2, .int .i64 r3]) ∧ Kd.R (Kd.int .u64) 133 w' w.heap.size (fun _ => True) v0_ r1 ∧ Below w.heap.size w w' := by
 have HR0 := Aside0.mk hr0
 have HC0 := Aside0.mk hc0
 clear hr0 hc0
 have HB := Aside0.mk (Below.refl w.heap.size w)
 have H : (garnerref02_All.l0 k l0 a1 (([] : List Int)) 0 0) = some (r1, r2, r3) := h
 clear h
 obtain ⟨y481, hy481⟩ : ∃ y_ : List Int, y_ = (([] : List Int)) := ⟨_, rfl⟩
 replace H : (garnerref02_All.l0 k l0 a1 y481 0 0) = some (r1, r2, r3) := by first | (rw [hy481]; with_reducible exact H) | (have H2_ := (Option.bind_some _ _).symm.trans H; rw [hy481]; with_reducible exact H2_) | (have H2_ := (Option.bind_some _ _).symm.trans H; with_reducible exact H2_) | with_reducible exact H | (rw [hy481]; exact H) | exact H
 have Ny481 := Aside0.mk hy481
 clear hy481
 have H' := Aside0.mk H
 clear H
 go_enter Try.func71, Try.ntmps71
 go_wp2_with (first | ((with_reducible refine gate_dst (N := 12) rfl ?_); refine Kd.R_lit (Kd.int .u64) _ 133 ?hg (N := 12) ?hd (xs := ([] : List Int)) (inner := []) (ok := fun _ => True) (okp := fun _ => True) ?hr ?hp (fun _ hk => hk) trivial (Below.refl _ _) (Nat.le_refl _) (by simp) ?_; (case hd => rfl); (case hg => rfl); (case hr => first | (go_simp; done) | (go_simp; rfl)); (case hp => exact (Reps.none _ _)); intro v482 w3 ho4 hb hg_ hnew_; clear hg_ hnew_; (first | rw [← Ny481.out] at ho4 | (simp only [Int.reduceToNat] at ho4; rw [← Ny481.out] at ho4)); have n0_ := Aside0.mk (Kd.R_lower ho4 (below_size (pB HB.out))); have n1_ := Aside0.mk (below_step (pB HB.out) hb); clear HB; have HO483 := n0_; have HB := n1_; clear n0_ n1_ hb ho4))
 go_loopg [7, 8, 9] k (fun kq v7 v8 v9 w' => ∃ (x7_1 : List Int) (x8_1 : Int) (x9_1 : Int), v8 = .int .i64 x8_1 ∧ v9 = .int .i64 x9_1 ∧ Aside0 (garnerref02_All.l0 kq l0 a1 x7_1 x8_1 x9_1 = some (r1, r2, r3)) ∧ Aside0 (kq ≤ k) ∧ Aside0 (Kd.R (Kd.int .u64) 133 w' w.heap.size (fun _ => True) v7 x7_1) ∧ Aside0 (Below w.heap.size w w'))
 case atStart => exact ⟨(y481), (0), (0), (by first | rfl | (simp; done) | (simp [*]; done)), (by first | rfl | (simp; done) | (simp [*]; done)), H', ⟨Nat.le_refl _⟩, ⟨by (with_reducible repeat (first | apply Kd.R_alloc | apply Kd.R_drewN | apply Kd.R_drew)); exact HO483.out⟩, ⟨by repeat (first | (with_reducible first | exact HB.out | apply below_alloc | apply pw_below_drewN | apply below_drew1) | exact HB.out)⟩⟩
 case round =>
  clear H'
  try clear p2
  obtain ⟨x7_1, x8_1, x9_1, rfl, rfl, HA, HK1, HO_7, HB⟩ := hrel
  cases gk with
  | zero => exact absurd HA.out (by simp [garnerref02_All.l0])
  | succ k1 =>
   have H := HA.out
   clear HA
   simp only [garnerref02_All.l0] at H
   by_cases c5 : x9_1 < a1
   ·rw [if_pos c5] at H
    have c5b0 : decide (x9_1 < a1) = true := decide_eq_true c5
    clear c5
    by_cases c6 : 0 ≤ x8_1
    ·rw [if_pos c6] at H
     have c6b0 := eq_true c6
     have c6b1 : decide (0 ≤ x8_1) = true := decide_eq_true c6
     clear c6
     by_cases c7 : x8_1 ≤ (l0.length : Int)
     ·rw [if_pos c7] at H
      have c7b0 := eq_true c7
      have c7b1 : decide (x8_1 ≤ (l0.length : Int)) = true := decide_eq_true c7
      clear c7
      replace H := Option.bind_eq_some_iff.mp H
      obtain ⟨⟨t485, t486⟩, A80, H⟩ := H
      replace H : (if t486 = 0 then (some (([] : List Int), x8_1, 2)) else (if x7_1.length < 17592186044416 then (garnerref02_All.l0 k1 l0 a1 (x7_1 ++ [t485]) (wrap64 (x8_1 + t486)) (wrap64 (x9_1 + 1))) else (none))) = some (r1, r2, r3) := H
      have A8 := Aside0.mk A80
      clear A80
      by_cases c9 : t486 = 0
      ·rw [if_pos c9] at H
       have c9b0 : (t486 == 0) = true := beq_iff_eq.mpr c9
       have c9b1 : (t486 != 0) = false := bne_eq_false_iff_eq.mpr c9
       clear c9
       simp only [Option.some.injEq, Prod.mk.injEq] at H
       obtain ⟨rfl, rfl, rfl⟩ := H
       obtain ⟨i010, hi010, _, hsz10, _⟩ := info_parts info5
       obtain ⟨A10, hcut10, hA10, hC10⟩ := print_drop_of (P := Try.prog) (Value.int .u8) 0 22 5 .i64 Try.underlying22 hi010 hsz10 A0 c0 l0 x8_1 (of_decide_eq_true pS) (of_decide_eq_true pS) HC0.out
       have HR484 := Aside0.mk (Kd.C_of_reads (h1 := fun _ => rfl) (hA10 _ (Kd.reads_of_C HR0.out)))
       have HC484 := Aside0.mk hC10
       clear hA10 hC10 hi010 hsz10
       go_wp2_with (first | ((with_reducible refine gate_callee (f := 72) rfl ?_); refine goesL_ (some 22) rfl rfl Try.func72 (by kernel_rfl) rfl #[.slice A10 (l0.drop (x8_1 : Int).toNat).length (c0 - x8_1.toNat)] rfl (by (try simp only [List.map_toArray, List.map_cons, List.map_nil]); first | done | (rw [show (l0.drop (x8_1 : Int).toNat).length = (l0.length - x8_1.toNat) from List.length_drop] <;> rfl) | rfl | (simp only [List.length_drop, List.length_take]; rfl)) ?_; (with_reducible refine (garnerref02_Get.calls k1 _ _ (l0.drop (x8_1 : Int).toNat) t485 t486 _ ?side1 ?side2 A8.out).mono ?_); (case side1 => exact pC (Kd.C_below HR484.out HB.out)); (case side2 => exact HC484.out); rintro e w11 ⟨rfl, hb⟩; refine ⟨_, rfl, ?_⟩; have n0_ := Aside0.mk (Kd.R_below (pR HO_7.out) hb); have n1_ := Aside0.mk (below_step (pB HB.out) hb); clear HO_7 HB; have HO_7 := n0_; have HB := n1_; clear n0_ n1_; (try clear hb); (try clear hb2); (try clear hk); (try clear hi)))
       go_ret3
       exact ⟨_, by first | rfl | (simp [errW_none, errW_some] <;> rfl) | (simp [*, errW_none, errW_some] <;> rfl), by first | exact Kd.R_nil _ _ _ _ _ | exact Kd.N_nil _ _ _ _ _ | exact Kd.V_nil _ _ _ _ _ | exact Kd.Q_nil _ _ _ _ _ | exact Kd.S_nil _ _ _ _ _, by repeat (first | (with_reducible first | exact HB.out | apply below_alloc | apply pw_below_drewN | apply below_drew1) | exact HB.out)⟩
      ·rw [if_neg c9] at H
       have c9b0 : (t486 == 0) = false := beq_eq_false_iff_ne.mpr c9
       have c9b1 : (t486 != 0) = true := bne_iff_ne.mpr c9
       by_cases c12 : x7_1.length < 17592186044416
       ·rw [if_pos c12] at H
        have LMc12 := Aside0.mk c12
        clear c12
        obtain ⟨y487, hy487⟩ : ∃ y_ : List Int, y_ = (x7_1 ++ [t485]) := ⟨_, rfl⟩
        replace H : (garnerref02_All.l0 k1 l0 a1 y487 (wrap64 (x8_1 + t486)) (wrap64 (x9_1 + 1))) = some (r1, r2, r3) := by first | (rw [hy487]; with_reducible exact H) | (have H2_ := (Option.bind_some _ _).symm.trans H; rw [hy487]; with_reducible exact H2_) | (have H2_ := (Option.bind_some _ _).symm.trans H; with_reducible exact H2_) | with_reducible exact H | (rw [hy487]; exact H) | exact H
        have Ny487 := Aside0.mk hy487
        clear hy487
        have H' := Aside0.mk H
        clear H
        obtain ⟨i013, hi013, _, hsz13, _⟩ := info_parts info5
        obtain ⟨A13, hcut13, hA13, hC13⟩ := print_drop_of (P := Try.prog) (Value.int .u8) 0 22 5 .i64 Try.underlying22 hi013 hsz13 A0 c0 l0 x8_1 (of_decide_eq_true pS) (of_decide_eq_true pS) HC0.out
        have HR484 := Aside0.mk (Kd.C_of_reads (h1 := fun _ => rfl) (hA13 _ (Kd.reads_of_C HR0.out)))
        have HC484 := Aside0.mk hC13
        clear hA13 hC13 hi013 hsz13
        go_wp2_with (first | ((with_reducible refine gate_callee (f := 72) rfl ?_); refine goesL_ (some 22) rfl rfl Try.func72 (by kernel_rfl) rfl #[.slice A13 (l0.drop (x8_1 : Int).toNat).length (c0 - x8_1.toNat)] rfl (by (try simp only [List.map_toArray, List.map_cons, List.map_nil]); first | done | (rw [show (l0.drop (x8_1 : Int).toNat).length = (l0.length - x8_1.toNat) from List.length_drop] <;> rfl) | rfl | (simp only [List.length_drop, List.length_take]; rfl)) ?_; (with_reducible refine (garnerref02_Get.calls k1 _ _ (l0.drop (x8_1 : Int).toNat) t485 t486 _ ?side1 ?side2 A8.out).mono ?_); (case side1 => exact pC (Kd.C_below HR484.out HB.out)); (case side2 => exact HC484.out); rintro e w14 ⟨rfl, hb⟩; refine ⟨_, rfl, ?_⟩; have n0_ := Aside0.mk (Kd.R_below (pR HO_7.out) hb); have n1_ := Aside0.mk (below_step (pB HB.out) hb); clear HO_7 HB; have HO_7 := n0_; have HB := n1_; clear n0_ n1_; (try clear hb); (try clear hb2); (try clear hk); (try clear hi)) | ((with_reducible refine gate_builtin (b := .append) (xs := #[.tmp 28, .tmp 30]) rfl ?_); at_builtin; refine Kd.R_append (Kd.int .u64) (w0 := w) w.heap.size rfl (.tmp 28) (.tmp 30) 130 133 (.int .u64 0) 8 rfl Try.underlying130 info133 rfl (by decide) (by omega) u7 x7_1 t485 [.int .u64 t485] (fun _ => True) (fun _ => False) rfl rfl ?aP (fun _ hk => hk.elim) ?aF ?aO ?aB ?aS ?aL ?_; (case aP => exact rfl); (case aB => exact (pB HB.out)); (case aF => exact (fun _ _ => trivial)); (case aO => exact (pR HO_7.out)); (case aS => exact (below_size (pB HB.out))); (case aL => have := LMc12.out; omega); intro v488 w15 ho hb hg hat; rw [← Ny487.out] at ho; have n0_ := Aside0.mk (hb); have n1_ := Aside0.mk (ho); clear HB HO_7; have HB := n0_; have HO489 := n1_; clear n0_ n1_ ho hb hg hat))
        go_roundg k1
        case measure => have := HK1.out; omega
        case rel => exact ⟨(y487), (wrap64 (x8_1 + t486)), (wrap64 (x9_1 + 1)), (by first | rfl | (simp; done) | (simp [*]; done)), (by first | rfl | (simp; done) | (simp [*]; done)), H', ⟨by have := HK1.out; omega⟩, ⟨by (with_reducible repeat (first | apply Kd.R_alloc | apply Kd.R_drewN | apply Kd.R_drew)); exact HO489.out⟩, ⟨by repeat (first | (with_reducible first | exact HB.out | apply below_alloc | apply pw_below_drewN | apply below_drew1) | exact HB.out)⟩⟩
       ·rw [if_neg c12] at H
        exact absurd H (by simp)
     ·rw [if_neg c7] at H
      exact absurd H (by simp)
    ·rw [if_neg c6] at H
     exact absurd H (by simp)
   ·rw [if_neg c5] at H
    have c5b0 : decide (x9_1 < a1) = false := decide_eq_false c5
    clear c5
    simp only [Option.some.injEq, Prod.mk.injEq] at H
    obtain ⟨rfl, rfl, rfl⟩ := H
    go_wp2
    go_ret3
    exact ⟨_, by first | rfl | (simp [errW_none, errW_some] <;> rfl) | (simp [*, errW_none, errW_some] <;> rfl), by (with_reducible repeat (first | apply Kd.R_alloc | apply Kd.R_drewN | apply Kd.R_drew)); exact HO_7.out, by repeat (first | (with_reducible first | exact HB.out | apply below_alloc | apply pw_below_drewN | apply below_drew1) | exact HB.out)⟩
end Go.Proofs.Ytapamplgajkjlaa.PExportGets
