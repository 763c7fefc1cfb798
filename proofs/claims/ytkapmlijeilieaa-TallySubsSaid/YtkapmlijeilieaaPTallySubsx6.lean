/- What the law reaches, as plain Lean functions, and that the machine's calls answer just that. -/
import Derived.Test.YtkapmlijeilieaaPTallySubsx0
import Derived.Test.YtkapmlijeilieaaPTallySubsx2
import Derived.Test.YtkapmlijeilieaaPTallySubsx4
import Derived.Test.YtkapmlijeilieaaPTallySubsx5
namespace Go.Proofs.Ytkapmlijeilieaa.PTallySubs
open Go.RowKit Go.Proofs.YtkapmlijeilieaaW.PrintWords Go.Proofs.YtkapmlijeilieaaW.PrintLast Go.Proofs.YtkapmlijeilieaaW.PrintMore
attribute [local go_sem] max2_int min2_int max_two min_two max_three min_three max_four min_four
set_option linter.unusedVariables false
set_option linter.unusedSimpArgs false
attribute [local go_sem] wrap64_l1 wrap64_l2 wrap64_l3 wrap64_l4 wrap64_l5
mutual
def garnerref09_Set.l0 : Nat → List (S46) → Int → Int → List (S46) → Bool → Int → Option ((List (S46)))
 | 0, _, _, _, _, _, _ => none
 | k + 1, x0, x1, x2, x7, x8, x9 => if x9 < (x0.length : Int) then (if x8 = true then (garnerref09_Set.j1 k x0 x1 x2 x7 x8 x9 false) else (if 0 ≤ x9 then (garnerref09_Set.j1 k x0 x1 x2 x7 x8 x9 (decide (((rd_T46 x0 x9).f0) ≥ x1))) else (none))) else (if x8 = true then (some x7) else (if x7.length < 8796093022208 then (some (x7 ++ [(⟨x1, x2⟩ : S46)])) else (none)))
def garnerref09_Set.j1 : Nat → List (S46) → Int → Int → List (S46) → Bool → Int → Bool → Option ((List (S46)))
 | 0, _, _, _, _, _, _, _ => none
 | k + 1, x0, x1, x2, x7, x8, x9, x29 => if x29 = true then (if x7.length < 8796093022208 then ((some (x7 ++ [(⟨x1, x2⟩ : S46)] : List (S46))).bind fun y196 => (if 0 ≤ x9 then (if x9 < (x0.length : Int) then (if ((rd_T46 x0 x9).f0) = x1 then (garnerref09_Set.l0 k x0 x1 x2 y196 true (wrap64 (x9 + 1))) else (if y196.length < 8796093022208 then (garnerref09_Set.l0 k x0 x1 x2 (y196 ++ [(⟨(rd_T46 x0 x9).f0, (rd_T46 x0 x9).f1⟩ : S46)]) true (wrap64 (x9 + 1))) else (none))) else (none)) else (none))) else (none)) else (if 0 ≤ x9 then (if x9 < (x0.length : Int) then (if ((rd_T46 x0 x9).f0) = x1 then (garnerref09_Set.l0 k x0 x1 x2 x7 x8 (wrap64 (x9 + 1))) else (if x7.length < 8796093022208 then (garnerref09_Set.l0 k x0 x1 x2 (x7 ++ [(⟨(rd_T46 x0 x9).f0, (rd_T46 x0 x9).f1⟩ : S46)]) x8 (wrap64 (x9 + 1))) else (none))) else (none)) else (none))
end
def garnerref09_Set.f (k : Nat) (l0 : List (S46)) (a1 : Int) (a2 : Int) : Option ((List (S46))) := garnerref09_Set.l0 k l0 a1 a2 (([] : List (S46))) (a2 == 0) 0
theorem garnerref09_Set.mono_l : ∀ k, (∀ y0 y1 y2 y3 y4 y5, LeO (garnerref09_Set.l0 k y0 y1 y2 y3 y4 y5) (garnerref09_Set.l0 (k + 1) y0 y1 y2 y3 y4 y5)) ∧ (∀ y0 y1 y2 y3 y4 y5 y6, LeO (garnerref09_Set.j1 k y0 y1 y2 y3 y4 y5 y6) (garnerref09_Set.j1 (k + 1) y0 y1 y2 y3 y4 y5 y6))
 | 0 => ⟨fun _ _ _ _ _ _ r h => by simp [garnerref09_Set.l0] at h, fun _ _ _ _ _ _ _ r h => by simp [garnerref09_Set.j1] at h⟩
 | k + 1 => by
  obtain ⟨ih0, ih1⟩ := garnerref09_Set.mono_l k
  refine ⟨?_, ?_⟩
  ·intro y0 y1 y2 y3 y4 y5
   unfold garnerref09_Set.l0
   repeat' first
   | (with_reducible exact ih0 _ _ _ _ _ _)
   | (with_reducible exact ih1 _ _ _ _ _ _ _)
   | (with_reducible exact LeO.refl _)
   | (with_reducible exact LeO.none _)
   | (with_reducible refine LeO.ite ?_ ?_)
   | (with_reducible refine LeO.bind ?_ (fun _ => ?_))
   | exact ih0 _ _ _ _ _ _
   | exact ih1 _ _ _ _ _ _ _
   | exact LeO.none _
   | refine LeO.ite ?_ ?_
   | refine LeO.bind ?_ (fun _ => ?_)
  ·intro y0 y1 y2 y3 y4 y5 y6
   unfold garnerref09_Set.j1
   repeat' first
   | (with_reducible exact ih0 _ _ _ _ _ _)
   | (with_reducible exact ih1 _ _ _ _ _ _ _)
   | (with_reducible exact LeO.refl _)
   | (with_reducible exact LeO.none _)
   | (with_reducible refine LeO.ite ?_ ?_)
   | (with_reducible refine LeO.bind ?_ (fun _ => ?_))
   | exact ih0 _ _ _ _ _ _
   | exact ih1 _ _ _ _ _ _ _
   | exact LeO.none _
   | refine LeO.ite ?_ ?_
   | refine LeO.bind ?_ (fun _ => ?_)
theorem garnerref09_Set.mono : ∀ a0 a1 a2 k, LeO (garnerref09_Set.f k a0 a1 a2) (garnerref09_Set.f (k + 1) a0 a1 a2) := by
 intro a0 a1 a2 k
 obtain ⟨ih0, ih1⟩ := garnerref09_Set.mono_l k
 unfold garnerref09_Set.f
 repeat' first
   | (with_reducible exact ih0 _ _ _ _ _ _)
   | (with_reducible exact ih1 _ _ _ _ _ _ _)
   | (with_reducible exact LeO.refl _)
   | (with_reducible exact LeO.none _)
   | (with_reducible refine LeO.ite ?_ ?_)
   | (with_reducible refine LeO.bind ?_ (fun _ => ?_))
   | exact ih0 _ _ _ _ _ _
   | exact ih1 _ _ _ _ _ _ _
   | exact LeO.none _
   | refine LeO.ite ?_ ?_
   | refine LeO.bind ?_ (fun _ => ?_)
set_option maxHeartbeats 8000000 in
set_option maxRecDepth 100000 in
theorem garnerref09_Set.calls (k : Nat) (A0 : Option Addr) (c0 : Nat) (l0 : List (S46)) (a1 : Int) (a2 : Int) (r : List (S46)) (w : World) (hr0 : Kd.C k46 w A0 l0.length l0) (hc0 : l0.length ≤ c0) (h : garnerref09_Set.f k l0 a1 a2 = some r) :
  Calls Try.prog 27 #[.slice A0 l0.length c0, .int .i64 a1, .int .i64 a2] w fun e w' => ∃ v0_ : Value, e = .returned (v0_) ∧ Kd.R k46 46 w' w.heap.size (fun _ => True) v0_ r ∧ Below w.heap.size w w' := by
 have hu46 := Try.underlying46
 have HR0 := Am hr0
 have HC0 := Am hc0
 clear hr0 hc0
 have HB := Am (Below.refl w.heap.size w)
 have H : (garnerref09_Set.l0 k l0 a1 a2 (([] : List (S46))) (a2 == 0) 0) = some r := h
 clear h
 obtain ⟨y189, hy189⟩ : ∃ y_ : List (S46), y_ = (([] : List (S46))) := ⟨_, rfl⟩
 replace H : (garnerref09_Set.l0 k l0 a1 a2 y189 (a2 == 0) 0) = some r := by first | (rw [hy189]; with_reducible exact H) | (have H2_ := (Option.bind_some _ _).symm.trans H; rw [hy189]; with_reducible exact H2_) | (have H2_ := (Option.bind_some _ _).symm.trans H; with_reducible exact H2_) | with_reducible exact H | (rw [hy189]; exact H) | exact H
 have Ny189 := Am hy189
 clear hy189
 have H' := Am H
 clear H
 go_enter Try.func27, Try.ntmps27
 go_wp2_with (first | ((with_reducible refine gate_dst (N := 10) rfl ?_); refine Kd.R_lit k46 _ 46 ?hg (N := 10) ?hd (xs := ([] : List (S46))) (inner := []) (ok := fun _ => True) (okp := fun _ => True) ?hr ?hp (fun _ hk => hk) trivial (Below.refl _ _) (Nat.le_refl _) (by simp) ?_; (case hd => rfl); (case hg => rfl); (case hr => first | (go_simp; done) | (go_simp; rfl)); (case hp => exact (Reps.none _ _)); intro v190 w4 ho5 hb hg_ hnew_; clear hg_ hnew_; (first | rw [← Ny189.out] at ho5 | (simp only [Int.reduceToNat] at ho5; rw [← Ny189.out] at ho5)); have Aq := Am (Kd.R_lower ho5 (below_size (pB HB.out))); replace HB := Am (below_step (pB HB.out) hb); clear hb ho5))
 go_loopg [7, 8, 9] k (fun kq v7 v8 v9 w' => ∃ (Ab : List (S46)) (Af : Bool) (Aa : Int), v8 = .bool Af ∧ v9 = .int .i64 Aa ∧ Aside0 (garnerref09_Set.l0 kq l0 a1 a2 Ab Af Aa = some r) ∧ Aside0 (kq ≤ k) ∧ Aside0 (Kd.R k46 46 w' w.heap.size (fun _ => True) v7 Ab) ∧ Aside0 (Below w.heap.size w w'))
 case atStart => exact ⟨(y189), ((a2 == 0)), (0), (by first | rfl | (simp; done) | (simp [*]; done)), (by first | rfl | (simp; done) | (simp [*]; done)), H', ⟨Nat.le_refl _⟩, ⟨by (with_reducible repeat (first | apply Kd.R_alloc | apply Kd.R_drewN | apply Kd.R_drew)); exact Aq.out⟩, ⟨pB HB.out⟩⟩
 case round =>
  clear H'
  try clear c2
  try clear p2
  obtain ⟨Ab, Af, Aa, rfl, rfl, HA, HK1, Ae, HB⟩ := hrel
  cases gk with
  | zero => exact absurd HA.out (by simp [garnerref09_Set.l0])
  | succ k1 =>
   have H := HA.out
   clear HA
   simp only [garnerref09_Set.l0] at H
   by_cases c6 : Aa < (l0.length : Int)
   rotate_left
   ·rw [if_neg c6] at H
    have c6b0 : decide (Aa < (l0.length : Int)) = false := decide_eq_false c6
    clear c6
    by_cases c24 : Af = true
    ·subst c24
     have H1 : (some Ab) = some r := by rw [if_pos rfl] at H; exact H
     clear H
     have H := H1
     clear H1
     obtain rfl := Option.some.inj H
     go_wp2
     go_ret
     exact ⟨_, pX, by (with_reducible repeat (first | apply Kd.R_alloc | apply Kd.R_drewN | apply Kd.R_drew)); exact Ae.out, pB HB.out⟩
    replace c24 := Bool.eq_false_iff.mpr c24
    subst c24
    have H1 : (if Ab.length < 8796093022208 then (some (Ab ++ [(⟨a1, a2⟩ : S46)])) else (none)) = some r := by rw [if_neg (show ¬ (false = true) by decide)] at H; exact H
    clear H
    have H := H1
    clear H1
    by_cases c25 : Ab.length < 8796093022208
    rotate_left
    ·rw [if_neg c25] at H
     exact absurd H (by simp)
    rw [if_pos c25] at H
    have LMc25 := Am c25
    clear c25
    obtain ⟨y192, hy192⟩ : ∃ y_ : List (S46), y_ = (Ab ++ [(⟨a1, a2⟩ : S46)]) := ⟨_, rfl⟩
    replace H : (some y192) = some r := by first | (rw [hy192]; with_reducible exact H) | (have H2_ := (Option.bind_some _ _).symm.trans H; rw [hy192]; with_reducible exact H2_) | (have H2_ := (Option.bind_some _ _).symm.trans H; with_reducible exact H2_) | with_reducible exact H | (rw [hy192]; exact H) | exact H
    have Ny192 := Am hy192
    clear hy192
    obtain rfl := Option.some.inj H
    go_wp2_with (first | ((with_reducible refine gate_builtin (b := .append) (xs := #[.tmp 52, .tmp 56]) rfl ?_); at_builtin; refine Kd.R_append k46 (w0 := w) w.heap.size rfl (.tmp 52) (.tmp 56) 22 46 (.agg #[(.int .i64 0), (.int .i64 0)]) 16 rfl Try.underlying22 info46 rfl (by decide) (by omega) u7 Ab (⟨a1, a2⟩ : S46) [.int .i64 a1, .int .i64 a2] (fun _ => True) (fun _ => False) rfl rfl ?aP (fun _ hk => hk.elim) ?aF ?aO ?aB ?aS ?aL ?_; (case aP => exact k46_mkM _ _ _ (⟨a1, a2⟩ : S46)); (case aB => exact (pB HB.out)); (case aF => exact (fun _ _ => trivial)); (case aO => exact (pR Ae.out)); (case aS => exact (below_size (pB HB.out))); (case aL => have := LMc25.out; omega); intro v193 w26 ho hb hg hat; rw [← Ny192.out] at ho; replace HB := Am (hb); have Av := Am (ho); clear Ae ho hb hg hat))
    go_ret
    exact ⟨_, pX, by (with_reducible repeat (first | apply Kd.R_alloc | apply Kd.R_drewN | apply Kd.R_drew)); exact Av.out, pB HB.out⟩
   rw [if_pos c6] at H
   have c6b0 : decide (Aa < (l0.length : Int)) = true := decide_eq_true c6
   clear c6
   have HC7 := Am H
   clear H
   go_upto_region 6 with (fail)
   go_cut [29] (fun v29 wc => ∃ (kq : Nat) (Ag : Bool), v29 = .bool Ag ∧ Aside0 (garnerref09_Set.j1 kq l0 a1 a2 Ab Af Aa Ag = some r) ∧ Aside0 (kq ≤ k1) ∧ Aside0 (Kd.R k46 46 wc w.heap.size (fun _ => True) u7 Ab) ∧ Aside0 (Below w.heap.size w wc))
   case first =>
    have H := HC7.out
    clear HC7
    by_cases c8 : Af = true
    ·subst c8
     have H1 : (garnerref09_Set.j1 k1 l0 a1 a2 Ab true Aa false) = some r := by rw [if_pos rfl] at H; exact H
     clear H
     have H := H1
     clear H1
     have H' := Am H
     clear H
     go_wp2
     go_meet
     case rel => exact ⟨_, (false), (by first | rfl | (simp; done) | (simp [*]; done)), H', ⟨by have := HK1.out; first | omega | exact Nat.le_refl _⟩, ⟨by (with_reducible repeat (first | apply Kd.R_alloc | apply Kd.R_drewN | apply Kd.R_drew)); exact Ae.out⟩, ⟨pB HB.out⟩⟩
    replace c8 := Bool.eq_false_iff.mpr c8
    subst c8
    have H1 : (if 0 ≤ Aa then (garnerref09_Set.j1 k1 l0 a1 a2 Ab false Aa (decide (((rd_T46 l0 Aa).f0) ≥ a1))) else (none)) = some r := by rw [if_neg (show ¬ (false = true) by decide)] at H; exact H
    clear H
    have H := H1
    clear H1
    by_cases c9 : 0 ≤ Aa
    rotate_left
    ·rw [if_neg c9] at H
     exact absurd H (by simp)
    rw [if_pos c9] at H
    have c9b0 : decide (0 ≤ Aa) = true := decide_eq_true c9
    clear c9
    (first | rw [c9b0] | (simp only [i64_w, i32_w]; rw [c9b0]) | skip)
    have H' := Am H
    clear H
    have p195 : 0 ≤ (Aa : Int) := of_decide_eq_true pS
    have q195 : Aa < (l0.length : Int) := of_decide_eq_true pS
    obtain ⟨ad195, e195, Ak, Al⟩ := at_T46u HR0.out Aa p195 q195 HB.out
    cases e195
    replace p195 := eq_true p195
    replace q195 := eq_true q195
    go_wp2
    go_meet
    case rel => exact ⟨_, (decide (((rd_T46 l0 Aa).f0) ≥ a1)), (by first | rfl | (simp; done) | (simp [*]; done)), H', ⟨by have := HK1.out; first | omega | exact Nat.le_refl _⟩, ⟨by (with_reducible repeat (first | apply Kd.R_alloc | apply Kd.R_drewN | apply Kd.R_drew)); exact Ae.out⟩, ⟨pB HB.out⟩⟩
   case rest =>
    clear HC7
    try clear p1
    try clear q1
    try clear hx1
    try clear c2
    try clear p2
    try clear c6
    try clear c6b0
    try clear c8
    try clear c9
    try clear c9b0
    try clear Ak
    try clear Al
    try clear p195
    try clear p2
    try clear q195
    obtain ⟨kq, Ag, rfl, HA, HJ6, Ae, HB⟩ := hcut
    cases kq with
    | zero => exact absurd HA.out (by simp [garnerref09_Set.j1])
    | succ kj6 =>
     have H := HA.out
     clear HA
     simp only [garnerref09_Set.j1] at H
     by_cases c10 : Ag = true
     ·subst c10
      have H1 : (if Ab.length < 8796093022208 then ((some (Ab ++ [(⟨a1, a2⟩ : S46)] : List (S46))).bind fun y196 => (if 0 ≤ Aa then (if Aa < (l0.length : Int) then (if ((rd_T46 l0 Aa).f0) = a1 then (garnerref09_Set.l0 kj6 l0 a1 a2 y196 true (wrap64 (Aa + 1))) else (if y196.length < 8796093022208 then (garnerref09_Set.l0 kj6 l0 a1 a2 (y196 ++ [(⟨(rd_T46 l0 Aa).f0, (rd_T46 l0 Aa).f1⟩ : S46)]) true (wrap64 (Aa + 1))) else (none))) else (none)) else (none))) else (none)) = some r := by rw [if_pos rfl] at H; exact H
      clear H
      have H := H1
      clear H1
      by_cases c11 : Ab.length < 8796093022208
      rotate_left
      ·rw [if_neg c11] at H
       exact absurd H (by simp)
      rw [if_pos c11] at H
      have LMc11 := Am c11
      clear c11
      obtain ⟨y196, hy196⟩ : ∃ y_ : List (S46), y_ = (Ab ++ [(⟨a1, a2⟩ : S46)]) := ⟨_, rfl⟩
      replace H : (if 0 ≤ Aa then (if Aa < (l0.length : Int) then (if ((rd_T46 l0 Aa).f0) = a1 then (garnerref09_Set.l0 kj6 l0 a1 a2 y196 true (wrap64 (Aa + 1))) else (if y196.length < 8796093022208 then (garnerref09_Set.l0 kj6 l0 a1 a2 (y196 ++ [(⟨(rd_T46 l0 Aa).f0, (rd_T46 l0 Aa).f1⟩ : S46)]) true (wrap64 (Aa + 1))) else (none))) else (none)) else (none)) = some r := by first | (rw [hy196]; with_reducible exact H) | (have H2_ := (Option.bind_some _ _).symm.trans H; rw [hy196]; with_reducible exact H2_) | (have H2_ := (Option.bind_some _ _).symm.trans H; with_reducible exact H2_) | with_reducible exact H | (rw [hy196]; exact H) | exact H
      have Ny196 := Am hy196
      clear hy196
      by_cases c12 : 0 ≤ Aa
      rotate_left
      ·rw [if_neg c12] at H
       exact absurd H (by simp)
      rw [if_pos c12] at H
      have c12b0 : decide (0 ≤ Aa) = true := decide_eq_true c12
      clear c12
      by_cases c13 : Aa < (l0.length : Int)
      rotate_left
      ·rw [if_neg c13] at H
       exact absurd H (by simp)
      rw [if_pos c13] at H
      have c13b0 : decide (Aa < (l0.length : Int)) = true := decide_eq_true c13
      clear c13
      by_cases c14 : ((rd_T46 l0 Aa).f0) = a1
      ·rw [if_pos c14] at H
       have c14b0 : (((rd_T46 l0 Aa).f0) == a1) = true := beq_iff_eq.mpr c14
       have c14b1 : (((rd_T46 l0 Aa).f0) != a1) = false := bne_eq_false_iff_eq.mpr c14
       clear c14
       have H' := Am H
       clear H
       go_wp2_with (first | ((with_reducible refine gate_builtin (b := .append) (xs := #[.tmp 30, .tmp 34]) rfl ?_); at_builtin; refine Kd.R_append k46 (w0 := w) w.heap.size rfl (.tmp 30) (.tmp 34) 22 46 (.agg #[(.int .i64 0), (.int .i64 0)]) 16 rfl Try.underlying22 info46 rfl (by decide) (by omega) u7 Ab (⟨a1, a2⟩ : S46) [.int .i64 a1, .int .i64 a2] (fun _ => True) (fun _ => False) rfl rfl ?aP (fun _ hk => hk.elim) ?aF ?aO ?aB ?aS ?aL ?_; (case aP => exact k46_mkM _ _ _ (⟨a1, a2⟩ : S46)); (case aB => exact (pB HB.out)); (case aF => exact (fun _ _ => trivial)); (case aO => exact (pR Ae.out)); (case aS => exact (below_size (pB HB.out))); (case aL => have := LMc11.out; omega); intro v197 w15 ho hb hg hat; rw [← Ny196.out] at ho; replace HB := Am (hb); have Ah := Am (ho); clear Ae ho hb hg hat; have p199 : 0 ≤ (Aa : Int) := of_decide_eq_true pS; have q199 : Aa < (l0.length : Int) := of_decide_eq_true pS; obtain ⟨Ap, e199, Ac, Ad⟩ := at_T46 HR0.out Aa p199 q199; cases e199; replace Ac := cU HB.out Ac; replace Ad := cU HB.out Ad; replace p199 := eq_true p199; replace q199 := eq_true q199))
       go_roundg kj6
       case measure => have := HK1.out; have := HJ6.out; omega
       case rel => exact ⟨(y196), (true), (wrap64 (Aa + 1)), (by first | rfl | (simp; done) | (simp [*]; done)), (by first | rfl | (simp; done) | (simp [*]; done)), H', ⟨by have := HK1.out; have := HJ6.out; omega⟩, ⟨by (with_reducible repeat (first | apply Kd.R_alloc | apply Kd.R_drewN | apply Kd.R_drew)); exact Ah.out⟩, ⟨pB HB.out⟩⟩
      rw [if_neg c14] at H
      have c14b0 : (((rd_T46 l0 Aa).f0) == a1) = false := beq_eq_false_iff_ne.mpr c14
      have c14b1 : (((rd_T46 l0 Aa).f0) != a1) = true := bne_iff_ne.mpr c14
      by_cases c16 : y196.length < 8796093022208
      rotate_left
      ·rw [if_neg c16] at H
       exact absurd H (by simp)
      rw [if_pos c16] at H
      have LMc16 := Am c16
      clear c16
      obtain ⟨y201, hy201⟩ : ∃ y_ : List (S46), y_ = (y196 ++ [(⟨(rd_T46 l0 Aa).f0, (rd_T46 l0 Aa).f1⟩ : S46)]) := ⟨_, rfl⟩
      replace H : (garnerref09_Set.l0 kj6 l0 a1 a2 y201 true (wrap64 (Aa + 1))) = some r := by first | (rw [hy201]; with_reducible exact H) | (have H2_ := (Option.bind_some _ _).symm.trans H; rw [hy201]; with_reducible exact H2_) | (have H2_ := (Option.bind_some _ _).symm.trans H; with_reducible exact H2_) | with_reducible exact H | (rw [hy201]; exact H) | exact H
      have Ny201 := Am hy201
      clear hy201
      have H' := Am H
      clear H
      go_wp2_with (first | ((with_reducible refine gate_builtin (b := .append) (xs := #[.tmp 30, .tmp 34]) rfl ?_); at_builtin; refine Kd.R_append k46 (w0 := w) w.heap.size rfl (.tmp 30) (.tmp 34) 22 46 (.agg #[(.int .i64 0), (.int .i64 0)]) 16 rfl Try.underlying22 info46 rfl (by decide) (by omega) u7 Ab (⟨a1, a2⟩ : S46) [.int .i64 a1, .int .i64 a2] (fun _ => True) (fun _ => False) rfl rfl ?aP (fun _ hk => hk.elim) ?aF ?aO ?aB ?aS ?aL ?_; (case aP => exact k46_mkM _ _ _ (⟨a1, a2⟩ : S46)); (case aB => exact (pB HB.out)); (case aF => exact (fun _ _ => trivial)); (case aO => exact (pR Ae.out)); (case aS => exact (below_size (pB HB.out))); (case aL => have := LMc11.out; omega); intro v197 w17 ho hb hg hat; rw [← Ny196.out] at ho; replace HB := Am (hb); have Ah := Am (ho); clear Ae ho hb hg hat; have p199 : 0 ≤ (Aa : Int) := of_decide_eq_true pS; have q199 : Aa < (l0.length : Int) := of_decide_eq_true pS; obtain ⟨Ap, e199, Ac, Ad⟩ := at_T46 HR0.out Aa p199 q199; cases e199; replace Ac := cU HB.out Ac; replace Ad := cU HB.out Ad; replace p199 := eq_true p199; replace q199 := eq_true q199; have p200 : 0 ≤ (Aa : Int) := of_decide_eq_true pS; have q200 : Aa < (l0.length : Int) := of_decide_eq_true pS; obtain ⟨Ar, e200, Ai, Aj⟩ := at_T46 HR0.out Aa p200 q200; obtain rfl : Ap = Ar := (by injection e200); replace Ai := cU HB.out Ai; replace Aj := cU HB.out Aj; replace p200 := eq_true p200; replace q200 := eq_true q200) | ((with_reducible refine gate_builtin (b := .append) (xs := #[.tmp 43, .tmp 48]) rfl ?_); at_builtin; refine Kd.R_append k46 (w0 := w) w.heap.size rfl (.tmp 43) (.tmp 48) 22 46 (.agg #[(.int .i64 0), (.int .i64 0)]) 16 rfl Try.underlying22 info46 rfl (by decide) (by omega) v197 y196 (⟨(rd_T46 l0 Aa).f0, (rd_T46 l0 Aa).f1⟩ : S46) [.int .i64 ((rd_T46 l0 Aa).f0), .int .i64 ((rd_T46 l0 Aa).f1)] (fun _ => True) (fun _ => False) rfl rfl ?aP (fun _ hk => hk.elim) ?aF ?aO ?aB ?aS ?aL ?_; (case aP => exact k46_mkM _ _ _ (⟨(rd_T46 l0 Aa).f0, (rd_T46 l0 Aa).f1⟩ : S46)); (case aB => exact (pB HB.out)); (case aF => exact (fun _ _ => trivial)); (case aO => exact (pR Ah.out)); (case aS => exact (below_size (pB HB.out))); (case aL => have := LMc16.out; omega); intro v202 w18 ho hb hg hat; rw [← Ny201.out] at ho; replace HB := Am (hb); have As := Am (ho); clear Ah ho hb hg hat))
      go_roundg kj6
      case measure => have := HK1.out; have := HJ6.out; omega
      case rel => exact ⟨(y201), (true), (wrap64 (Aa + 1)), (by first | rfl | (simp; done) | (simp [*]; done)), (by first | rfl | (simp; done) | (simp [*]; done)), H', ⟨by have := HK1.out; have := HJ6.out; omega⟩, ⟨by (with_reducible repeat (first | apply Kd.R_alloc | apply Kd.R_drewN | apply Kd.R_drew)); exact As.out⟩, ⟨pB HB.out⟩⟩
     replace c10 := Bool.eq_false_iff.mpr c10
     subst c10
     have H1 : (if 0 ≤ Aa then (if Aa < (l0.length : Int) then (if ((rd_T46 l0 Aa).f0) = a1 then (garnerref09_Set.l0 kj6 l0 a1 a2 Ab Af (wrap64 (Aa + 1))) else (if Ab.length < 8796093022208 then (garnerref09_Set.l0 kj6 l0 a1 a2 (Ab ++ [(⟨(rd_T46 l0 Aa).f0, (rd_T46 l0 Aa).f1⟩ : S46)]) Af (wrap64 (Aa + 1))) else (none))) else (none)) else (none)) = some r := by rw [if_neg (show ¬ (false = true) by decide)] at H; exact H
     clear H
     have H := H1
     clear H1
     by_cases c19 : 0 ≤ Aa
     rotate_left
     ·rw [if_neg c19] at H
      exact absurd H (by simp)
     rw [if_pos c19] at H
     have c19b0 : decide (0 ≤ Aa) = true := decide_eq_true c19
     clear c19
     by_cases c20 : Aa < (l0.length : Int)
     rotate_left
     ·rw [if_neg c20] at H
      exact absurd H (by simp)
     rw [if_pos c20] at H
     have c20b0 : decide (Aa < (l0.length : Int)) = true := decide_eq_true c20
     clear c20
     by_cases c21 : ((rd_T46 l0 Aa).f0) = a1
     ·rw [if_pos c21] at H
      have c21b0 : (((rd_T46 l0 Aa).f0) == a1) = true := beq_iff_eq.mpr c21
      have c21b1 : (((rd_T46 l0 Aa).f0) != a1) = false := bne_eq_false_iff_eq.mpr c21
      clear c21
      have H' := Am H
      clear H
      have p204 : 0 ≤ (Aa : Int) := of_decide_eq_true pS
      have q204 : Aa < (l0.length : Int) := of_decide_eq_true pS
      obtain ⟨At, e204, An, Ao⟩ := at_T46u HR0.out Aa p204 q204 HB.out
      cases e204
      replace p204 := eq_true p204
      replace q204 := eq_true q204
      go_wp2
      go_roundg kj6
      case measure => have := HK1.out; have := HJ6.out; omega
      case rel => exact ⟨(Ab), (Af), (wrap64 (Aa + 1)), (by first | rfl | (simp; done) | (simp [*]; done)), (by first | rfl | (simp; done) | (simp [*]; done)), H', ⟨by have := HK1.out; have := HJ6.out; omega⟩, ⟨by (with_reducible repeat (first | apply Kd.R_alloc | apply Kd.R_drewN | apply Kd.R_drew)); exact Ae.out⟩, ⟨pB HB.out⟩⟩
     rw [if_neg c21] at H
     have c21b0 : (((rd_T46 l0 Aa).f0) == a1) = false := beq_eq_false_iff_ne.mpr c21
     have c21b1 : (((rd_T46 l0 Aa).f0) != a1) = true := bne_iff_ne.mpr c21
     by_cases c22 : Ab.length < 8796093022208
     rotate_left
     ·rw [if_neg c22] at H
      exact absurd H (by simp)
     rw [if_pos c22] at H
     have LMc22 := Am c22
     clear c22
     obtain ⟨y206, hy206⟩ : ∃ y_ : List (S46), y_ = (Ab ++ [(⟨(rd_T46 l0 Aa).f0, (rd_T46 l0 Aa).f1⟩ : S46)]) := ⟨_, rfl⟩
     replace H : (garnerref09_Set.l0 kj6 l0 a1 a2 y206 Af (wrap64 (Aa + 1))) = some r := by first | (rw [hy206]; with_reducible exact H) | (have H2_ := (Option.bind_some _ _).symm.trans H; rw [hy206]; with_reducible exact H2_) | (have H2_ := (Option.bind_some _ _).symm.trans H; with_reducible exact H2_) | with_reducible exact H | (rw [hy206]; exact H) | exact H
     have Ny206 := Am hy206
     clear hy206
     have H' := Am H
     clear H
     have p204 : 0 ≤ (Aa : Int) := of_decide_eq_true pS
     have q204 : Aa < (l0.length : Int) := of_decide_eq_true pS
     obtain ⟨At, e204, An, Ao⟩ := at_T46u HR0.out Aa p204 q204 HB.out
     cases e204
     replace p204 := eq_true p204
     replace q204 := eq_true q204
     go_wp2_with (first | ((with_reducible refine gate_builtin (b := .append) (xs := #[.tmp 43, .tmp 48]) rfl ?_); at_builtin; refine Kd.R_append k46 (w0 := w) w.heap.size rfl (.tmp 43) (.tmp 48) 22 46 (.agg #[(.int .i64 0), (.int .i64 0)]) 16 rfl Try.underlying22 info46 rfl (by decide) (by omega) u7 Ab (⟨(rd_T46 l0 Aa).f0, (rd_T46 l0 Aa).f1⟩ : S46) [.int .i64 ((rd_T46 l0 Aa).f0), .int .i64 ((rd_T46 l0 Aa).f1)] (fun _ => True) (fun _ => False) rfl rfl ?aP (fun _ hk => hk.elim) ?aF ?aO ?aB ?aS ?aL ?_; (case aP => exact k46_mkM _ _ _ (⟨(rd_T46 l0 Aa).f0, (rd_T46 l0 Aa).f1⟩ : S46)); (case aB => exact (pB HB.out)); (case aF => exact (fun _ _ => trivial)); (case aO => exact (pR Ae.out)); (case aS => exact (below_size (pB HB.out))); (case aL => have := LMc22.out; omega); intro v207 w23 ho hb hg hat; rw [← Ny206.out] at ho; replace HB := Am (hb); have Au := Am (ho); clear Ae ho hb hg hat))
     go_roundg kj6
     case measure => have := HK1.out; have := HJ6.out; omega
     case rel => exact ⟨(y206), (Af), (wrap64 (Aa + 1)), (by first | rfl | (simp; done) | (simp [*]; done)), (by first | rfl | (simp; done) | (simp [*]; done)), H', ⟨by have := HK1.out; have := HJ6.out; omega⟩, ⟨by (with_reducible repeat (first | apply Kd.R_alloc | apply Kd.R_drewN | apply Kd.R_drew)); exact Au.out⟩, ⟨pB HB.out⟩⟩
def garnerref09_Sub.l0 : Nat → List (S46) → List (S43) → Int → Option ((List (S46)) × Bool)
 | 0, _, _, _ => none
 | k + 1, x0, x1, x6 => if x6 < (x1.length : Int) then (if 0 ≤ x6 then ((garnerref09_Get.f k x0 ((rd_T43 x1 x6).f0)).bind fun t210 => (if (wrap64 (t210 - ((rd_T43 x1 x6).f2))) < 0 then (some (([] : List (S46)), false)) else ((garnerref09_Set.f k x0 ((rd_T43 x1 x6).f0) (wrap64 (t210 - ((rd_T43 x1 x6).f2)))).bind fun t213 => (garnerref09_Sub.l0 k t213 x1 (wrap64 (x6 + 1)))))) else (none)) else (some (x0, true))
def garnerref09_Sub.f (k : Nat) (l0 : List (S46)) (l1 : List (S43)) : Option ((List (S46)) × Bool) := garnerref09_Sub.l0 k l0 l1 0
theorem garnerref09_Sub.mono_l : ∀ k, (∀ y0 y1 y2, LeO (garnerref09_Sub.l0 k y0 y1 y2) (garnerref09_Sub.l0 (k + 1) y0 y1 y2))
 | 0 => fun _ _ _ r h => by simp [garnerref09_Sub.l0] at h
 | k + 1 => by
  have ih0 := garnerref09_Sub.mono_l k
  ·intro y0 y1 y2
   unfold garnerref09_Sub.l0
   repeat' first
   | (with_reducible exact ih0 _ _ _)
   | (with_reducible exact garnerref09_Get.mono _ _ _)
   | (with_reducible exact garnerref09_Set.mono _ _ _ _)
   | (with_reducible exact LeO.refl _)
   | (with_reducible exact LeO.none _)
   | (with_reducible refine LeO.ite ?_ ?_)
   | (with_reducible refine LeO.bind ?_ (fun _ => ?_))
   | exact ih0 _ _ _
   | exact garnerref09_Get.mono _ _ _
   | exact garnerref09_Set.mono _ _ _ _
   | exact LeO.none _
   | refine LeO.ite ?_ ?_
   | refine LeO.bind ?_ (fun _ => ?_)
theorem garnerref09_Sub.mono : ∀ a0 a1 k, LeO (garnerref09_Sub.f k a0 a1) (garnerref09_Sub.f (k + 1) a0 a1) := by
 intro a0 a1 k
 have ih0 := garnerref09_Sub.mono_l k
 unfold garnerref09_Sub.f
 repeat' first
   | (with_reducible exact ih0 _ _ _)
   | (with_reducible exact garnerref09_Get.mono _ _ _)
   | (with_reducible exact garnerref09_Set.mono _ _ _ _)
   | (with_reducible exact LeO.refl _)
   | (with_reducible exact LeO.none _)
   | (with_reducible refine LeO.ite ?_ ?_)
   | (with_reducible refine LeO.bind ?_ (fun _ => ?_))
   | exact ih0 _ _ _
   | exact garnerref09_Get.mono _ _ _
   | exact garnerref09_Set.mono _ _ _ _
   | exact LeO.none _
   | refine LeO.ite ?_ ?_
   | refine LeO.bind ?_ (fun _ => ?_)
set_option maxHeartbeats 8000000 in
set_option maxRecDepth 100000 in
theorem garnerref09_Sub.calls (k : Nat) (P0_ : Nat → Prop) (A0 : Option Addr) (c0 : Nat) (l0 : List (S46)) (A1 : Option Addr) (c1 : Nat) (l1 : List (S43)) (r1 : List (S46)) (r2 : Bool) (w : World) (hs0 : Kd.V k46 46 w w.heap.size (fun k_ => P0_ k_) (.slice A0 l0.length c0) l0) (hr1 : Kd.C k43 w A1 l1.length l1) (hc1 : l1.length ≤ c1) (h : garnerref09_Sub.f k l0 l1 = some (r1, r2)) :
  Calls Try.prog 20 #[.slice A0 l0.length c0, .slice A1 l1.length c1] w fun e w' => ∃ v0_ : Value, e = .returned (.tuple #[v0_, .bool r2]) ∧ Kd.V k46 46 w' w.heap.size (fun k_ => (P0_ k_ ∨ w.heap.size ≤ k_)) v0_ r1 ∧ Below w.heap.size w w' := by
 have Aw := Am (show Kd.V k46 46 w w.heap.size (fun k_ => (P0_ k_ ∨ w.heap.size ≤ k_)) (.slice A0 l0.length c0) l0 from Kd.V_mono hs0 (fun k_ hk => .inl hk))
 have HR1 := Am hr1
 have HC1 := Am hc1
 clear hr1 hc1
 have HB := Am (Below.refl w.heap.size w)
 have H : (garnerref09_Sub.l0 k l0 l1 0) = some (r1, r2) := h
 clear h
 have H' := Am H
 clear H
 go_enter Try.func20, Try.ntmps20
 go_wp2
 repeat (go_quiet (fail); try go_wp2)
 go_loopg [0, 6] k (fun kq v0 v6 w' => ∃ (Ap : List (S46)) (Aa : Int), v6 = .int .i64 Aa ∧ Aside0 (garnerref09_Sub.l0 kq Ap l1 Aa = some (r1, r2)) ∧ Aside0 (kq ≤ k) ∧ Aside0 (Kd.V k46 46 w' w.heap.size (fun k_ => (P0_ k_ ∨ w.heap.size ≤ k_)) v0 Ap) ∧ Aside0 (Below w.heap.size w w'))
 case atStart => exact ⟨(l0), (0), (by first | rfl | (simp; done) | (simp [*]; done)), H', ⟨Nat.le_refl _⟩, ⟨by (with_reducible repeat (first | apply Kd.V_alloc | apply Kd.V_drewN | apply Kd.V_drew)); exact Aw.out⟩, ⟨pB HB.out⟩⟩
 case round =>
  clear H'
  try clear c1
  try clear c2
  try clear p2
  obtain ⟨Ap, Aa, rfl, HA, HK1, Af, HB⟩ := hrel
  cases gk with
  | zero => exact absurd HA.out (by simp [garnerref09_Sub.l0])
  | succ k1 =>
   have H := HA.out
   clear HA
   simp only [garnerref09_Sub.l0] at H
   by_cases c3 : Aa < (l1.length : Int)
   rotate_left
   ·rw [if_neg c3] at H
    have c3b0 : decide (Aa < (l1.length : Int)) = false := decide_eq_false c3
    clear c3
    simp only [Option.some.injEq, Prod.mk.injEq] at H
    obtain ⟨rfl, rfl⟩ := H
    go_wp2
    repeat (go_quiet (fail); try go_wp2)
    go_ret2
    exact ⟨_, pX, by (with_reducible repeat (first | apply Kd.V_alloc | apply Kd.V_drewN | apply Kd.V_drew)); exact Af.out, pB HB.out⟩
   rw [if_pos c3] at H
   have c3b0 : decide (Aa < (l1.length : Int)) = true := decide_eq_true c3
   clear c3
   by_cases c4 : 0 ≤ Aa
   rotate_left
   ·rw [if_neg c4] at H
    exact absurd H (by simp)
   rw [if_pos c4] at H
   have c4b0 : decide (0 ≤ Aa) = true := decide_eq_true c4
   clear c4
   replace H := Option.bind_eq_some_iff.mp H
   obtain ⟨t210, A50, H⟩ := H
   replace H : (if (wrap64 (t210 - ((rd_T43 l1 Aa).f2))) < 0 then (some (([] : List (S46)), false)) else ((garnerref09_Set.f k1 Ap ((rd_T43 l1 Aa).f0) (wrap64 (t210 - ((rd_T43 l1 Aa).f2)))).bind fun t213 => (garnerref09_Sub.l0 k1 t213 l1 (wrap64 (Aa + 1))))) = some (r1, r2) := H
   have A5 := Am A50
   clear A50
   by_cases c6 : (wrap64 (t210 - ((rd_T43 l1 Aa).f2))) < 0
   ·rw [if_pos c6] at H
    have c6b0 : decide ((wrap64 (t210 - ((rd_T43 l1 Aa).f2))) < 0) = true := decide_eq_true c6
    have c6w := c6b0
    rw [← i64_w] at c6w
    clear c6
    simp only [Option.some.injEq, Prod.mk.injEq] at H
    obtain ⟨rfl, rfl⟩ := H
    have p209 : 0 ≤ (Aa : Int) := of_decide_eq_true pS
    have q209 : Aa < (l1.length : Int) := of_decide_eq_true pS
    obtain ⟨Ao, e209, As, At, Au, Av⟩ := at_T43u HR1.out Aa p209 q209 HB.out
    cases e209
    replace p209 := eq_true p209
    replace q209 := eq_true q209
    obtain ⟨Ao7, co7, Ax⟩ := Kd.V_slice Af.out
    subst Ax
    go_wp2_with (first | (go_at_call 17; (with_reducible refine (garnerref09_Get.calls k1 _ _ Ap ((rd_T43 l1 Aa).f0) t210 _ ?Ag ?Ah A5.out).mono ?_); (case Ag => exact pC (Kd.V_reads' Af.out).2.2); (case Ah => exact (Kd.V_reads' Af.out).2.1); rintro e w' ⟨rfl, ⟨nd, rfl⟩⟩; (try first | exact ⟨rfl, _, World.drewN_drewN _ _ _⟩ | exact ⟨rfl, _, Eq.trans (World.drewN_drewN _ _ _) (congrArg (World.drewN _) (Nat.add_assoc _ _ _))⟩); have p211 : 0 ≤ (Aa : Int) := of_decide_eq_true pS; have q211 : Aa < (l1.length : Int) := of_decide_eq_true pS; obtain ⟨An, e211, Ab, Ac, Ad, Ae⟩ := at_T43 HR1.out Aa p211 q211; obtain rfl : Ao = An := (by injection e211); replace Ab := cU HB.out Ab; replace Ac := cU HB.out Ac; replace Ad := cU HB.out Ad; replace Ae := cU HB.out Ae; replace p211 := eq_true p211; replace q211 := eq_true q211))
    repeat (go_quiet (first | (go_at_call 17; (with_reducible refine (garnerref09_Get.calls k1 _ _ Ap ((rd_T43 l1 Aa).f0) t210 _ ?Ag ?Ah A5.out).mono ?_); (case Ag => exact pC (Kd.V_reads' Af.out).2.2); (case Ah => exact (Kd.V_reads' Af.out).2.1); rintro e w' ⟨rfl, ⟨nd, rfl⟩⟩; (try first | exact ⟨rfl, _, World.drewN_drewN _ _ _⟩ | exact ⟨rfl, _, Eq.trans (World.drewN_drewN _ _ _) (congrArg (World.drewN _) (Nat.add_assoc _ _ _))⟩); have p211 : 0 ≤ (Aa : Int) := of_decide_eq_true pS; have q211 : Aa < (l1.length : Int) := of_decide_eq_true pS; obtain ⟨An, e211, Ab, Ac, Ad, Ae⟩ := at_T43 HR1.out Aa p211 q211; obtain rfl : Ao = An := (by injection e211); replace Ab := cU HB.out Ab; replace Ac := cU HB.out Ac; replace Ad := cU HB.out Ad; replace Ae := cU HB.out Ae; replace p211 := eq_true p211; replace q211 := eq_true q211)); try go_wp2_with (first | (go_at_call 17; (with_reducible refine (garnerref09_Get.calls k1 _ _ Ap ((rd_T43 l1 Aa).f0) t210 _ ?Ag ?Ah A5.out).mono ?_); (case Ag => exact pC (Kd.V_reads' Af.out).2.2); (case Ah => exact (Kd.V_reads' Af.out).2.1); rintro e w' ⟨rfl, ⟨nd, rfl⟩⟩; (try first | exact ⟨rfl, _, World.drewN_drewN _ _ _⟩ | exact ⟨rfl, _, Eq.trans (World.drewN_drewN _ _ _) (congrArg (World.drewN _) (Nat.add_assoc _ _ _))⟩); have p211 : 0 ≤ (Aa : Int) := of_decide_eq_true pS; have q211 : Aa < (l1.length : Int) := of_decide_eq_true pS; obtain ⟨An, e211, Ab, Ac, Ad, Ae⟩ := at_T43 HR1.out Aa p211 q211; obtain rfl : Ao = An := (by injection e211); replace Ab := cU HB.out Ab; replace Ac := cU HB.out Ac; replace Ad := cU HB.out Ad; replace Ae := cU HB.out Ae; replace p211 := eq_true p211; replace q211 := eq_true q211)))
    go_ret2
    exact ⟨_, pX, Kd.R_V (Kd.R_nil _ _ _ 0 _), pB HB.out⟩
   rw [if_neg c6] at H
   have c6b0 : decide ((wrap64 (t210 - ((rd_T43 l1 Aa).f2))) < 0) = false := decide_eq_false c6
   have c6w := c6b0
   rw [← i64_w] at c6w
   clear c6
   replace H := Option.bind_eq_some_iff.mp H
   obtain ⟨t213, A80, H⟩ := H
   replace H : (garnerref09_Sub.l0 k1 t213 l1 (wrap64 (Aa + 1))) = some (r1, r2) := H
   have A8 := Am A80
   clear A80
   have H' := Am H
   clear H
   have p209 : 0 ≤ (Aa : Int) := of_decide_eq_true pS
   have q209 : Aa < (l1.length : Int) := of_decide_eq_true pS
   obtain ⟨Ao, e209, As, At, Au, Av⟩ := at_T43u HR1.out Aa p209 q209 HB.out
   cases e209
   replace p209 := eq_true p209
   replace q209 := eq_true q209
   obtain ⟨Ao9, co9, Ay⟩ := Kd.V_slice Af.out
   subst Ay
   go_wp2_with (first | (go_at_call 17; (with_reducible refine (garnerref09_Get.calls k1 _ _ Ap ((rd_T43 l1 Aa).f0) t210 _ ?Ag ?Ah A5.out).mono ?_); (case Ag => exact pC (Kd.V_reads' Af.out).2.2); (case Ah => exact (Kd.V_reads' Af.out).2.1); rintro e w' ⟨rfl, ⟨nd, rfl⟩⟩; (try first | exact ⟨rfl, _, World.drewN_drewN _ _ _⟩ | exact ⟨rfl, _, Eq.trans (World.drewN_drewN _ _ _) (congrArg (World.drewN _) (Nat.add_assoc _ _ _))⟩); have p211 : 0 ≤ (Aa : Int) := of_decide_eq_true pS; have q211 : Aa < (l1.length : Int) := of_decide_eq_true pS; obtain ⟨An, e211, Ab, Ac, Ad, Ae⟩ := at_T43 HR1.out Aa p211 q211; obtain rfl : Ao = An := (by injection e211); replace Ab := cU HB.out Ab; replace Ac := cU HB.out Ac; replace Ad := cU HB.out Ad; replace Ae := cU HB.out Ae; replace p211 := eq_true p211; replace q211 := eq_true q211; have p212 : 0 ≤ (Aa : Int) := of_decide_eq_true pS; have q212 : Aa < (l1.length : Int) := of_decide_eq_true pS; obtain ⟨Aq, e212, Ai, Aj, Ak, Al⟩ := at_T43 HR1.out Aa p212 q212; obtain rfl : Ao = Aq := (by injection e212); replace Ai := cU HB.out Ai; replace Aj := cU HB.out Aj; replace Ak := cU HB.out Ak; replace Al := cU HB.out Al; replace p212 := eq_true p212; replace q212 := eq_true q212) | (go_at_call 27; (with_reducible refine (garnerref09_Set.calls k1 _ _ Ap ((rd_T43 l1 Aa).f0) (wrap64 (t210 - ((rd_T43 l1 Aa).f2))) t213 _ ?Ag ?Ah A8.out).mono ?_); (case Ag => exact pC (Kd.V_reads' Af.out).2.2); (case Ah => exact (Kd.V_reads' Af.out).2.1); rintro e w10 ⟨v214, rfl, ho0, hb⟩; replace Af := Am (Kd.V_elder' (pV Af.out) (Kd.R_base ho0) hb); have Ar := Am (Kd.R_lower (Kd.R_newM (M := fun k_ => (w.heap.size ≤ k_)) ho0 (below_size (pB HB.out)) (fun k_ h_ => h_)) (below_size (pB HB.out))); replace HB := Am (below_step (pB HB.out) hb); (try clear hb); (try clear hb2); (try clear hk); (try clear hi); (try clear ho0)))
   repeat (go_quiet (first | (go_at_call 17; (with_reducible refine (garnerref09_Get.calls k1 _ _ Ap ((rd_T43 l1 Aa).f0) t210 _ ?Ag ?Ah A5.out).mono ?_); (case Ag => exact pC (Kd.V_reads' Af.out).2.2); (case Ah => exact (Kd.V_reads' Af.out).2.1); rintro e w' ⟨rfl, ⟨nd, rfl⟩⟩; (try first | exact ⟨rfl, _, World.drewN_drewN _ _ _⟩ | exact ⟨rfl, _, Eq.trans (World.drewN_drewN _ _ _) (congrArg (World.drewN _) (Nat.add_assoc _ _ _))⟩); have p211 : 0 ≤ (Aa : Int) := of_decide_eq_true pS; have q211 : Aa < (l1.length : Int) := of_decide_eq_true pS; obtain ⟨An, e211, Ab, Ac, Ad, Ae⟩ := at_T43 HR1.out Aa p211 q211; obtain rfl : Ao = An := (by injection e211); replace Ab := cU HB.out Ab; replace Ac := cU HB.out Ac; replace Ad := cU HB.out Ad; replace Ae := cU HB.out Ae; replace p211 := eq_true p211; replace q211 := eq_true q211; have p212 : 0 ≤ (Aa : Int) := of_decide_eq_true pS; have q212 : Aa < (l1.length : Int) := of_decide_eq_true pS; obtain ⟨Aq, e212, Ai, Aj, Ak, Al⟩ := at_T43 HR1.out Aa p212 q212; obtain rfl : Ao = Aq := (by injection e212); replace Ai := cU HB.out Ai; replace Aj := cU HB.out Aj; replace Ak := cU HB.out Ak; replace Al := cU HB.out Al; replace p212 := eq_true p212; replace q212 := eq_true q212) | (go_at_call 27; (with_reducible refine (garnerref09_Set.calls k1 _ _ Ap ((rd_T43 l1 Aa).f0) (wrap64 (t210 - ((rd_T43 l1 Aa).f2))) t213 _ ?Ag ?Ah A8.out).mono ?_); (case Ag => exact pC (Kd.V_reads' Af.out).2.2); (case Ah => exact (Kd.V_reads' Af.out).2.1); rintro e w10 ⟨v214, rfl, ho0, hb⟩; replace Af := Am (Kd.V_elder' (pV Af.out) (Kd.R_base ho0) hb); have Ar := Am (Kd.R_lower (Kd.R_newM (M := fun k_ => (w.heap.size ≤ k_)) ho0 (below_size (pB HB.out)) (fun k_ h_ => h_)) (below_size (pB HB.out))); replace HB := Am (below_step (pB HB.out) hb); (try clear hb); (try clear hb2); (try clear hk); (try clear hi); (try clear ho0))); try go_wp2_with (first | (go_at_call 17; (with_reducible refine (garnerref09_Get.calls k1 _ _ Ap ((rd_T43 l1 Aa).f0) t210 _ ?Ag ?Ah A5.out).mono ?_); (case Ag => exact pC (Kd.V_reads' Af.out).2.2); (case Ah => exact (Kd.V_reads' Af.out).2.1); rintro e w' ⟨rfl, ⟨nd, rfl⟩⟩; (try first | exact ⟨rfl, _, World.drewN_drewN _ _ _⟩ | exact ⟨rfl, _, Eq.trans (World.drewN_drewN _ _ _) (congrArg (World.drewN _) (Nat.add_assoc _ _ _))⟩); have p211 : 0 ≤ (Aa : Int) := of_decide_eq_true pS; have q211 : Aa < (l1.length : Int) := of_decide_eq_true pS; obtain ⟨An, e211, Ab, Ac, Ad, Ae⟩ := at_T43 HR1.out Aa p211 q211; obtain rfl : Ao = An := (by injection e211); replace Ab := cU HB.out Ab; replace Ac := cU HB.out Ac; replace Ad := cU HB.out Ad; replace Ae := cU HB.out Ae; replace p211 := eq_true p211; replace q211 := eq_true q211; have p212 : 0 ≤ (Aa : Int) := of_decide_eq_true pS; have q212 : Aa < (l1.length : Int) := of_decide_eq_true pS; obtain ⟨Aq, e212, Ai, Aj, Ak, Al⟩ := at_T43 HR1.out Aa p212 q212; obtain rfl : Ao = Aq := (by injection e212); replace Ai := cU HB.out Ai; replace Aj := cU HB.out Aj; replace Ak := cU HB.out Ak; replace Al := cU HB.out Al; replace p212 := eq_true p212; replace q212 := eq_true q212) | (go_at_call 27; (with_reducible refine (garnerref09_Set.calls k1 _ _ Ap ((rd_T43 l1 Aa).f0) (wrap64 (t210 - ((rd_T43 l1 Aa).f2))) t213 _ ?Ag ?Ah A8.out).mono ?_); (case Ag => exact pC (Kd.V_reads' Af.out).2.2); (case Ah => exact (Kd.V_reads' Af.out).2.1); rintro e w10 ⟨v214, rfl, ho0, hb⟩; replace Af := Am (Kd.V_elder' (pV Af.out) (Kd.R_base ho0) hb); have Ar := Am (Kd.R_lower (Kd.R_newM (M := fun k_ => (w.heap.size ≤ k_)) ho0 (below_size (pB HB.out)) (fun k_ h_ => h_)) (below_size (pB HB.out))); replace HB := Am (below_step (pB HB.out) hb); (try clear hb); (try clear hb2); (try clear hk); (try clear hi); (try clear ho0))))
   go_roundg k1
   case measure => have := HK1.out; omega
   case rel => exact ⟨(t213), (wrap64 (Aa + 1)), (by first | rfl | (simp; done) | (simp [*]; done)), H', ⟨by have := HK1.out; omega⟩, ⟨Kd.V_mono (Kd.R_V (by (with_reducible repeat (first | apply Kd.R_alloc | apply Kd.R_drewN | apply Kd.R_drew)); exact Kd.R_mono Ar.out (fun _ hk => hk.1))) (fun k_ hk => by first | exact ⟨(.inr (hk.1)), hk.2⟩ | exact (.inr (hk)))⟩, ⟨pB HB.out⟩⟩
def garnerlaw09_TallySubs.j0 : Nat → List (S46) → List (S43) → List (S46) → Int → Bool → Option (Bool)
 | 0, _, _, _, _, _ => none
 | k + 1, x0, x1, x5, x6, x27 => if x27 = true then (if x6 = 1 then (if (x5.length : Int) = 0 then ((garnerlaw09_awake.f k).bind fun t224 => (some t224)) else (some false)) else (some false)) else ((garnerref09_Sub.f k x0 x1).bind fun bt225 => (if bt225.2 = true then (if x6 = 0 then ((garnerref09_Same.f k x5 bt225.1).bind fun t229 => (if t229 = true then ((garnerlaw09_awake.f k).bind fun t230 => (some t230)) else (some false))) else (some false)) else (if x6 = 3 then (if (x5.length : Int) = 0 then ((garnerlaw09_awake.f k).bind fun t231 => (some t231)) else (some false)) else (some false))))
def garnerlaw09_TallySubs.f (k : Nat) (l0 : List (S46)) (l1 : List (S43)) : Option (Bool) := (garnerlaw09_light.f l0 l1).bind fun t216 => (if t216 = true then ((tally_Sub.f k l0 l1).bind fun bt218 => ((garnerref09_May.f k l0).bind fun t222 => (if t222 = true then ((garnerref09_Points.f k l1).bind fun t223 => (garnerlaw09_TallySubs.j0 k l0 l1 bt218.1 bt218.2 (!t223))) else (garnerlaw09_TallySubs.j0 k l0 l1 bt218.1 bt218.2 true)))) else ((garnerlaw09_awake.f k).bind fun t217 => (some t217)))
theorem garnerlaw09_TallySubs.mono_l : ∀ k, (∀ y0 y1 y2 y3 y4, LeO (garnerlaw09_TallySubs.j0 k y0 y1 y2 y3 y4) (garnerlaw09_TallySubs.j0 (k + 1) y0 y1 y2 y3 y4))
 | 0 => fun _ _ _ _ _ r h => by simp [garnerlaw09_TallySubs.j0] at h
 | k + 1 => by
  have ih0 := garnerlaw09_TallySubs.mono_l k
  ·intro y0 y1 y2 y3 y4
   unfold garnerlaw09_TallySubs.j0
   repeat' first
   | (with_reducible exact ih0 _ _ _ _ _)
   | (with_reducible exact garnerlaw09_awake.mono _)
   | (with_reducible exact garnerref09_May.mono _ _)
   | (with_reducible exact garnerref09_Points.mono _ _)
   | (with_reducible exact garnerref09_Same.mono _ _ _)
   | (with_reducible exact garnerref09_Sub.mono _ _ _)
   | (with_reducible exact tally_Sub.mono _ _ _)
   | (with_reducible exact LeO.refl _)
   | (with_reducible exact LeO.none _)
   | (with_reducible refine LeO.ite ?_ ?_)
   | (with_reducible refine LeO.bind ?_ (fun _ => ?_))
   | exact ih0 _ _ _ _ _
   | exact garnerlaw09_awake.mono _
   | exact garnerref09_May.mono _ _
   | exact garnerref09_Points.mono _ _
   | exact garnerref09_Same.mono _ _ _
   | exact garnerref09_Sub.mono _ _ _
   | exact tally_Sub.mono _ _ _
   | exact LeO.none _
   | refine LeO.ite ?_ ?_
   | refine LeO.bind ?_ (fun _ => ?_)
theorem garnerlaw09_TallySubs.mono : ∀ a0 a1 k, LeO (garnerlaw09_TallySubs.f k a0 a1) (garnerlaw09_TallySubs.f (k + 1) a0 a1) := by
 intro a0 a1 k
 have ih0 := garnerlaw09_TallySubs.mono_l k
 unfold garnerlaw09_TallySubs.f
 repeat' first
   | (with_reducible exact ih0 _ _ _ _ _)
   | (with_reducible exact garnerlaw09_awake.mono _)
   | (with_reducible exact garnerref09_May.mono _ _)
   | (with_reducible exact garnerref09_Points.mono _ _)
   | (with_reducible exact garnerref09_Same.mono _ _ _)
   | (with_reducible exact garnerref09_Sub.mono _ _ _)
   | (with_reducible exact tally_Sub.mono _ _ _)
   | (with_reducible exact LeO.refl _)
   | (with_reducible exact LeO.none _)
   | (with_reducible refine LeO.ite ?_ ?_)
   | (with_reducible refine LeO.bind ?_ (fun _ => ?_))
   | exact ih0 _ _ _ _ _
   | exact garnerlaw09_awake.mono _
   | exact garnerref09_May.mono _ _
   | exact garnerref09_Points.mono _ _
   | exact garnerref09_Same.mono _ _ _
   | exact garnerref09_Sub.mono _ _ _
   | exact tally_Sub.mono _ _ _
   | exact LeO.none _
   | refine LeO.ite ?_ ?_
   | refine LeO.bind ?_ (fun _ => ?_)
set_option maxHeartbeats 8000000 in
set_option maxRecDepth 100000 in
theorem garnerlaw09_TallySubs.calls (k : Nat) (A0 : Option Addr) (c0 : Nat) (l0 : List (S46)) (A1 : Option Addr) (c1 : Nat) (l1 : List (S43)) (r : Bool) (w : World) (hr0 : Kd.C k46 w A0 l0.length l0) (hc0 : l0.length ≤ c0) (hr1 : Kd.C k43 w A1 l1.length l1) (hc1 : l1.length ≤ c1) (h : garnerlaw09_TallySubs.f k l0 l1 = some r) :
  Calls Try.prog 5 #[.slice A0 l0.length c0, .slice A1 l1.length c1] w fun e w' => e = .returned (.bool r) ∧ Below w.heap.size w w' := by
 have HR0 := Am hr0
 have HC0 := Am hc0
 clear hr0 hc0
 have HR1 := Am hr1
 have HC1 := Am hc1
 clear hr1 hc1
 have HB := Am (Below.refl w.heap.size w)
 have H : ((garnerlaw09_light.f l0 l1).bind fun t216 => (if t216 = true then ((tally_Sub.f k l0 l1).bind fun bt218 => ((garnerref09_May.f k l0).bind fun t222 => (if t222 = true then ((garnerref09_Points.f k l1).bind fun t223 => (garnerlaw09_TallySubs.j0 k l0 l1 bt218.1 bt218.2 (!t223))) else (garnerlaw09_TallySubs.j0 k l0 l1 bt218.1 bt218.2 true)))) else ((garnerlaw09_awake.f k).bind fun t217 => (some t217)))) = some r := h
 clear h
 replace H := Option.bind_eq_some_iff.mp H
 obtain ⟨t216, A30, H⟩ := H
 replace H : (if t216 = true then ((tally_Sub.f k l0 l1).bind fun bt218 => ((garnerref09_May.f k l0).bind fun t222 => (if t222 = true then ((garnerref09_Points.f k l1).bind fun t223 => (garnerlaw09_TallySubs.j0 k l0 l1 bt218.1 bt218.2 (!t223))) else (garnerlaw09_TallySubs.j0 k l0 l1 bt218.1 bt218.2 true)))) else ((garnerlaw09_awake.f k).bind fun t217 => (some t217))) = some r := H
 have A3 := Am A30
 clear A30
 by_cases c4 : t216 = true
 rotate_left
 ·replace c4 := Bool.eq_false_iff.mpr c4
  subst c4
  have H1 : ((garnerlaw09_awake.f k).bind fun t217 => (some t217)) = some r := by rw [if_neg (show ¬ (false = true) by decide)] at H; exact H
  clear H
  have H := H1
  clear H1
  replace H := Option.bind_eq_some_iff.mp H
  obtain ⟨t217, A420, H⟩ := H
  replace H : (some t217) = some r := H
  have A42 := Am A420
  clear A420
  obtain rfl := Option.some.inj H
  go_enter Try.func5, Try.ntmps5
  go_wp2_with (first | ((with_reducible refine gate_callee (f := 7) rfl ?_); refine goesL_ (some 11) rfl rfl Try.func7 (by kernel_rfl) rfl #[.slice A0 l0.length c0, .slice A1 l1.length c1] rfl pL ?_; (with_reducible refine (garnerlaw09_light.calls _ _ l0 _ _ l1 false _ ?Aa ?Ab ?Ad ?Af A3.out).mono ?_); (case Aa => repeat (first | exact HR0.out | (with_reducible refine Kd.C_alloc ?_ _) | (with_reducible refine Kd.C_drewN ?_ _) | (with_reducible refine Kd.C_drew ?_))); (case Ab => exact HC0.out); (case Ad => repeat (first | exact HR1.out | (with_reducible refine Kd.C_alloc ?_ _) | (with_reducible refine Kd.C_drewN ?_ _) | (with_reducible refine Kd.C_drew ?_))); (case Af => exact HC1.out); rintro e w' ⟨rfl, ⟨nd, rfl⟩⟩; refine ⟨_, rfl, ?_⟩) | ((with_reducible refine gate_callee (f := 8) rfl ?_); refine goesL_ (some 13) rfl rfl Try.func8 (by kernel_rfl) rfl #[] rfl pL ?_; (with_reducible refine (garnerlaw09_awake.calls k  t217 _ A42.out).mono ?_); rintro e w43 ⟨rfl, hb⟩; refine ⟨_, rfl, ?_⟩; replace HB := Am (below_step (pB HB.out) hb); (try clear hb); (try clear hb2); (try clear hk); (try clear hi)))
  go_ret
  exact ⟨pX, pB HB.out⟩
 subst c4
 have H1 : ((tally_Sub.f k l0 l1).bind fun bt218 => ((garnerref09_May.f k l0).bind fun t222 => (if t222 = true then ((garnerref09_Points.f k l1).bind fun t223 => (garnerlaw09_TallySubs.j0 k l0 l1 bt218.1 bt218.2 (!t223))) else (garnerlaw09_TallySubs.j0 k l0 l1 bt218.1 bt218.2 true)))) = some r := by rw [if_pos rfl] at H; exact H
 clear H
 have H := H1
 clear H1
 replace H := Option.bind_eq_some_iff.mp H
 obtain ⟨⟨t218, t219⟩, A50, H⟩ := H
 replace H : ((garnerref09_May.f k l0).bind fun t222 => (if t222 = true then ((garnerref09_Points.f k l1).bind fun t223 => (garnerlaw09_TallySubs.j0 k l0 l1 t218 t219 (!t223))) else (garnerlaw09_TallySubs.j0 k l0 l1 t218 t219 true))) = some r := H
 have A5 := Am A50
 clear A50
 have HC6 := Am H
 clear H
 go_enter Try.func5, Try.ntmps5
 go_upto_region 4 with (first | ((with_reducible refine gate_callee (f := 7) rfl ?_); refine goesL_ (some 11) rfl rfl Try.func7 (by kernel_rfl) rfl #[.slice A0 l0.length c0, .slice A1 l1.length c1] rfl pL ?_; (with_reducible refine (garnerlaw09_light.calls _ _ l0 _ _ l1 true _ ?Aa ?Ab ?Ad ?Af A3.out).mono ?_); (case Aa => repeat (first | exact HR0.out | (with_reducible refine Kd.C_alloc ?_ _) | (with_reducible refine Kd.C_drewN ?_ _) | (with_reducible refine Kd.C_drew ?_))); (case Ab => exact HC0.out); (case Ad => repeat (first | exact HR1.out | (with_reducible refine Kd.C_alloc ?_ _) | (with_reducible refine Kd.C_drewN ?_ _) | (with_reducible refine Kd.C_drew ?_))); (case Af => exact HC1.out); rintro e w' ⟨rfl, ⟨nd, rfl⟩⟩; refine ⟨_, rfl, ?_⟩) | ((with_reducible refine gate_callee (f := 19) rfl ?_); refine goesL_ (some 17) rfl rfl Try.func19 (by kernel_rfl) rfl #[.slice A0 l0.length c0, .slice A1 l1.length c1] rfl pL ?_; (with_reducible refine (tally_Sub.calls k _ _ l0 _ _ l1 t218 t219 _ ?Aa ?Ab ?Ad ?Af A5.out).mono ?_); (case Aa => repeat (first | exact HR0.out | (with_reducible refine Kd.C_alloc ?_ _) | (with_reducible refine Kd.C_drewN ?_ _) | (with_reducible refine Kd.C_drew ?_))); (case Ab => exact HC0.out); (case Ad => repeat (first | exact HR1.out | (with_reducible refine Kd.C_alloc ?_ _) | (with_reducible refine Kd.C_drewN ?_ _) | (with_reducible refine Kd.C_drew ?_))); (case Af => exact HC1.out); rintro e w7 ⟨v220, rfl, ho0, hb⟩; refine ⟨_, rfl, ?_⟩; have Ag := Am (Kd.R_lower ho0 (below_size (pB HB.out))); replace HB := Am (below_step (pB HB.out) hb); (try clear hb); (try clear hb2); (try clear hk); (try clear hi); (try clear ho0)))
 (try simp only [Act.put, List.setIfInBounds_toArray, List.set_cons_zero, List.set_cons_succ])
 go_cut [27] (fun v27 wc => ∃ (kq : Nat) (Ah : Bool), v27 = .bool Ah ∧ Aside0 (garnerlaw09_TallySubs.j0 kq l0 l1 t218 t219 Ah = some r) ∧ Aside0 (kq ≤ k) ∧ Aside0 (Kd.R k46 46 wc w.heap.size (fun _ => True) v220 t218) ∧ Aside0 (Below w.heap.size w wc))
 case first =>
  have H := HC6.out
  clear HC6
  replace H := Option.bind_eq_some_iff.mp H
  obtain ⟨t222, A80, H⟩ := H
  replace H : (if t222 = true then ((garnerref09_Points.f k l1).bind fun t223 => (garnerlaw09_TallySubs.j0 k l0 l1 t218 t219 (!t223))) else (garnerlaw09_TallySubs.j0 k l0 l1 t218 t219 true)) = some r := H
  have A8 := Am A80
  clear A80
  by_cases c9 : t222 = true
  rotate_left
  ·replace c9 := Bool.eq_false_iff.mpr c9
   subst c9
   have H1 : (garnerlaw09_TallySubs.j0 k l0 l1 t218 t219 true) = some r := by rw [if_neg (show ¬ (false = true) by decide)] at H; exact H
   clear H
   have H := H1
   clear H1
   have H' := Am H
   clear H
   go_wp2_with (first | ((with_reducible refine gate_callee (f := 10) rfl ?_); refine goesL_ (some 21) rfl rfl Try.func10 (by kernel_rfl) rfl #[.slice A0 l0.length c0] rfl pL ?_; (with_reducible refine (garnerref09_May.calls k _ _ l0 false _ ?Aa ?Ab A8.out).mono ?_); (case Aa => exact pC (Kd.C_below HR0.out HB.out)); (case Ab => exact HC0.out); rintro e w' ⟨rfl, ⟨nd, rfl⟩⟩; refine ⟨_, rfl, ?_⟩))
   go_meet
   case rel => exact ⟨_, (true), (by first | rfl | (simp; done) | (simp [*]; done)), H', ⟨by first | omega | exact Nat.le_refl _⟩, ⟨by (with_reducible repeat (first | apply Kd.R_alloc | apply Kd.R_drewN | apply Kd.R_drew)); exact Ag.out⟩, ⟨pB HB.out⟩⟩
  subst c9
  have H1 : ((garnerref09_Points.f k l1).bind fun t223 => (garnerlaw09_TallySubs.j0 k l0 l1 t218 t219 (!t223))) = some r := by rw [if_pos rfl] at H; exact H
  clear H
  have H := H1
  clear H1
  replace H := Option.bind_eq_some_iff.mp H
  obtain ⟨t223, A100, H⟩ := H
  replace H : (garnerlaw09_TallySubs.j0 k l0 l1 t218 t219 (!t223)) = some r := H
  have A10 := Am A100
  clear A100
  have H' := Am H
  clear H
  go_wp2_with (first | ((with_reducible refine gate_callee (f := 10) rfl ?_); refine goesL_ (some 21) rfl rfl Try.func10 (by kernel_rfl) rfl #[.slice A0 l0.length c0] rfl pL ?_; (with_reducible refine (garnerref09_May.calls k _ _ l0 true _ ?Aa ?Ab A8.out).mono ?_); (case Aa => exact pC (Kd.C_below HR0.out HB.out)); (case Ab => exact HC0.out); rintro e w' ⟨rfl, ⟨nd, rfl⟩⟩; refine ⟨_, rfl, ?_⟩) | (go_at_call 11; (with_reducible refine (garnerref09_Points.calls k _ _ l1 t223 _ ?Aa ?Ab A10.out).mono ?_); (case Aa => repeat (first | exact (Kd.C_below HR1.out (pB HB.out)) | (with_reducible refine Kd.C_alloc ?_ _) | (with_reducible refine Kd.C_drewN ?_ _) | (with_reducible refine Kd.C_drew ?_))); (case Ab => exact HC1.out); rintro e w11 ⟨rfl, hb⟩; replace Ag := bRa Ag hb; replace HB := Am (below_step (pB HB.out) hb); (try clear hb); (try clear hb2); (try clear hk); (try clear hi)))
  go_meet
  case rel => exact ⟨_, (!t223), (by first | rfl | (simp; done) | (simp [*]; done)), H', ⟨by first | omega | exact Nat.le_refl _⟩, ⟨by (with_reducible repeat (first | apply Kd.R_alloc | apply Kd.R_drewN | apply Kd.R_drew)); exact Ag.out⟩, ⟨pB HB.out⟩⟩
 case rest =>
  clear HC6
  try clear c1
  try clear p2
  try clear c4
  try clear c5
  try clear c7
  try clear c9
  try clear c10
  obtain ⟨kq, Ah, rfl, HA, HJ5, Ac, HB⟩ := hcut
  cases kq with
  | zero => exact absurd HA.out (by simp [garnerlaw09_TallySubs.j0])
  | succ kj5 =>
   have H := HA.out
   clear HA
   simp only [garnerlaw09_TallySubs.j0] at H
   by_cases c12 : Ah = true
   ·subst c12
    have H1 : (if t219 = 1 then (if (t218.length : Int) = 0 then ((garnerlaw09_awake.f kj5).bind fun t224 => (some t224)) else (some false)) else (some false)) = some r := by rw [if_pos rfl] at H; exact H
    clear H
    have H := H1
    clear H1
    by_cases c13 : t219 = 1
    rotate_left
    ·rw [if_neg c13] at H
     have c13b0 : (t219 == 1) = false := beq_eq_false_iff_ne.mpr c13
     have c13b1 : (t219 != 1) = true := bne_iff_ne.mpr c13
     obtain rfl := Option.some.inj H
     go_wp2
     go_ret
     exact ⟨pX, pB HB.out⟩
    rw [if_pos c13] at H
    have c13b0 : (t219 == 1) = true := beq_iff_eq.mpr c13
    have c13b1 : (t219 != 1) = false := bne_eq_false_iff_eq.mpr c13
    clear c13
    by_cases c14 : (t218.length : Int) = 0
    rotate_left
    ·rw [if_neg c14] at H
     have c14b0 : ((t218.length : Int) == 0) = false := beq_eq_false_iff_ne.mpr c14
     have c14b1 : ((t218.length : Int) != 0) = true := bne_iff_ne.mpr c14
     have c14b2 : ¬ (t218 = []) := fun h_ => c14 (by rw [h_]; rfl)
     obtain rfl := Option.some.inj H
     obtain ⟨Ao18, co18, Aj⟩ := Kd.R_slice Ac.out
     subst Aj
     go_wp2
     go_ret
     exact ⟨pX, pB HB.out⟩
    rw [if_pos c14] at H
    have c14b0 : ((t218.length : Int) == 0) = true := beq_iff_eq.mpr c14
    have c14b1 : ((t218.length : Int) != 0) = false := bne_eq_false_iff_eq.mpr c14
    clear c14
    replace H := Option.bind_eq_some_iff.mp H
    obtain ⟨t224, A150, H⟩ := H
    replace H : (some t224) = some r := H
    have A15 := Am A150
    clear A150
    obtain rfl := Option.some.inj H
    obtain ⟨Ao16, co16, Ai⟩ := Kd.R_slice Ac.out
    subst Ai
    go_wp2_with (first | (go_at_call 8; (with_reducible refine (garnerlaw09_awake.calls kj5  t224 _ A15.out).mono ?_); rintro e w17 ⟨rfl, hb⟩; replace Ac := bRa Ac hb; replace HB := Am (below_step (pB HB.out) hb); (try clear hb); (try clear hb2); (try clear hk); (try clear hi)))
    go_ret
    exact ⟨pX, pB HB.out⟩
   replace c12 := Bool.eq_false_iff.mpr c12
   subst c12
   have H1 : ((garnerref09_Sub.f kj5 l0 l1).bind fun bt225 => (if bt225.2 = true then (if t219 = 0 then ((garnerref09_Same.f kj5 t218 bt225.1).bind fun t229 => (if t229 = true then ((garnerlaw09_awake.f kj5).bind fun t230 => (some t230)) else (some false))) else (some false)) else (if t219 = 3 then (if (t218.length : Int) = 0 then ((garnerlaw09_awake.f kj5).bind fun t231 => (some t231)) else (some false)) else (some false)))) = some r := by rw [if_neg (show ¬ (false = true) by decide)] at H; exact H
   clear H
   have H := H1
   clear H1
   replace H := Option.bind_eq_some_iff.mp H
   obtain ⟨⟨t225, t228⟩, A190, H⟩ := H
   replace H : (if t228 = true then (if t219 = 0 then ((garnerref09_Same.f kj5 t218 t225).bind fun t229 => (if t229 = true then ((garnerlaw09_awake.f kj5).bind fun t230 => (some t230)) else (some false))) else (some false)) else (if t219 = 3 then (if (t218.length : Int) = 0 then ((garnerlaw09_awake.f kj5).bind fun t231 => (some t231)) else (some false)) else (some false))) = some r := H
   have A19 := Am A190
   clear A190
   by_cases c20 : t228 = true
   rotate_left
   ·replace c20 := Bool.eq_false_iff.mpr c20
    subst c20
    have H1 : (if t219 = 3 then (if (t218.length : Int) = 0 then ((garnerlaw09_awake.f kj5).bind fun t231 => (some t231)) else (some false)) else (some false)) = some r := by rw [if_neg (show ¬ (false = true) by decide)] at H; exact H
    clear H
    have H := H1
    clear H1
    by_cases c33 : t219 = 3
    rotate_left
    ·rw [if_neg c33] at H
     have c33b0 : (t219 == 3) = false := beq_eq_false_iff_ne.mpr c33
     have c33b1 : (t219 != 3) = true := bne_iff_ne.mpr c33
     obtain rfl := Option.some.inj H
     go_wp2_with (first | ((with_reducible refine gate_callee (f := 20) rfl ?_); refine goesL_ (some 41) rfl rfl Try.func20 (by kernel_rfl) rfl #[.slice A0 l0.length c0, .slice A1 l1.length c1] rfl pL ?_; (with_reducible refine (garnerref09_Sub.calls kj5 (fun k_ => k_ < w.heap.size) _ _ l0 _ _ l1 t225 false _ ?Aa ?Ab ?Ad A19.out).mono ?_); (case Aa => exact Kd.V_mk HC0.out (Kd.F_below (Kd.C_F k46_heap HR0.out) (pB HB.out))); (case Ab => exact pC (Kd.C_below HR1.out HB.out)); (case Ad => exact HC1.out); rintro e w41 ⟨v226, rfl, ho0, hb⟩; refine ⟨_, rfl, ?_⟩; have Ae := Am (Kd.V_lower (Kd.V_mono (ok' := fun k_ => some k_ ≠ (v220 : Value).ownBlock) ho0 (fun k_ hk_ => Or.elim hk_ (fun hs_ => fun e_ => Nat.not_le.2 hs_ (Kd.R_base Ac.out k_ e_.symm)) (fun hn_ => (Kd.fresh' (Kd.R_lt (pR Ac.out)) k_ hn_)))) (below_size (pB HB.out))); replace Ac := bRa Ac hb; replace HB := Am (below_step (pB HB.out) hb); (try clear hb); (try clear hb2); (try clear hk); (try clear hi); (try clear ho0)))
     go_ret
     exact ⟨pX, pB HB.out⟩
    rw [if_pos c33] at H
    have c33b0 : (t219 == 3) = true := beq_iff_eq.mpr c33
    have c33b1 : (t219 != 3) = false := bne_eq_false_iff_eq.mpr c33
    clear c33
    by_cases c34 : (t218.length : Int) = 0
    rotate_left
    ·rw [if_neg c34] at H
     have c34b0 : ((t218.length : Int) == 0) = false := beq_eq_false_iff_ne.mpr c34
     have c34b1 : ((t218.length : Int) != 0) = true := bne_iff_ne.mpr c34
     have c34b2 : ¬ (t218 = []) := fun h_ => c34 (by rw [h_]; rfl)
     obtain rfl := Option.some.inj H
     go_wp2_with (first | ((with_reducible refine gate_callee (f := 20) rfl ?_); refine goesL_ (some 41) rfl rfl Try.func20 (by kernel_rfl) rfl #[.slice A0 l0.length c0, .slice A1 l1.length c1] rfl pL ?_; (with_reducible refine (garnerref09_Sub.calls kj5 (fun k_ => k_ < w.heap.size) _ _ l0 _ _ l1 t225 false _ ?Aa ?Ab ?Ad A19.out).mono ?_); (case Aa => exact Kd.V_mk HC0.out (Kd.F_below (Kd.C_F k46_heap HR0.out) (pB HB.out))); (case Ab => exact pC (Kd.C_below HR1.out HB.out)); (case Ad => exact HC1.out); rintro e w39 ⟨v226, rfl, ho0, hb⟩; refine ⟨_, rfl, ?_⟩; have Ae := Am (Kd.V_lower (Kd.V_mono (ok' := fun k_ => some k_ ≠ (v220 : Value).ownBlock) ho0 (fun k_ hk_ => Or.elim hk_ (fun hs_ => fun e_ => Nat.not_le.2 hs_ (Kd.R_base Ac.out k_ e_.symm)) (fun hn_ => (Kd.fresh' (Kd.R_lt (pR Ac.out)) k_ hn_)))) (below_size (pB HB.out))); replace Ac := bRa Ac hb; replace HB := Am (below_step (pB HB.out) hb); (try clear hb); (try clear hb2); (try clear hk); (try clear hi); (try clear ho0); obtain ⟨Ao40, co40, Aq⟩ := Kd.R_slice Ac.out; subst Aq))
     go_ret
     exact ⟨pX, pB HB.out⟩
    rw [if_pos c34] at H
    have c34b0 : ((t218.length : Int) == 0) = true := beq_iff_eq.mpr c34
    have c34b1 : ((t218.length : Int) != 0) = false := bne_eq_false_iff_eq.mpr c34
    clear c34
    replace H := Option.bind_eq_some_iff.mp H
    obtain ⟨t231, A350, H⟩ := H
    replace H : (some t231) = some r := H
    have A35 := Am A350
    clear A350
    obtain rfl := Option.some.inj H
    go_wp2_with (first | ((with_reducible refine gate_callee (f := 20) rfl ?_); refine goesL_ (some 41) rfl rfl Try.func20 (by kernel_rfl) rfl #[.slice A0 l0.length c0, .slice A1 l1.length c1] rfl pL ?_; (with_reducible refine (garnerref09_Sub.calls kj5 (fun k_ => k_ < w.heap.size) _ _ l0 _ _ l1 t225 false _ ?Aa ?Ab ?Ad A19.out).mono ?_); (case Aa => exact Kd.V_mk HC0.out (Kd.F_below (Kd.C_F k46_heap HR0.out) (pB HB.out))); (case Ab => exact pC (Kd.C_below HR1.out HB.out)); (case Ad => exact HC1.out); rintro e w36 ⟨v226, rfl, ho0, hb⟩; refine ⟨_, rfl, ?_⟩; have Ae := Am (Kd.V_lower (Kd.V_mono (ok' := fun k_ => some k_ ≠ (v220 : Value).ownBlock) ho0 (fun k_ hk_ => Or.elim hk_ (fun hs_ => fun e_ => Nat.not_le.2 hs_ (Kd.R_base Ac.out k_ e_.symm)) (fun hn_ => (Kd.fresh' (Kd.R_lt (pR Ac.out)) k_ hn_)))) (below_size (pB HB.out))); replace Ac := bRa Ac hb; replace HB := Am (below_step (pB HB.out) hb); (try clear hb); (try clear hb2); (try clear hk); (try clear hi); (try clear ho0); obtain ⟨Ao37, co37, Ap⟩ := Kd.R_slice Ac.out; subst Ap) | (go_at_call 8; (with_reducible refine (garnerlaw09_awake.calls kj5  t231 _ A35.out).mono ?_); rintro e w38 ⟨rfl, hb⟩; replace Ac := bRa Ac hb; replace Ae := bVa Ae hb; replace HB := Am (below_step (pB HB.out) hb); (try clear hb); (try clear hb2); (try clear hk); (try clear hi)))
    go_ret
    exact ⟨pX, pB HB.out⟩
   subst c20
   have H1 : (if t219 = 0 then ((garnerref09_Same.f kj5 t218 t225).bind fun t229 => (if t229 = true then ((garnerlaw09_awake.f kj5).bind fun t230 => (some t230)) else (some false))) else (some false)) = some r := by rw [if_pos rfl] at H; exact H
   clear H
   have H := H1
   clear H1
   by_cases c21 : t219 = 0
   rotate_left
   ·rw [if_neg c21] at H
    have c21b0 : (t219 == 0) = false := beq_eq_false_iff_ne.mpr c21
    have c21b1 : (t219 != 0) = true := bne_iff_ne.mpr c21
    obtain rfl := Option.some.inj H
    go_wp2_with (first | ((with_reducible refine gate_callee (f := 20) rfl ?_); refine goesL_ (some 41) rfl rfl Try.func20 (by kernel_rfl) rfl #[.slice A0 l0.length c0, .slice A1 l1.length c1] rfl pL ?_; (with_reducible refine (garnerref09_Sub.calls kj5 (fun k_ => k_ < w.heap.size) _ _ l0 _ _ l1 t225 true _ ?Aa ?Ab ?Ad A19.out).mono ?_); (case Aa => exact Kd.V_mk HC0.out (Kd.F_below (Kd.C_F k46_heap HR0.out) (pB HB.out))); (case Ab => exact pC (Kd.C_below HR1.out HB.out)); (case Ad => exact HC1.out); rintro e w32 ⟨v226, rfl, ho0, hb⟩; refine ⟨_, rfl, ?_⟩; have Ae := Am (Kd.V_lower (Kd.V_mono (ok' := fun k_ => some k_ ≠ (v220 : Value).ownBlock) ho0 (fun k_ hk_ => Or.elim hk_ (fun hs_ => fun e_ => Nat.not_le.2 hs_ (Kd.R_base Ac.out k_ e_.symm)) (fun hn_ => (Kd.fresh' (Kd.R_lt (pR Ac.out)) k_ hn_)))) (below_size (pB HB.out))); replace Ac := bRa Ac hb; replace HB := Am (below_step (pB HB.out) hb); (try clear hb); (try clear hb2); (try clear hk); (try clear hi); (try clear ho0)))
    go_ret
    exact ⟨pX, pB HB.out⟩
   rw [if_pos c21] at H
   have c21b0 : (t219 == 0) = true := beq_iff_eq.mpr c21
   have c21b1 : (t219 != 0) = false := bne_eq_false_iff_eq.mpr c21
   clear c21
   replace H := Option.bind_eq_some_iff.mp H
   obtain ⟨t229, A220, H⟩ := H
   replace H : (if t229 = true then ((garnerlaw09_awake.f kj5).bind fun t230 => (some t230)) else (some false)) = some r := H
   have A22 := Am A220
   clear A220
   by_cases c23 : t229 = true
   rotate_left
   ·replace c23 := Bool.eq_false_iff.mpr c23
    subst c23
    have H1 : (some false) = some r := by rw [if_neg (show ¬ (false = true) by decide)] at H; exact H
    clear H
    have H := H1
    clear H1
    obtain rfl := Option.some.inj H
    go_wp2_with (first | ((with_reducible refine gate_callee (f := 20) rfl ?_); refine goesL_ (some 41) rfl rfl Try.func20 (by kernel_rfl) rfl #[.slice A0 l0.length c0, .slice A1 l1.length c1] rfl pL ?_; (with_reducible refine (garnerref09_Sub.calls kj5 (fun k_ => k_ < w.heap.size) _ _ l0 _ _ l1 t225 true _ ?Aa ?Ab ?Ad A19.out).mono ?_); (case Aa => exact Kd.V_mk HC0.out (Kd.F_below (Kd.C_F k46_heap HR0.out) (pB HB.out))); (case Ab => exact pC (Kd.C_below HR1.out HB.out)); (case Ad => exact HC1.out); rintro e w29 ⟨v226, rfl, ho0, hb⟩; refine ⟨_, rfl, ?_⟩; have Ae := Am (Kd.V_lower (Kd.V_mono (ok' := fun k_ => some k_ ≠ (v220 : Value).ownBlock) ho0 (fun k_ hk_ => Or.elim hk_ (fun hs_ => fun e_ => Nat.not_le.2 hs_ (Kd.R_base Ac.out k_ e_.symm)) (fun hn_ => (Kd.fresh' (Kd.R_lt (pR Ac.out)) k_ hn_)))) (below_size (pB HB.out))); replace Ac := bRa Ac hb; replace HB := Am (below_step (pB HB.out) hb); (try clear hb); (try clear hb2); (try clear hk); (try clear hi); (try clear ho0); obtain ⟨Ao30, co30, An⟩ := Kd.R_slice Ac.out; subst An; obtain ⟨Ao31, co31, Ao⟩ := Kd.V_slice Ae.out; subst Ao) | (go_at_call 16; (with_reducible refine (garnerref09_Same.calls kj5 _ _ t218 _ _ t225 false _ ?Aa ?Ab ?Ad ?Af A22.out).mono ?_); (case Aa => exact pC (Kd.R_reads' Ac.out).2.2); (case Ab => exact (Kd.R_reads' Ac.out).2.1); (case Ad => exact pC (Kd.V_reads' Ae.out).2.2); (case Af => exact (Kd.V_reads' Ae.out).2.1); rintro e w' ⟨rfl, ⟨nd, rfl⟩⟩))
    go_ret
    exact ⟨pX, pB HB.out⟩
   subst c23
   have H1 : ((garnerlaw09_awake.f kj5).bind fun t230 => (some t230)) = some r := by rw [if_pos rfl] at H; exact H
   clear H
   have H := H1
   clear H1
   replace H := Option.bind_eq_some_iff.mp H
   obtain ⟨t230, A240, H⟩ := H
   replace H : (some t230) = some r := H
   have A24 := Am A240
   clear A240
   obtain rfl := Option.some.inj H
   go_wp2_with (first | ((with_reducible refine gate_callee (f := 20) rfl ?_); refine goesL_ (some 41) rfl rfl Try.func20 (by kernel_rfl) rfl #[.slice A0 l0.length c0, .slice A1 l1.length c1] rfl pL ?_; (with_reducible refine (garnerref09_Sub.calls kj5 (fun k_ => k_ < w.heap.size) _ _ l0 _ _ l1 t225 true _ ?Aa ?Ab ?Ad A19.out).mono ?_); (case Aa => exact Kd.V_mk HC0.out (Kd.F_below (Kd.C_F k46_heap HR0.out) (pB HB.out))); (case Ab => exact pC (Kd.C_below HR1.out HB.out)); (case Ad => exact HC1.out); rintro e w25 ⟨v226, rfl, ho0, hb⟩; refine ⟨_, rfl, ?_⟩; have Ae := Am (Kd.V_lower (Kd.V_mono (ok' := fun k_ => some k_ ≠ (v220 : Value).ownBlock) ho0 (fun k_ hk_ => Or.elim hk_ (fun hs_ => fun e_ => Nat.not_le.2 hs_ (Kd.R_base Ac.out k_ e_.symm)) (fun hn_ => (Kd.fresh' (Kd.R_lt (pR Ac.out)) k_ hn_)))) (below_size (pB HB.out))); replace Ac := bRa Ac hb; replace HB := Am (below_step (pB HB.out) hb); (try clear hb); (try clear hb2); (try clear hk); (try clear hi); (try clear ho0); obtain ⟨Ao26, co26, Ak⟩ := Kd.R_slice Ac.out; subst Ak; obtain ⟨Ao27, co27, Al⟩ := Kd.V_slice Ae.out; subst Al) | (go_at_call 16; (with_reducible refine (garnerref09_Same.calls kj5 _ _ t218 _ _ t225 true _ ?Aa ?Ab ?Ad ?Af A22.out).mono ?_); (case Aa => exact pC (Kd.R_reads' Ac.out).2.2); (case Ab => exact (Kd.R_reads' Ac.out).2.1); (case Ad => exact pC (Kd.V_reads' Ae.out).2.2); (case Af => exact (Kd.V_reads' Ae.out).2.1); rintro e w' ⟨rfl, ⟨nd, rfl⟩⟩) | (go_at_call 8; (with_reducible refine (garnerlaw09_awake.calls kj5  t230 _ A24.out).mono ?_); rintro e w28 ⟨rfl, hb⟩; replace Ac := bRa Ac hb; replace Ae := bVa Ae hb; replace HB := Am (below_step (pB HB.out) hb); (try clear hb); (try clear hb2); (try clear hk); (try clear hi)))
   go_ret
   exact ⟨pX, pB HB.out⟩
end Go.Proofs.Ytkapmlijeilieaa.PTallySubs
