/- What the law reaches, as plain Lean functions, and that the machine's calls answer just that. -/
import Derived.Test.YtkapmlijeilieaaPTallyAddsx0
import Derived.Test.YtkapmlijeilieaaPTallyAddsx1
import Derived.Test.YtkapmlijeilieaaPTallyAddsx4
namespace Go.Proofs.Ytkapmlijeilieaa.PTallyAdds
open Go.RowKit Go.Proofs.YtkapmlijeilieaaW.PrintWords Go.Proofs.YtkapmlijeilieaaW.PrintLast Go.Proofs.YtkapmlijeilieaaW.PrintMore
attribute [local go_sem] max2_int min2_int max_two min_two max_three min_three max_four min_four
set_option linter.unusedVariables false
set_option linter.unusedSimpArgs false
attribute [local go_sem] wrap64_l1 wrap64_l2 wrap64_l3 wrap64_l4 wrap64_l5
attribute [local go_sem high] eqA46
mutual
def garnerref09_Set.l0 : Nat → List (S46) → Int → Int → List (S46) → Bool → Int → Option ((List (S46)))
 | 0, _, _, _, _, _, _ => none
 | k + 1, x0, x1, x2, x7, x8, x9 => if x9 < (x0.length : Int) then (if x8 = true then (garnerref09_Set.j1 k x0 x1 x2 x7 x8 x9 false) else (if 0 ≤ x9 then (garnerref09_Set.j1 k x0 x1 x2 x7 x8 x9 (decide (((rd_T46 x0 x9).f0) ≥ x1))) else (none))) else (if x8 = true then (some x7) else (if x7.length < 8796093022208 then (some (x7 ++ [(⟨x1, x2⟩ : S46)])) else (none)))
def garnerref09_Set.j1 : Nat → List (S46) → Int → Int → List (S46) → Bool → Int → Bool → Option ((List (S46)))
 | 0, _, _, _, _, _, _, _ => none
 | k + 1, x0, x1, x2, x7, x8, x9, x29 => if x29 = true then (if x7.length < 8796093022208 then ((some (x7 ++ [(⟨x1, x2⟩ : S46)] : List (S46))).bind fun y179 => (if 0 ≤ x9 then (if x9 < (x0.length : Int) then (if ((rd_T46 x0 x9).f0) = x1 then (garnerref09_Set.l0 k x0 x1 x2 y179 true (wrap64 (x9 + 1))) else (if y179.length < 8796093022208 then (garnerref09_Set.l0 k x0 x1 x2 (y179 ++ [(⟨(rd_T46 x0 x9).f0, (rd_T46 x0 x9).f1⟩ : S46)]) true (wrap64 (x9 + 1))) else (none))) else (none)) else (none))) else (none)) else (if 0 ≤ x9 then (if x9 < (x0.length : Int) then (if ((rd_T46 x0 x9).f0) = x1 then (garnerref09_Set.l0 k x0 x1 x2 x7 x8 (wrap64 (x9 + 1))) else (if x7.length < 8796093022208 then (garnerref09_Set.l0 k x0 x1 x2 (x7 ++ [(⟨(rd_T46 x0 x9).f0, (rd_T46 x0 x9).f1⟩ : S46)]) x8 (wrap64 (x9 + 1))) else (none))) else (none)) else (none))
end
def garnerref09_Set.f (k : Nat) (l0 : List (S46)) (a1 : Int) (a2 : Int) : Option ((List (S46))) := garnerref09_Set.l0 k l0 a1 a2 (([] : List (S46))) (a2 == 0) 0
theorem garnerref09_Set.mono_l : ∀ k, (∀ y0 y1 y2 y3 y4 y5, LeO (garnerref09_Set.l0 k y0 y1 y2 y3 y4 y5) (garnerref09_Set.l0 (k + 1) y0 y1 y2 y3 y4 y5)) ∧ (∀ y0 y1 y2 y3 y4 y5 y6, LeO (garnerref09_Set.j1 k y0 y1 y2 y3 y4 y5 y6) (garnerref09_Set.j1 (k + 1) y0 y1 y2 y3 y4 y5 y6))
 | 0 => ⟨fun _ _ _ _ _ _ r h => by simp [garnerref09_Set.l0] at h, fun _ _ _ _ _ _ _ r h => by simp [garnerref09_Set.j1] at h⟩
 | k + 1 => by
  obtain ⟨ih0, ih1⟩ := garnerref09_Set.mono_l k
  refine ⟨?_, ?_⟩
  ·intro y0 y1 y2 y3 y4 y5
   unfold garnerref09_Set.l0
   repeat' first
   | (with_reducible exact ih0 _ _ _ _ _ _)
   | (with_reducible exact ih1 _ _ _ _ _ _ _)
   | (with_reducible exact LeO.refl _)
   | (with_reducible exact LeO.none _)
   | (with_reducible refine LeO.ite ?_ ?_)
   | (with_reducible refine LeO.bind ?_ (fun _ => ?_))
   | exact ih0 _ _ _ _ _ _
   | exact ih1 _ _ _ _ _ _ _
   | exact LeO.none _
   | refine LeO.ite ?_ ?_
   | refine LeO.bind ?_ (fun _ => ?_)
  ·intro y0 y1 y2 y3 y4 y5 y6
   unfold garnerref09_Set.j1
   repeat' first
   | (with_reducible exact ih0 _ _ _ _ _ _)
   | (with_reducible exact ih1 _ _ _ _ _ _ _)
   | (with_reducible exact LeO.refl _)
   | (with_reducible exact LeO.none _)
   | (with_reducible refine LeO.ite ?_ ?_)
   | (with_reducible refine LeO.bind ?_ (fun _ => ?_))
   | exact ih0 _ _ _ _ _ _
   | exact ih1 _ _ _ _ _ _ _
   | exact LeO.none _
   | refine LeO.ite ?_ ?_
   | refine LeO.bind ?_ (fun _ => ?_)
theorem garnerref09_Set.mono : ∀ a0 a1 a2 k, LeO (garnerref09_Set.f k a0 a1 a2) (garnerref09_Set.f (k + 1) a0 a1 a2) := by
 intro a0 a1 a2 k
 obtain ⟨ih0, ih1⟩ := garnerref09_Set.mono_l k
 unfold garnerref09_Set.f
 repeat' first
   | (with_reducible exact ih0 _ _ _ _ _ _)
   | (with_reducible exact ih1 _ _ _ _ _ _ _)
   | (with_reducible exact LeO.refl _)
   | (with_reducible exact LeO.none _)
   | (with_reducible refine LeO.ite ?_ ?_)
   | (with_reducible refine LeO.bind ?_ (fun _ => ?_))
   | exact ih0 _ _ _ _ _ _
   | exact ih1 _ _ _ _ _ _ _
   | exact LeO.none _
   | refine LeO.ite ?_ ?_
   | refine LeO.bind ?_ (fun _ => ?_)
set_option maxHeartbeats 8000000 in
set_option maxRecDepth 100000 in
theorem garnerref09_Set.calls (k : Nat) (A0 : Option Addr) (c0 : Nat) (l0 : List (S46)) (a1 : Int) (a2 : Int) (r : List (S46)) (w : World) (hr0 : Kd.C k46 w A0 l0.length l0) (hc0 : l0.length ≤ c0) (h : garnerref09_Set.f k l0 a1 a2 = some r) :
  Calls Try.prog 27 #[.slice A0 l0.length c0, .int .i64 a1, .int .i64 a2] w fun e w' => ∃ v0_ : Value, e = .returned (v0_) ∧ Kd.R k46 46 w' w.heap.size (fun _ => True) v0_ r ∧ Below w.heap.size w w' := by
 have hu46 := Try.underlying46
 have HR0 := Am hr0
 have HC0 := Am hc0
 clear hr0 hc0
 have HB := Am (Below.refl w.heap.size w)
 have H : (garnerref09_Set.l0 k l0 a1 a2 (([] : List (S46))) (a2 == 0) 0) = some r := h
 clear h
 obtain ⟨y172, hy172⟩ : ∃ y_ : List (S46), y_ = (([] : List (S46))) := ⟨_, rfl⟩
 replace H : (garnerref09_Set.l0 k l0 a1 a2 y172 (a2 == 0) 0) = some r := by first | (rw [hy172]; with_reducible exact H) | (have H2_ := (Option.bind_some _ _).symm.trans H; rw [hy172]; with_reducible exact H2_) | (have H2_ := (Option.bind_some _ _).symm.trans H; with_reducible exact H2_) | with_reducible exact H | (rw [hy172]; exact H) | exact H
 have Ny172 := Am hy172
 clear hy172
 have H' := Am H
 clear H
 go_enter Try.func27, Try.ntmps27
 go_wp2_with (first | ((with_reducible refine gate_dst (N := 10) rfl ?_); refine Kd.R_lit k46 _ 46 ?hg (N := 10) ?hd (xs := ([] : List (S46))) (inner := []) (ok := fun _ => True) (okp := fun _ => True) ?hr ?hp (fun _ hk => hk) trivial (Below.refl _ _) (Nat.le_refl _) (by simp) ?_; (case hd => rfl); (case hg => rfl); (case hr => first | (go_simp; done) | (go_simp; rfl)); (case hp => exact (Reps.none _ _)); intro v173 w4 ho5 hb hg_ hnew_; clear hg_ hnew_; (first | rw [← Ny172.out] at ho5 | (simp only [Int.reduceToNat] at ho5; rw [← Ny172.out] at ho5)); have Aq := Am (Kd.R_lower ho5 (below_size (pB HB.out))); replace HB := Am (below_step (pB HB.out) hb); clear hb ho5))
 go_loopg [7, 8, 9] k (fun kq v7 v8 v9 w' => ∃ (Ab : List (S46)) (Af : Bool) (Aa : Int), v8 = .bool Af ∧ v9 = .int .i64 Aa ∧ Aside0 (garnerref09_Set.l0 kq l0 a1 a2 Ab Af Aa = some r) ∧ Aside0 (kq ≤ k) ∧ Aside0 (Kd.R k46 46 w' w.heap.size (fun _ => True) v7 Ab) ∧ Aside0 (Below w.heap.size w w'))
 case atStart => exact ⟨(y172), ((a2 == 0)), (0), (by first | rfl | (simp; done) | (simp [*]; done)), (by first | rfl | (simp; done) | (simp [*]; done)), H', ⟨Nat.le_refl _⟩, ⟨by (with_reducible repeat (first | apply Kd.R_alloc | apply Kd.R_drewN | apply Kd.R_drew)); exact Aq.out⟩, ⟨pB HB.out⟩⟩
 case round =>
  clear H'
  try clear c2
  try clear p2
  obtain ⟨Ab, Af, Aa, rfl, rfl, HA, HK1, Ae, HB⟩ := hrel
  cases gk with
  | zero => exact absurd HA.out (by simp [garnerref09_Set.l0])
  | succ k1 =>
   have H := HA.out
   clear HA
   simp only [garnerref09_Set.l0] at H
   by_cases c6 : Aa < (l0.length : Int)
   rotate_left
   ·rw [if_neg c6] at H
    have c6b0 : decide (Aa < (l0.length : Int)) = false := decide_eq_false c6
    clear c6
    by_cases c24 : Af = true
    ·subst c24
     have H1 : (some Ab) = some r := by rw [if_pos rfl] at H; exact H
     clear H
     have H := H1
     clear H1
     obtain rfl := Option.some.inj H
     go_wp2
     go_ret
     exact ⟨_, pX, by (with_reducible repeat (first | apply Kd.R_alloc | apply Kd.R_drewN | apply Kd.R_drew)); exact Ae.out, pB HB.out⟩
    replace c24 := Bool.eq_false_iff.mpr c24
    subst c24
    have H1 : (if Ab.length < 8796093022208 then (some (Ab ++ [(⟨a1, a2⟩ : S46)])) else (none)) = some r := by rw [if_neg (show ¬ (false = true) by decide)] at H; exact H
    clear H
    have H := H1
    clear H1
    by_cases c25 : Ab.length < 8796093022208
    rotate_left
    ·rw [if_neg c25] at H
     exact absurd H (by simp)
    rw [if_pos c25] at H
    have LMc25 := Am c25
    clear c25
    obtain ⟨y175, hy175⟩ : ∃ y_ : List (S46), y_ = (Ab ++ [(⟨a1, a2⟩ : S46)]) := ⟨_, rfl⟩
    replace H : (some y175) = some r := by first | (rw [hy175]; with_reducible exact H) | (have H2_ := (Option.bind_some _ _).symm.trans H; rw [hy175]; with_reducible exact H2_) | (have H2_ := (Option.bind_some _ _).symm.trans H; with_reducible exact H2_) | with_reducible exact H | (rw [hy175]; exact H) | exact H
    have Ny175 := Am hy175
    clear hy175
    obtain rfl := Option.some.inj H
    go_wp2_with (first | ((with_reducible refine gate_builtin (b := .append) (xs := #[.tmp 52, .tmp 56]) rfl ?_); at_builtin; refine Kd.R_append k46 (w0 := w) w.heap.size rfl (.tmp 52) (.tmp 56) 22 46 (.agg #[(.int .i64 0), (.int .i64 0)]) 16 rfl Try.underlying22 info46 rfl (by decide) (by omega) u7 Ab (⟨a1, a2⟩ : S46) [.int .i64 a1, .int .i64 a2] (fun _ => True) (fun _ => False) rfl rfl ?aP (fun _ hk => hk.elim) ?aF ?aO ?aB ?aS ?aL ?_; (case aP => exact k46_mkM _ _ _ (⟨a1, a2⟩ : S46)); (case aB => exact (pB HB.out)); (case aF => exact (fun _ _ => trivial)); (case aO => exact (pR Ae.out)); (case aS => exact (below_size (pB HB.out))); (case aL => have := LMc25.out; omega); intro v176 w26 ho hb hg hat; rw [← Ny175.out] at ho; replace HB := Am (hb); have Av := Am (ho); clear Ae ho hb hg hat))
    go_ret
    exact ⟨_, pX, by (with_reducible repeat (first | apply Kd.R_alloc | apply Kd.R_drewN | apply Kd.R_drew)); exact Av.out, pB HB.out⟩
   rw [if_pos c6] at H
   have c6b0 : decide (Aa < (l0.length : Int)) = true := decide_eq_true c6
   clear c6
   have HC7 := Am H
   clear H
   go_upto_region 6 with (fail)
   go_cut [29] (fun v29 wc => ∃ (kq : Nat) (Ag : Bool), v29 = .bool Ag ∧ Aside0 (garnerref09_Set.j1 kq l0 a1 a2 Ab Af Aa Ag = some r) ∧ Aside0 (kq ≤ k1) ∧ Aside0 (Kd.R k46 46 wc w.heap.size (fun _ => True) u7 Ab) ∧ Aside0 (Below w.heap.size w wc))
   case first =>
    have H := HC7.out
    clear HC7
    by_cases c8 : Af = true
    ·subst c8
     have H1 : (garnerref09_Set.j1 k1 l0 a1 a2 Ab true Aa false) = some r := by rw [if_pos rfl] at H; exact H
     clear H
     have H := H1
     clear H1
     have H' := Am H
     clear H
     go_wp2
     go_meet
     case rel => exact ⟨_, (false), (by first | rfl | (simp; done) | (simp [*]; done)), H', ⟨by have := HK1.out; first | omega | exact Nat.le_refl _⟩, ⟨by (with_reducible repeat (first | apply Kd.R_alloc | apply Kd.R_drewN | apply Kd.R_drew)); exact Ae.out⟩, ⟨pB HB.out⟩⟩
    replace c8 := Bool.eq_false_iff.mpr c8
    subst c8
    have H1 : (if 0 ≤ Aa then (garnerref09_Set.j1 k1 l0 a1 a2 Ab false Aa (decide (((rd_T46 l0 Aa).f0) ≥ a1))) else (none)) = some r := by rw [if_neg (show ¬ (false = true) by decide)] at H; exact H
    clear H
    have H := H1
    clear H1
    by_cases c9 : 0 ≤ Aa
    rotate_left
    ·rw [if_neg c9] at H
     exact absurd H (by simp)
    rw [if_pos c9] at H
    have c9b0 : decide (0 ≤ Aa) = true := decide_eq_true c9
    clear c9
    (first | rw [c9b0] | (simp only [i64_w, i32_w]; rw [c9b0]) | skip)
    have H' := Am H
    clear H
    have p178 : 0 ≤ (Aa : Int) := of_decide_eq_true pS
    have q178 : Aa < (l0.length : Int) := of_decide_eq_true pS
    obtain ⟨ad178, e178, Ak, Al⟩ := at_T46u HR0.out Aa p178 q178 HB.out
    cases e178
    replace p178 := eq_true p178
    replace q178 := eq_true q178
    go_wp2
    go_meet
    case rel => exact ⟨_, (decide (((rd_T46 l0 Aa).f0) ≥ a1)), (by first | rfl | (simp; done) | (simp [*]; done)), H', ⟨by have := HK1.out; first | omega | exact Nat.le_refl _⟩, ⟨by (with_reducible repeat (first | apply Kd.R_alloc | apply Kd.R_drewN | apply Kd.R_drew)); exact Ae.out⟩, ⟨pB HB.out⟩⟩
   case rest =>
    clear HC7
    try clear p1
    try clear q1
    try clear hx1
    try clear c2
    try clear p2
    try clear c6
    try clear c6b0
    try clear c8
    try clear c9
    try clear c9b0
    try clear Ak
    try clear Al
    try clear p178
    try clear p2
    try clear q178
    obtain ⟨kq, Ag, rfl, HA, HJ6, Ae, HB⟩ := hcut
    cases kq with
    | zero => exact absurd HA.out (by simp [garnerref09_Set.j1])
    | succ kj6 =>
     have H := HA.out
     clear HA
     simp only [garnerref09_Set.j1] at H
     by_cases c10 : Ag = true
     ·subst c10
      have H1 : (if Ab.length < 8796093022208 then ((some (Ab ++ [(⟨a1, a2⟩ : S46)] : List (S46))).bind fun y179 => (if 0 ≤ Aa then (if Aa < (l0.length : Int) then (if ((rd_T46 l0 Aa).f0) = a1 then (garnerref09_Set.l0 kj6 l0 a1 a2 y179 true (wrap64 (Aa + 1))) else (if y179.length < 8796093022208 then (garnerref09_Set.l0 kj6 l0 a1 a2 (y179 ++ [(⟨(rd_T46 l0 Aa).f0, (rd_T46 l0 Aa).f1⟩ : S46)]) true (wrap64 (Aa + 1))) else (none))) else (none)) else (none))) else (none)) = some r := by rw [if_pos rfl] at H; exact H
      clear H
      have H := H1
      clear H1
      by_cases c11 : Ab.length < 8796093022208
      rotate_left
      ·rw [if_neg c11] at H
       exact absurd H (by simp)
      rw [if_pos c11] at H
      have LMc11 := Am c11
      clear c11
      obtain ⟨y179, hy179⟩ : ∃ y_ : List (S46), y_ = (Ab ++ [(⟨a1, a2⟩ : S46)]) := ⟨_, rfl⟩
      replace H : (if 0 ≤ Aa then (if Aa < (l0.length : Int) then (if ((rd_T46 l0 Aa).f0) = a1 then (garnerref09_Set.l0 kj6 l0 a1 a2 y179 true (wrap64 (Aa + 1))) else (if y179.length < 8796093022208 then (garnerref09_Set.l0 kj6 l0 a1 a2 (y179 ++ [(⟨(rd_T46 l0 Aa).f0, (rd_T46 l0 Aa).f1⟩ : S46)]) true (wrap64 (Aa + 1))) else (none))) else (none)) else (none)) = some r := by first | (rw [hy179]; with_reducible exact H) | (have H2_ := (Option.bind_some _ _).symm.trans H; rw [hy179]; with_reducible exact H2_) | (have H2_ := (Option.bind_some _ _).symm.trans H; with_reducible exact H2_) | with_reducible exact H | (rw [hy179]; exact H) | exact H
      have Ny179 := Am hy179
      clear hy179
      by_cases c12 : 0 ≤ Aa
      rotate_left
      ·rw [if_neg c12] at H
       exact absurd H (by simp)
      rw [if_pos c12] at H
      have c12b0 : decide (0 ≤ Aa) = true := decide_eq_true c12
      clear c12
      by_cases c13 : Aa < (l0.length : Int)
      rotate_left
      ·rw [if_neg c13] at H
       exact absurd H (by simp)
      rw [if_pos c13] at H
      have c13b0 : decide (Aa < (l0.length : Int)) = true := decide_eq_true c13
      clear c13
      by_cases c14 : ((rd_T46 l0 Aa).f0) = a1
      ·rw [if_pos c14] at H
       have c14b0 : (((rd_T46 l0 Aa).f0) == a1) = true := beq_iff_eq.mpr c14
       have c14b1 : (((rd_T46 l0 Aa).f0) != a1) = false := bne_eq_false_iff_eq.mpr c14
       clear c14
       have H' := Am H
       clear H
       go_wp2_with (first | ((with_reducible refine gate_builtin (b := .append) (xs := #[.tmp 30, .tmp 34]) rfl ?_); at_builtin; refine Kd.R_append k46 (w0 := w) w.heap.size rfl (.tmp 30) (.tmp 34) 22 46 (.agg #[(.int .i64 0), (.int .i64 0)]) 16 rfl Try.underlying22 info46 rfl (by decide) (by omega) u7 Ab (⟨a1, a2⟩ : S46) [.int .i64 a1, .int .i64 a2] (fun _ => True) (fun _ => False) rfl rfl ?aP (fun _ hk => hk.elim) ?aF ?aO ?aB ?aS ?aL ?_; (case aP => exact k46_mkM _ _ _ (⟨a1, a2⟩ : S46)); (case aB => exact (pB HB.out)); (case aF => exact (fun _ _ => trivial)); (case aO => exact (pR Ae.out)); (case aS => exact (below_size (pB HB.out))); (case aL => have := LMc11.out; omega); intro v180 w15 ho hb hg hat; rw [← Ny179.out] at ho; replace HB := Am (hb); have Ah := Am (ho); clear Ae ho hb hg hat; have p182 : 0 ≤ (Aa : Int) := of_decide_eq_true pS; have q182 : Aa < (l0.length : Int) := of_decide_eq_true pS; obtain ⟨Ap, e182, Ac, Ad⟩ := at_T46 HR0.out Aa p182 q182; cases e182; replace Ac := cU HB.out Ac; replace Ad := cU HB.out Ad; replace p182 := eq_true p182; replace q182 := eq_true q182))
       go_roundg kj6
       case measure => have := HK1.out; have := HJ6.out; omega
       case rel => exact ⟨(y179), (true), (wrap64 (Aa + 1)), (by first | rfl | (simp; done) | (simp [*]; done)), (by first | rfl | (simp; done) | (simp [*]; done)), H', ⟨by have := HK1.out; have := HJ6.out; omega⟩, ⟨by (with_reducible repeat (first | apply Kd.R_alloc | apply Kd.R_drewN | apply Kd.R_drew)); exact Ah.out⟩, ⟨pB HB.out⟩⟩
      rw [if_neg c14] at H
      have c14b0 : (((rd_T46 l0 Aa).f0) == a1) = false := beq_eq_false_iff_ne.mpr c14
      have c14b1 : (((rd_T46 l0 Aa).f0) != a1) = true := bne_iff_ne.mpr c14
      by_cases c16 : y179.length < 8796093022208
      rotate_left
      ·rw [if_neg c16] at H
       exact absurd H (by simp)
      rw [if_pos c16] at H
      have LMc16 := Am c16
      clear c16
      obtain ⟨y184, hy184⟩ : ∃ y_ : List (S46), y_ = (y179 ++ [(⟨(rd_T46 l0 Aa).f0, (rd_T46 l0 Aa).f1⟩ : S46)]) := ⟨_, rfl⟩
      replace H : (garnerref09_Set.l0 kj6 l0 a1 a2 y184 true (wrap64 (Aa + 1))) = some r := by first | (rw [hy184]; with_reducible exact H) | (have H2_ := (Option.bind_some _ _).symm.trans H; rw [hy184]; with_reducible exact H2_) | (have H2_ := (Option.bind_some _ _).symm.trans H; with_reducible exact H2_) | with_reducible exact H | (rw [hy184]; exact H) | exact H
      have Ny184 := Am hy184
      clear hy184
      have H' := Am H
      clear H
      go_wp2_with (first | ((with_reducible refine gate_builtin (b := .append) (xs := #[.tmp 30, .tmp 34]) rfl ?_); at_builtin; refine Kd.R_append k46 (w0 := w) w.heap.size rfl (.tmp 30) (.tmp 34) 22 46 (.agg #[(.int .i64 0), (.int .i64 0)]) 16 rfl Try.underlying22 info46 rfl (by decide) (by omega) u7 Ab (⟨a1, a2⟩ : S46) [.int .i64 a1, .int .i64 a2] (fun _ => True) (fun _ => False) rfl rfl ?aP (fun _ hk => hk.elim) ?aF ?aO ?aB ?aS ?aL ?_; (case aP => exact k46_mkM _ _ _ (⟨a1, a2⟩ : S46)); (case aB => exact (pB HB.out)); (case aF => exact (fun _ _ => trivial)); (case aO => exact (pR Ae.out)); (case aS => exact (below_size (pB HB.out))); (case aL => have := LMc11.out; omega); intro v180 w17 ho hb hg hat; rw [← Ny179.out] at ho; replace HB := Am (hb); have Ah := Am (ho); clear Ae ho hb hg hat; have p182 : 0 ≤ (Aa : Int) := of_decide_eq_true pS; have q182 : Aa < (l0.length : Int) := of_decide_eq_true pS; obtain ⟨Ap, e182, Ac, Ad⟩ := at_T46 HR0.out Aa p182 q182; cases e182; replace Ac := cU HB.out Ac; replace Ad := cU HB.out Ad; replace p182 := eq_true p182; replace q182 := eq_true q182; have p183 : 0 ≤ (Aa : Int) := of_decide_eq_true pS; have q183 : Aa < (l0.length : Int) := of_decide_eq_true pS; obtain ⟨Ar, e183, Ai, Aj⟩ := at_T46 HR0.out Aa p183 q183; obtain rfl : Ap = Ar := (by injection e183); replace Ai := cU HB.out Ai; replace Aj := cU HB.out Aj; replace p183 := eq_true p183; replace q183 := eq_true q183) | ((with_reducible refine gate_builtin (b := .append) (xs := #[.tmp 43, .tmp 48]) rfl ?_); at_builtin; refine Kd.R_append k46 (w0 := w) w.heap.size rfl (.tmp 43) (.tmp 48) 22 46 (.agg #[(.int .i64 0), (.int .i64 0)]) 16 rfl Try.underlying22 info46 rfl (by decide) (by omega) v180 y179 (⟨(rd_T46 l0 Aa).f0, (rd_T46 l0 Aa).f1⟩ : S46) [.int .i64 ((rd_T46 l0 Aa).f0), .int .i64 ((rd_T46 l0 Aa).f1)] (fun _ => True) (fun _ => False) rfl rfl ?aP (fun _ hk => hk.elim) ?aF ?aO ?aB ?aS ?aL ?_; (case aP => exact k46_mkM _ _ _ (⟨(rd_T46 l0 Aa).f0, (rd_T46 l0 Aa).f1⟩ : S46)); (case aB => exact (pB HB.out)); (case aF => exact (fun _ _ => trivial)); (case aO => exact (pR Ah.out)); (case aS => exact (below_size (pB HB.out))); (case aL => have := LMc16.out; omega); intro v185 w18 ho hb hg hat; rw [← Ny184.out] at ho; replace HB := Am (hb); have As := Am (ho); clear Ah ho hb hg hat))
      go_roundg kj6
      case measure => have := HK1.out; have := HJ6.out; omega
      case rel => exact ⟨(y184), (true), (wrap64 (Aa + 1)), (by first | rfl | (simp; done) | (simp [*]; done)), (by first | rfl | (simp; done) | (simp [*]; done)), H', ⟨by have := HK1.out; have := HJ6.out; omega⟩, ⟨by (with_reducible repeat (first | apply Kd.R_alloc | apply Kd.R_drewN | apply Kd.R_drew)); exact As.out⟩, ⟨pB HB.out⟩⟩
     replace c10 := Bool.eq_false_iff.mpr c10
     subst c10
     have H1 : (if 0 ≤ Aa then (if Aa < (l0.length : Int) then (if ((rd_T46 l0 Aa).f0) = a1 then (garnerref09_Set.l0 kj6 l0 a1 a2 Ab Af (wrap64 (Aa + 1))) else (if Ab.length < 8796093022208 then (garnerref09_Set.l0 kj6 l0 a1 a2 (Ab ++ [(⟨(rd_T46 l0 Aa).f0, (rd_T46 l0 Aa).f1⟩ : S46)]) Af (wrap64 (Aa + 1))) else (none))) else (none)) else (none)) = some r := by rw [if_neg (show ¬ (false = true) by decide)] at H; exact H
     clear H
     have H := H1
     clear H1
     by_cases c19 : 0 ≤ Aa
     rotate_left
     ·rw [if_neg c19] at H
      exact absurd H (by simp)
     rw [if_pos c19] at H
     have c19b0 : decide (0 ≤ Aa) = true := decide_eq_true c19
     clear c19
     by_cases c20 : Aa < (l0.length : Int)
     rotate_left
     ·rw [if_neg c20] at H
      exact absurd H (by simp)
     rw [if_pos c20] at H
     have c20b0 : decide (Aa < (l0.length : Int)) = true := decide_eq_true c20
     clear c20
     by_cases c21 : ((rd_T46 l0 Aa).f0) = a1
     ·rw [if_pos c21] at H
      have c21b0 : (((rd_T46 l0 Aa).f0) == a1) = true := beq_iff_eq.mpr c21
      have c21b1 : (((rd_T46 l0 Aa).f0) != a1) = false := bne_eq_false_iff_eq.mpr c21
      clear c21
      have H' := Am H
      clear H
      have p187 : 0 ≤ (Aa : Int) := of_decide_eq_true pS
      have q187 : Aa < (l0.length : Int) := of_decide_eq_true pS
      obtain ⟨At, e187, An, Ao⟩ := at_T46u HR0.out Aa p187 q187 HB.out
      cases e187
      replace p187 := eq_true p187
      replace q187 := eq_true q187
      go_wp2
      go_roundg kj6
      case measure => have := HK1.out; have := HJ6.out; omega
      case rel => exact ⟨(Ab), (Af), (wrap64 (Aa + 1)), (by first | rfl | (simp; done) | (simp [*]; done)), (by first | rfl | (simp; done) | (simp [*]; done)), H', ⟨by have := HK1.out; have := HJ6.out; omega⟩, ⟨by (with_reducible repeat (first | apply Kd.R_alloc | apply Kd.R_drewN | apply Kd.R_drew)); exact Ae.out⟩, ⟨pB HB.out⟩⟩
     rw [if_neg c21] at H
     have c21b0 : (((rd_T46 l0 Aa).f0) == a1) = false := beq_eq_false_iff_ne.mpr c21
     have c21b1 : (((rd_T46 l0 Aa).f0) != a1) = true := bne_iff_ne.mpr c21
     by_cases c22 : Ab.length < 8796093022208
     rotate_left
     ·rw [if_neg c22] at H
      exact absurd H (by simp)
     rw [if_pos c22] at H
     have LMc22 := Am c22
     clear c22
     obtain ⟨y189, hy189⟩ : ∃ y_ : List (S46), y_ = (Ab ++ [(⟨(rd_T46 l0 Aa).f0, (rd_T46 l0 Aa).f1⟩ : S46)]) := ⟨_, rfl⟩
     replace H : (garnerref09_Set.l0 kj6 l0 a1 a2 y189 Af (wrap64 (Aa + 1))) = some r := by first | (rw [hy189]; with_reducible exact H) | (have H2_ := (Option.bind_some _ _).symm.trans H; rw [hy189]; with_reducible exact H2_) | (have H2_ := (Option.bind_some _ _).symm.trans H; with_reducible exact H2_) | with_reducible exact H | (rw [hy189]; exact H) | exact H
     have Ny189 := Am hy189
     clear hy189
     have H' := Am H
     clear H
     have p187 : 0 ≤ (Aa : Int) := of_decide_eq_true pS
     have q187 : Aa < (l0.length : Int) := of_decide_eq_true pS
     obtain ⟨At, e187, An, Ao⟩ := at_T46u HR0.out Aa p187 q187 HB.out
     cases e187
     replace p187 := eq_true p187
     replace q187 := eq_true q187
     go_wp2_with (first | ((with_reducible refine gate_builtin (b := .append) (xs := #[.tmp 43, .tmp 48]) rfl ?_); at_builtin; refine Kd.R_append k46 (w0 := w) w.heap.size rfl (.tmp 43) (.tmp 48) 22 46 (.agg #[(.int .i64 0), (.int .i64 0)]) 16 rfl Try.underlying22 info46 rfl (by decide) (by omega) u7 Ab (⟨(rd_T46 l0 Aa).f0, (rd_T46 l0 Aa).f1⟩ : S46) [.int .i64 ((rd_T46 l0 Aa).f0), .int .i64 ((rd_T46 l0 Aa).f1)] (fun _ => True) (fun _ => False) rfl rfl ?aP (fun _ hk => hk.elim) ?aF ?aO ?aB ?aS ?aL ?_; (case aP => exact k46_mkM _ _ _ (⟨(rd_T46 l0 Aa).f0, (rd_T46 l0 Aa).f1⟩ : S46)); (case aB => exact (pB HB.out)); (case aF => exact (fun _ _ => trivial)); (case aO => exact (pR Ae.out)); (case aS => exact (below_size (pB HB.out))); (case aL => have := LMc22.out; omega); intro v190 w23 ho hb hg hat; rw [← Ny189.out] at ho; replace HB := Am (hb); have Au := Am (ho); clear Ae ho hb hg hat))
     go_roundg kj6
     case measure => have := HK1.out; have := HJ6.out; omega
     case rel => exact ⟨(y189), (Af), (wrap64 (Aa + 1)), (by first | rfl | (simp; done) | (simp [*]; done)), (by first | rfl | (simp; done) | (simp [*]; done)), H', ⟨by have := HK1.out; have := HJ6.out; omega⟩, ⟨by (with_reducible repeat (first | apply Kd.R_alloc | apply Kd.R_drewN | apply Kd.R_drew)); exact Au.out⟩, ⟨pB HB.out⟩⟩
def garnerref09_Add.l0 : Nat → List (S46) → List (S43) → Int → Option ((List (S46)))
 | 0, _, _, _ => none
 | k + 1, x0, x1, x5 => if x5 < (x1.length : Int) then (if 0 ≤ x5 then ((garnerref09_Get.f k x0 ((rd_T43 x1 x5).f0)).bind fun t194 => ((garnerref09_Set.f k x0 ((rd_T43 x1 x5).f0) (wrap64 (t194 + ((rd_T43 x1 x5).f2)))).bind fun t196 => (garnerref09_Add.l0 k t196 x1 (wrap64 (x5 + 1))))) else (none)) else (some x0)
def garnerref09_Add.f (k : Nat) (l0 : List (S46)) (l1 : List (S43)) : Option ((List (S46))) := garnerref09_Add.l0 k l0 l1 0
theorem garnerref09_Add.mono_l : ∀ k, (∀ y0 y1 y2, LeO (garnerref09_Add.l0 k y0 y1 y2) (garnerref09_Add.l0 (k + 1) y0 y1 y2))
 | 0 => fun _ _ _ r h => by simp [garnerref09_Add.l0] at h
 | k + 1 => by
  have ih0 := garnerref09_Add.mono_l k
  ·intro y0 y1 y2
   unfold garnerref09_Add.l0
   repeat' first
   | (with_reducible exact ih0 _ _ _)
   | (with_reducible exact garnerref09_Get.mono _ _ _)
   | (with_reducible exact garnerref09_Set.mono _ _ _ _)
   | (with_reducible exact LeO.refl _)
   | (with_reducible exact LeO.none _)
   | (with_reducible refine LeO.ite ?_ ?_)
   | (with_reducible refine LeO.bind ?_ (fun _ => ?_))
   | exact ih0 _ _ _
   | exact garnerref09_Get.mono _ _ _
   | exact garnerref09_Set.mono _ _ _ _
   | exact LeO.none _
   | refine LeO.ite ?_ ?_
   | refine LeO.bind ?_ (fun _ => ?_)
theorem garnerref09_Add.mono : ∀ a0 a1 k, LeO (garnerref09_Add.f k a0 a1) (garnerref09_Add.f (k + 1) a0 a1) := by
 intro a0 a1 k
 have ih0 := garnerref09_Add.mono_l k
 unfold garnerref09_Add.f
 repeat' first
   | (with_reducible exact ih0 _ _ _)
   | (with_reducible exact garnerref09_Get.mono _ _ _)
   | (with_reducible exact garnerref09_Set.mono _ _ _ _)
   | (with_reducible exact LeO.refl _)
   | (with_reducible exact LeO.none _)
   | (with_reducible refine LeO.ite ?_ ?_)
   | (with_reducible refine LeO.bind ?_ (fun _ => ?_))
   | exact ih0 _ _ _
   | exact garnerref09_Get.mono _ _ _
   | exact garnerref09_Set.mono _ _ _ _
   | exact LeO.none _
   | refine LeO.ite ?_ ?_
   | refine LeO.bind ?_ (fun _ => ?_)
def garnerref09_Add.T4 : Bool × List (List Nat × List Nat) := (true, [([], []), ([], []), ([], []), ([1, 2], [1, 2]), ([3], [3]), ([4], [4]), ([], []), ([], []), ([], []), ([7, 8], [7, 8]), ([9], [9]), ([10], [10]), ([6, 11], [6, 11]), ([], []), ([], []), ([13, 14], [13, 14]), ([15], [15]), ([16], [16]), ([12, 17], [12, 17]), ([0, 5, 18, 12], [0, 5, 18]), ([19, 19, 0, 1, 2, 3, 4, 5, 6, 7, 8, 9, 10, 11, 12, 13, 14, 15, 16, 17, 18, 19], [0, 6, 19])])
def garnerref09_Add.B4 : List Nat := [0, 0, 0, 6, 14, 30, 0, 0, 0, 384, 896, 1920, 4032, 0, 0, 24576, 57344, 122880, 262080, 524287, 1048575]
theorem garnerref09_Add.tab4 : rtab .any (opsOf Try.f14 4) = garnerref09_Add.T4 := by kernel_rfl
theorem garnerref09_Add.bits4 : waitsOk garnerref09_Add.T4.2 garnerref09_Add.B4 = true := by kernel_rfl
set_option maxHeartbeats 8000000 in
set_option maxRecDepth 100000 in
theorem garnerref09_Add.calls (k : Nat) (P0_ : Nat → Prop) (A0 : Option Addr) (c0 : Nat) (l0 : List (S46)) (A1 : Option Addr) (c1 : Nat) (l1 : List (S43)) (r : List (S46)) (w : World) (hs0 : Kd.V k46 46 w w.heap.size (fun k_ => P0_ k_) (.slice A0 l0.length c0) l0) (hr1 : Kd.C k43 w A1 l1.length l1) (hc1 : l1.length ≤ c1) (h : garnerref09_Add.f k l0 l1 = some r) :
  Calls Try.prog 14 #[.slice A0 l0.length c0, .slice A1 l1.length c1] w fun e w' => ∃ v0_ : Value, e = .returned (v0_) ∧ Kd.V k46 46 w' w.heap.size (fun k_ => (P0_ k_ ∨ w.heap.size ≤ k_)) v0_ r ∧ Below w.heap.size w w' := by
 have At := Am (show Kd.V k46 46 w w.heap.size (fun k_ => (P0_ k_ ∨ w.heap.size ≤ k_)) (.slice A0 l0.length c0) l0 from Kd.V_mono hs0 (fun k_ hk => .inl hk))
 have HR1 := Am hr1
 have HC1 := Am hc1
 clear hr1 hc1
 have HB := Am (Below.refl w.heap.size w)
 have H : (garnerref09_Add.l0 k l0 l1 0) = some r := h
 clear h
 have H' := Am H
 clear H
 go_enter Try.func14, Try.ntmps14
 go_wp2
 go_loopg [0, 5] k (fun kq v0 v5 w' => ∃ (Ag : List (S46)) (Aa : Int), v5 = .int .i64 Aa ∧ Aside0 (garnerref09_Add.l0 kq Ag l1 Aa = some r) ∧ Aside0 (kq ≤ k) ∧ Aside0 (Kd.V k46 46 w' w.heap.size (fun k_ => (P0_ k_ ∨ w.heap.size ≤ k_)) v0 Ag) ∧ Aside0 (Below w.heap.size w w'))
 case atStart => exact ⟨(l0), (0), (by first | rfl | (simp; done) | (simp [*]; done)), H', ⟨Nat.le_refl _⟩, ⟨by (with_reducible repeat (first | apply Kd.V_alloc | apply Kd.V_drewN | apply Kd.V_drew)); exact At.out⟩, ⟨pB HB.out⟩⟩
 case round =>
  clear H'
  try clear c1
  try clear p2
  obtain ⟨Ag, Aa, rfl, HA, HK1, Ab, HB⟩ := hrel
  cases gk with
  | zero => exact absurd HA.out (by simp [garnerref09_Add.l0])
  | succ k1 =>
   have H := HA.out
   clear HA
   simp only [garnerref09_Add.l0] at H
   by_cases c3 : Aa < (l1.length : Int)
   rotate_left
   ·rw [if_neg c3] at H
    have c3b0 : decide (Aa < (l1.length : Int)) = false := decide_eq_false c3
    clear c3
    obtain rfl := Option.some.inj H
    go_wp2
    go_ret
    exact ⟨_, pX, by (with_reducible repeat (first | apply Kd.V_alloc | apply Kd.V_drewN | apply Kd.V_drew)); exact Ab.out, pB HB.out⟩
   rw [if_pos c3] at H
   have c3b0 : decide (Aa < (l1.length : Int)) = true := decide_eq_true c3
   clear c3
   by_cases c4 : 0 ≤ Aa
   rotate_left
   ·rw [if_neg c4] at H
    exact absurd H (by simp)
   rw [if_pos c4] at H
   have c4b0 : decide (0 ≤ Aa) = true := decide_eq_true c4
   clear c4
   replace H := Option.bind_eq_some_iff.mp H
   obtain ⟨t194, A50, H⟩ := H
   replace H : ((garnerref09_Set.f k1 Ag ((rd_T43 l1 Aa).f0) (wrap64 (t194 + ((rd_T43 l1 Aa).f2)))).bind fun t196 => (garnerref09_Add.l0 k1 t196 l1 (wrap64 (Aa + 1)))) = some r := H
   have A5 := Am A50
   clear A50
   replace H := Option.bind_eq_some_iff.mp H
   obtain ⟨t196, A60, H⟩ := H
   replace H : (garnerref09_Add.l0 k1 t196 l1 (wrap64 (Aa + 1))) = some r := H
   have A6 := Am A60
   clear A60
   have H' := Am H
   clear H
   try go_wp2
   replace Ab := dVa Ab
   replace HB := bDa HB
   have p192 : 0 ≤ (Aa : Int) := of_decide_eq_true pS
   have q192 : Aa < (l1.length : Int) := of_decide_eq_true pS
   obtain ⟨Ah, e192, Ai, Aj, Ak, Al, Ac, Ad, Ae, Af⟩ := at_T43w HR1.out Aa p192 q192 HB.out
   cases e192
   replace p192 := eq_true p192
   replace q192 := eq_true q192
   obtain ⟨Aq, Ar, As⟩ := Kd.V_slice Ab.out
   (first | subst As | (injection As with f1_ f2_ f3_; have f4_ := f1_.symm; have f5_ := f3_.symm; clear f1_ f2_ f3_; subst f4_; subst f5_))
   refine start_ (n := 21) (S := fun w' => w'.cell? (Ah.add ((Aa).toNat * 4)) = some (.int .i64 ((rd_T43 l1 Aa).f0)) ∧ cA w' (Ah.add ((Aa).toNat * 4)) 1 (.int .i64 ((rd_T43 l1 Aa).f1)) ∧ cA w' (Ah.add ((Aa).toNat * 4)) 2 (.int .i64 ((rd_T43 l1 Aa).f2)) ∧ cA w' (Ah.add ((Aa).toNat * 4)) 3 (.int .u32 ((rd_T43 l1 Aa).f3))) (ds := []) #[false, false, false, false, false, false, false, false, false, false, false, false, false, false, false, false, false, false, false, false, false] (by kernel_rfl) rfl rfl ⟨(cT HB.out Ac), (cT HB.out Ad), (cT HB.out Ae), (cT HB.out Af)⟩ (fun hHeld => ?_); refine with_tabW garnerref09_Add.tab4 garnerref09_Add.bits4 (fun HT_ HW_ => ?_)
   (first | generalize wr.drew = w7 at Ab HB Ai Aj Ak Al hHeld ⊢ | generalize wr.drew = w7 at HB Ai Aj Ak Al hHeld ⊢)
   refine pui 0 12 21 1 HT_ ?_
   refine pui 1 13 21 3 HT_ ?_
   refine pui 2 14 21 7 HT_ ?_
   refine pui 3 15 21 15 HT_ ?_
   refine pui 4 16 21 31 HT_ ?_
   refine pui 6 18 21 95 HT_ ?_
   refine pui 7 19 21 223 HT_ ?_
   refine pui 8 20 21 479 HT_ ?_
   refine pui 9 21 21 991 HT_ ?_
   refine pui 10 22 21 2015 HT_ ?_
   refine pui 13 25 21 10207 HT_ ?_
   refine pui 14 26 21 26591 HT_ ?_
   refine pui 15 27 21 59359 HT_ ?_
   refine pui 16 28 21 124895 HT_ ?_
   refine tki 5 17 21 124927 HT_ HW_ hHeld ?_
   refine tki 11 23 21 126975 HT_ HW_ hHeld ?_
   refine tki 17 29 21 258047 HT_ HW_ hHeld ?_
   refine onei 12 24 21 262143 HT_ (fun K hK => ?_)
   refine goes_ Try.func17 (by kernel_rfl) rfl #[.slice Aq Ag.length Ar, .int .i64 ((rd_T43 l1 Aa).f0)] (by rfl) rfl rfl pL ?_
   with_reducible refine (garnerref09_Get.calls k1 _ _ Ag ((rd_T43 l1 Aa).f0) t194 _ ?An ?Ao A5.out).mono ?_
   (case An => exact pC (Kd.V_reads' Ab.out).2.2)
   (case Ao => exact (Kd.V_reads' Ab.out).2.1)
   rintro e w' ⟨rfl, ⟨nd, rfl⟩⟩
   refine ⟨_, rfl, ?_⟩
   refine hK.out _ _ ⟨(cT HB.out Ac), (cT HB.out Ad), (cT HB.out Ae), (cT HB.out Af)⟩ (fun hHeld => ?_)
   clear hK K
   refine norm_ (a' := ?_) ?_ ?_
   rotate_left
   ·show Act.put _ (some 24) _ = _
    simp only [Act.put, List.setIfInBounds_toArray, List.set_cons_zero, List.set_cons_succ, i64_w, i32_w]
    rfl
   refine pui 18 30 21 524287 HT_ ?_
   refine onei 19 31 21 1048575 HT_ (fun K hK => ?_)
   refine goes_ Try.func27 (by kernel_rfl) rfl #[.slice Aq Ag.length Ar, .int .i64 ((rd_T43 l1 Aa).f0), .int .i64 (wrap64 (t194 + ((rd_T43 l1 Aa).f2)))] (by rfl) rfl rfl pL ?_
   with_reducible refine (garnerref09_Set.calls k1 _ _ Ag ((rd_T43 l1 Aa).f0) (wrap64 (t194 + ((rd_T43 l1 Aa).f2))) t196 _ ?An ?Ao A6.out).mono ?_
   (case An => exact pC (Kd.V_reads' Ab.out).2.2)
   (case Ao => exact (Kd.V_reads' Ab.out).2.1)
   rintro e w9 ⟨v197, rfl, ho0, hb⟩
   refine ⟨_, rfl, ?_⟩
   replace Ab := Am (Kd.V_elder' (pV Ab.out) (Kd.R_base ho0) hb)
   have Ap := Am (Kd.R_lower (Kd.R_newM (M := fun k_ => (w.heap.size ≤ k_)) ho0 (below_size (pB HB.out)) (fun k_ h_ => h_)) (below_size (pB HB.out)))
   replace HB := Am (below_step (pB HB.out) hb)
   (try clear hb)
   (try clear hb2)
   (try clear hk)
   (try clear hi)
   (try clear ho0)
   refine hK.out _ _ ⟨(cT HB.out Ac), (cT HB.out Ad), (cT HB.out Ae), (cT HB.out Af)⟩ (fun hHeld => ?_)
   clear hK K
   refine norm_ (a' := ?_) ?_ ?_
   rotate_left
   ·show Act.put _ (some 31) _ = _
    simp only [Act.put, List.setIfInBounds_toArray, List.set_cons_zero, List.set_cons_succ, i64_w, i32_w]
    rfl
   refine pui 20 0 21 2097151 HT_ ?_
   refine done_ (done_of HT_.out (by kernel_rfl)) ?_
   try go_wp2
   go_roundg k1
   case measure => have := HK1.out; omega
   case rel => exact ⟨(t196), (wrap64 (Aa + 1)), (by first | rfl | (simp; done) | (simp [*]; done)), H', ⟨by have := HK1.out; omega⟩, ⟨Kd.V_mono (Kd.R_V (by (with_reducible repeat (first | apply Kd.R_alloc | apply Kd.R_drewN | apply Kd.R_drew)); exact Kd.R_mono Ap.out (fun _ hk => hk.1))) (fun k_ hk => by first | exact ⟨(.inr (hk.1)), hk.2⟩ | exact (.inr (hk)))⟩, ⟨pB HB.out⟩⟩
def garnerref09_Same.l0 : Nat → List (S46) → List (S46) → Int → Option (Bool)
 | 0, _, _, _ => none
 | k + 1, x0, x1, x5 => if x5 < (x0.length : Int) then (if 0 ≤ x5 then (if x5 < (x1.length : Int) then (if (!(((rd_T46 x0 x5).f0) == ((rd_T46 x1 x5).f0)) || (!(((rd_T46 x0 x5).f1) == ((rd_T46 x1 x5).f1)))) = true then (some false) else (garnerref09_Same.l0 k x0 x1 (wrap64 (x5 + 1)))) else (none)) else (none)) else (some true)
def garnerref09_Same.f (k : Nat) (l0 : List (S46)) (l1 : List (S46)) : Option (Bool) := if (l0.length : Int) = (l1.length : Int) then (garnerref09_Same.l0 k l0 l1 0) else (some false)
theorem garnerref09_Same.mono_l : ∀ k, (∀ y0 y1 y2, LeO (garnerref09_Same.l0 k y0 y1 y2) (garnerref09_Same.l0 (k + 1) y0 y1 y2))
 | 0 => fun _ _ _ r h => by simp [garnerref09_Same.l0] at h
 | k + 1 => by
  have ih0 := garnerref09_Same.mono_l k
  ·intro y0 y1 y2
   unfold garnerref09_Same.l0
   repeat' first
   | (with_reducible exact ih0 _ _ _)
   | (with_reducible exact LeO.refl _)
   | (with_reducible exact LeO.none _)
   | (with_reducible refine LeO.ite ?_ ?_)
   | (with_reducible refine LeO.bind ?_ (fun _ => ?_))
   | exact ih0 _ _ _
   | exact LeO.none _
   | refine LeO.ite ?_ ?_
   | refine LeO.bind ?_ (fun _ => ?_)
theorem garnerref09_Same.mono : ∀ a0 a1 k, LeO (garnerref09_Same.f k a0 a1) (garnerref09_Same.f (k + 1) a0 a1) := by
 intro a0 a1 k
 have ih0 := garnerref09_Same.mono_l k
 unfold garnerref09_Same.f
 repeat' first
   | (with_reducible exact ih0 _ _ _)
   | (with_reducible exact LeO.refl _)
   | (with_reducible exact LeO.none _)
   | (with_reducible refine LeO.ite ?_ ?_)
   | (with_reducible refine LeO.bind ?_ (fun _ => ?_))
   | exact ih0 _ _ _
   | exact LeO.none _
   | refine LeO.ite ?_ ?_
   | refine LeO.bind ?_ (fun _ => ?_)
set_option maxHeartbeats 8000000 in
set_option maxRecDepth 100000 in
theorem garnerref09_Same.calls (k : Nat) (A0 : Option Addr) (c0 : Nat) (l0 : List (S46)) (A1 : Option Addr) (c1 : Nat) (l1 : List (S46)) (r : Bool) (w : World) (hr0 : Kd.C k46 w A0 l0.length l0) (hc0 : l0.length ≤ c0) (hr1 : Kd.C k46 w A1 l1.length l1) (hc1 : l1.length ≤ c1) (h : garnerref09_Same.f k l0 l1 = some r) :
  Calls Try.prog 16 #[.slice A0 l0.length c0, .slice A1 l1.length c1] w fun e w' => e = .returned (.bool r) ∧ Drawn0 w w' := by
 have hu46 := Try.underlying46
 have HR0 := Am hr0
 have HC0 := Am hc0
 clear hr0 hc0
 have HR1 := Am hr1
 have HC1 := Am hc1
 clear hr1 hc1
 have H : (if (l0.length : Int) = (l1.length : Int) then (garnerref09_Same.l0 k l0 l1 0) else (some false)) = some r := h
 clear h
 by_cases c3 : (l0.length : Int) = (l1.length : Int)
 rotate_left
 ·rw [if_neg c3] at H
  have c3b0 : ((l0.length : Int) == (l1.length : Int)) = false := beq_eq_false_iff_ne.mpr c3
  have c3b1 : ((l0.length : Int) != (l1.length : Int)) = true := bne_iff_ne.mpr c3
  have c3b2 : (l0.length == l1.length) = false := by first | simpa using c3 | (simp at c3 ⊢; omega)
  obtain rfl := Option.some.inj H
  go_enter Try.func16, Try.ntmps16
  go_wp2
  repeat (go_quiet (fail); try go_wp2)
  go_ret
  exact ⟨by first | rfl | (simp; done) | (simp [*]; done), by repeat (first | exact Drawn0.refl _ | apply Drawn0.step)⟩
 rw [if_pos c3] at H
 have c3b0 : ((l0.length : Int) == (l1.length : Int)) = true := beq_iff_eq.mpr c3
 have c3b1 : ((l0.length : Int) != (l1.length : Int)) = false := bne_eq_false_iff_eq.mpr c3
 have c3b2 : (l0.length == l1.length) = true := by first | simpa using c3 | (simp at c3 ⊢; omega)
 clear c3
 have H' := Am H
 clear H
 go_enter Try.func16, Try.ntmps16
 go_wp2
 repeat (go_quiet (fail); try go_wp2)
 go_loopg [5] k (fun kq v5 w' => ∃ (Aa : Int), v5 = .int .i64 Aa ∧ Aside0 (garnerref09_Same.l0 kq l0 l1 Aa = some r) ∧ Aside0 (kq ≤ k) ∧ Drawn0 w w')
 case atStart => exact ⟨(0), (by first | rfl | (simp; done) | (simp [*]; done)), H', ⟨Nat.le_refl _⟩, by repeat (first | exact Drawn0.refl _ | apply Drawn0.step)⟩
 case round =>
  clear H'
  try clear c1
  try clear p2
  try clear c3
  try clear c3b0
  try clear c3b1
  try clear c3b2
  obtain ⟨Aa, rfl, HA, HK1, ⟨m1, rfl⟩⟩ := hrel
  cases gk with
  | zero => exact absurd HA.out (by simp [garnerref09_Same.l0])
  | succ k1 =>
   have H := HA.out
   clear HA
   simp only [garnerref09_Same.l0] at H
   by_cases c4 : Aa < (l0.length : Int)
   rotate_left
   ·rw [if_neg c4] at H
    have c4b0 : decide (Aa < (l0.length : Int)) = false := decide_eq_false c4
    clear c4
    obtain rfl := Option.some.inj H
    go_wp2
    repeat (go_quiet (fail); try go_wp2)
    go_ret
    exact ⟨by first | rfl | (simp; done) | (simp [*]; done), by repeat (first | exact Drawn0.refl _ | apply Drawn0.step)⟩
   rw [if_pos c4] at H
   have c4b0 : decide (Aa < (l0.length : Int)) = true := decide_eq_true c4
   clear c4
   by_cases c5 : 0 ≤ Aa
   rotate_left
   ·rw [if_neg c5] at H
    exact absurd H (by simp)
   rw [if_pos c5] at H
   have c5b0 : decide (0 ≤ Aa) = true := decide_eq_true c5
   clear c5
   by_cases c6 : Aa < (l1.length : Int)
   rotate_left
   ·rw [if_neg c6] at H
    exact absurd H (by simp)
   rw [if_pos c6] at H
   have c6b0 : decide (Aa < (l1.length : Int)) = true := decide_eq_true c6
   clear c6
   by_cases c7 : (!(((rd_T46 l0 Aa).f0) == ((rd_T46 l1 Aa).f0)) || (!(((rd_T46 l0 Aa).f1) == ((rd_T46 l1 Aa).f1)))) = true
   ·rw [if_pos c7] at H
    have c7b0 : (!(((rd_T46 l0 Aa).f0) == ((rd_T46 l1 Aa).f0)) || (!(((rd_T46 l0 Aa).f1) == ((rd_T46 l1 Aa).f1)))) = true := c7
    clear c7
    obtain rfl := Option.some.inj H
    have p199 : 0 ≤ (Aa : Int) := of_decide_eq_true pS
    have q199 : Aa < (l0.length : Int) := of_decide_eq_true pS
    obtain ⟨Af, e199, Ab, Ac⟩ := at_T46 HR0.out Aa p199 q199
    cases e199
    replace p199 := eq_true p199
    replace q199 := eq_true q199
    have p200 : 0 ≤ (Aa : Int) := of_decide_eq_true pS
    have q200 : Aa < (l1.length : Int) := of_decide_eq_true pS
    obtain ⟨Ag, e200, Ad, Ae⟩ := at_T46 HR1.out Aa p200 q200
    cases e200
    replace p200 := eq_true p200
    replace q200 := eq_true q200
    go_wp2
    repeat (go_quiet (fail); try go_wp2)
    go_ret
    exact ⟨by first | rfl | (simp; done) | (simp [*]; done), by repeat (first | exact Drawn0.refl _ | apply Drawn0.step)⟩
   rw [if_neg c7] at H
   have c7b0 : (!(((rd_T46 l0 Aa).f0) == ((rd_T46 l1 Aa).f0)) || (!(((rd_T46 l0 Aa).f1) == ((rd_T46 l1 Aa).f1)))) = false := by simpa using c7
   clear c7
   have H' := Am H
   clear H
   have p199 : 0 ≤ (Aa : Int) := of_decide_eq_true pS
   have q199 : Aa < (l0.length : Int) := of_decide_eq_true pS
   obtain ⟨Af, e199, Ab, Ac⟩ := at_T46 HR0.out Aa p199 q199
   cases e199
   replace p199 := eq_true p199
   replace q199 := eq_true q199
   have p200 : 0 ≤ (Aa : Int) := of_decide_eq_true pS
   have q200 : Aa < (l1.length : Int) := of_decide_eq_true pS
   obtain ⟨Ag, e200, Ad, Ae⟩ := at_T46 HR1.out Aa p200 q200
   cases e200
   replace p200 := eq_true p200
   replace q200 := eq_true q200
   go_wp2
   repeat (go_quiet (fail); try go_wp2)
   go_roundg k1
   case measure => have := HK1.out; omega
   case rel => exact ⟨(wrap64 (Aa + 1)), (by first | rfl | (simp; done) | (simp [*]; done)), H', ⟨by have := HK1.out; omega⟩, by repeat (first | exact Drawn0.refl _ | apply Drawn0.step)⟩
end Go.Proofs.Ytkapmlijeilieaa.PTallyAdds
