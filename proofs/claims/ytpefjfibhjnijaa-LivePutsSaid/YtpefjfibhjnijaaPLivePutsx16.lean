/- What the law reaches, as plain Lean functions, and that the machine's calls answer just that. -/
import Derived.Test.YtpefjfibhjnijaaPLivePutsx0
import Derived.Test.YtpefjfibhjnijaaPLivePutsx4
import Derived.Maps.OwnSet
import Derived.Maps.RangeRun
import Derived.DeepKeys4
import Derived.Sort.MapsRangeIn
import Derived.RangeFuncMany
import Derived.RangeFuncGives
import Derived.RangeFuncLeaves
import Derived.RangeFuncCalls
import Derived.WalkKit
import Derived.OwnWalkIn
import Derived.TacticsInMore
import Derived.RegionIn
import Derived.LoopNIn
import Derived.LoopIn
import Derived.Shelf.Abstract
import Derived.Shelf.AbstractIn
import Derived.Maps.AppendAt
import Derived.Shelf.SlIter.Collect
import Derived.Test.YtpefjfibhjnijaaPLivePutsx5
import Derived.Test.YtpefjfibhjnijaaPLivePutsx7
import Derived.Test.YtpefjfibhjnijaaPLivePutsx9
namespace Go.Proofs.Ytpefjfibhjnijaa.PLivePuts
open Go.RowKit Go.Proofs.YtpefjfibhjnijaaW.PrintWords Go.Proofs.YtpefjfibhjnijaaW.PrintLast Go.Proofs.YtpefjfibhjnijaaW.PrintMore
set_option linter.unusedVariables false
set_option linter.unusedSimpArgs false
section
attribute [local go_sem] max2_int min2_int max_two min_two max_three min_three max_four min_four
attribute [local go_sem] wrap64_l1 wrap64_l2 wrap64_l3 wrap64_l4 wrap64_l5
attribute [local go_sem high] eqA79
def garnerref09_Same.l0 : Nat → List (S79) → List (S79) → Int → Option (Bool)
 | 0, _, _, _ => none
 | k + 1, x0, x1, x5 => if x5 < (x0.length : Int) then (if 0 ≤ x5 then (if x5 < (x1.length : Int) then (if (!(((rd_T79 x0 x5).f0) == ((rd_T79 x1 x5).f0)) || (!(((rd_T79 x0 x5).f1) == ((rd_T79 x1 x5).f1)))) = true then (some false) else (garnerref09_Same.l0 k x0 x1 (wrap64 (x5 + 1)))) else (none)) else (none)) else (some true)
def garnerref09_Same.f (k : Nat) (l0 : List (S79)) (l1 : List (S79)) : Option (Bool) := if (l0.length : Int) = (l1.length : Int) then (garnerref09_Same.l0 k l0 l1 0) else (some false)
theorem garnerref09_Same.mono_l : ∀ k, (∀ y0 y1 y2, LeO (garnerref09_Same.l0 k y0 y1 y2) (garnerref09_Same.l0 (k + 1) y0 y1 y2))
 | 0 => fun _ _ _ r h => by simp [garnerref09_Same.l0] at h
 | k + 1 => by
  have ih0 := garnerref09_Same.mono_l k
  ·intro y0 y1 y2
   unfold garnerref09_Same.l0
   repeat' first
   | (with_reducible exact ih0 _ _ _)
   | (with_reducible exact LeO.refl _)
   | (with_reducible exact LeO.none _)
   | (with_reducible refine LeO.ite ?_ ?_)
   | (with_reducible refine LeO.bind ?_ (fun _ => ?_))
   | exact ih0 _ _ _
   | exact LeO.none _
   | refine LeO.ite ?_ ?_
   | refine LeO.bind ?_ (fun _ => ?_)
theorem garnerref09_Same.mono : ∀ a0 a1 k, LeO (garnerref09_Same.f k a0 a1) (garnerref09_Same.f (k + 1) a0 a1) := by
 intro a0 a1 k
 have ih0 := garnerref09_Same.mono_l k
 unfold garnerref09_Same.f
 repeat' first
   | (with_reducible exact ih0 _ _ _)
   | (with_reducible exact LeO.refl _)
   | (with_reducible exact LeO.none _)
   | (with_reducible refine LeO.ite ?_ ?_)
   | (with_reducible refine LeO.bind ?_ (fun _ => ?_))
   | exact ih0 _ _ _
   | exact LeO.none _
   | refine LeO.ite ?_ ?_
   | refine LeO.bind ?_ (fun _ => ?_)
set_option maxHeartbeats 8000000 in
set_option maxRecDepth 100000 in
theorem garnerref09_Same.calls (k : Nat) (A0 : Option Addr) (c0 : Nat) (l0 : List (S79)) (A1 : Option Addr) (c1 : Nat) (l1 : List (S79)) (r : Bool) (w : World) (hr0 : Kd.C k79 w A0 l0.length l0) (hc0 : l0.length ≤ c0) (hr1 : Kd.C k79 w A1 l1.length l1) (hc1 : l1.length ≤ c1) (h : garnerref09_Same.f k l0 l1 = some r) :
  Calls Try.prog 37 #[.slice A0 l0.length c0, .slice A1 l1.length c1] w fun e w' => e = .returned (.bool r) ∧ Drawn0 w w' := by
 have hu79 := Try.underlying79
 have HR0 := Am hr0
 have HC0 := Am hc0
 clear hr0 hc0
 have HR1 := Am hr1
 have HC1 := Am hc1
 clear hr1 hc1
 have H : (if (l0.length : Int) = (l1.length : Int) then (garnerref09_Same.l0 k l0 l1 0) else (some false)) = some r := h
 clear h
 by_cases c3 : (l0.length : Int) = (l1.length : Int)
 rotate_left
 ·rw [if_neg c3] at H
  have c3b0 : ((l0.length : Int) == (l1.length : Int)) = false := beq_eq_false_iff_ne.mpr c3
  have c3b1 : ((l0.length : Int) != (l1.length : Int)) = true := bne_iff_ne.mpr c3
  have c3b2 : (l0.length == l1.length) = false := by first | simpa using c3 | (simp at c3 ⊢; omega)
  obtain rfl := Option.some.inj H
  go_enter Try.func37, Try.ntmps37
  go_wp2
  repeat (go_quiet (fail); try go_wp2)
  go_ret
  exact ⟨by first | rfl | (simp; done) | (simp [*]; done), by repeat (first | exact Drawn0.refl _ | apply Drawn0.step)⟩
 rw [if_pos c3] at H
 have c3b0 : ((l0.length : Int) == (l1.length : Int)) = true := beq_iff_eq.mpr c3
 have c3b1 : ((l0.length : Int) != (l1.length : Int)) = false := bne_eq_false_iff_eq.mpr c3
 have c3b2 : (l0.length == l1.length) = true := by first | simpa using c3 | (simp at c3 ⊢; omega)
 clear c3
 have H' := Am H
 clear H
 go_enter Try.func37, Try.ntmps37
 go_wp2
 repeat (go_quiet (fail); try go_wp2)
 go_loopg [5] k (fun kq v5 w' => ∃ (Aa : Int), v5 = .int .i64 Aa ∧ Aside0 (garnerref09_Same.l0 kq l0 l1 Aa = some r) ∧ Aside0 (kq ≤ k) ∧ Drawn0 w w')
 case atStart => exact ⟨(0), (by first | rfl | (simp; done) | (simp [*]; done)), H', ⟨Nat.le_refl _⟩, by repeat (first | exact Drawn0.refl _ | apply Drawn0.step)⟩
 case round =>
  clear H'
  try clear c1
  try clear p2
  try clear c3
  try clear c3b0
  try clear c3b1
  try clear c3b2
  obtain ⟨Aa, rfl, HA, HK1, ⟨m1, rfl⟩⟩ := hrel
  cases gk with
  | zero => exact absurd HA.out (by simp [garnerref09_Same.l0])
  | succ k1 =>
   have H := HA.out
   clear HA
   simp only [garnerref09_Same.l0] at H
   by_cases c4 : Aa < (l0.length : Int)
   rotate_left
   ·rw [if_neg c4] at H
    have c4b0 : decide (Aa < (l0.length : Int)) = false := decide_eq_false c4
    clear c4
    obtain rfl := Option.some.inj H
    go_wp2
    repeat (go_quiet (fail); try go_wp2)
    go_ret
    exact ⟨by first | rfl | (simp; done) | (simp [*]; done), by repeat (first | exact Drawn0.refl _ | apply Drawn0.step)⟩
   rw [if_pos c4] at H
   have c4b0 : decide (Aa < (l0.length : Int)) = true := decide_eq_true c4
   clear c4
   by_cases c5 : 0 ≤ Aa
   rotate_left
   ·rw [if_neg c5] at H
    exact absurd H (by simp)
   rw [if_pos c5] at H
   have c5b0 : decide (0 ≤ Aa) = true := decide_eq_true c5
   clear c5
   by_cases c6 : Aa < (l1.length : Int)
   rotate_left
   ·rw [if_neg c6] at H
    exact absurd H (by simp)
   rw [if_pos c6] at H
   have c6b0 : decide (Aa < (l1.length : Int)) = true := decide_eq_true c6
   clear c6
   by_cases c7 : (!(((rd_T79 l0 Aa).f0) == ((rd_T79 l1 Aa).f0)) || (!(((rd_T79 l0 Aa).f1) == ((rd_T79 l1 Aa).f1)))) = true
   ·rw [if_pos c7] at H
    have c7b0 : (!(((rd_T79 l0 Aa).f0) == ((rd_T79 l1 Aa).f0)) || (!(((rd_T79 l0 Aa).f1) == ((rd_T79 l1 Aa).f1)))) = true := c7
    clear c7
    obtain rfl := Option.some.inj H
    have p237 : 0 ≤ (Aa : Int) := of_decide_eq_true pS
    have q237 : Aa < (l0.length : Int) := of_decide_eq_true pS
    obtain ⟨Af, e237, Ab, Ac⟩ := at_T79 HR0.out Aa p237 q237
    cases e237
    replace p237 := eq_true p237
    replace q237 := eq_true q237
    have p238 : 0 ≤ (Aa : Int) := of_decide_eq_true pS
    have q238 : Aa < (l1.length : Int) := of_decide_eq_true pS
    obtain ⟨Ag, e238, Ad, Ae⟩ := at_T79 HR1.out Aa p238 q238
    cases e238
    replace p238 := eq_true p238
    replace q238 := eq_true q238
    go_wp2
    repeat (go_quiet (fail); try go_wp2)
    go_ret
    exact ⟨by first | rfl | (simp; done) | (simp [*]; done), by repeat (first | exact Drawn0.refl _ | apply Drawn0.step)⟩
   rw [if_neg c7] at H
   have c7b0 : (!(((rd_T79 l0 Aa).f0) == ((rd_T79 l1 Aa).f0)) || (!(((rd_T79 l0 Aa).f1) == ((rd_T79 l1 Aa).f1)))) = false := by simpa using c7
   clear c7
   have H' := Am H
   clear H
   have p237 : 0 ≤ (Aa : Int) := of_decide_eq_true pS
   have q237 : Aa < (l0.length : Int) := of_decide_eq_true pS
   obtain ⟨Af, e237, Ab, Ac⟩ := at_T79 HR0.out Aa p237 q237
   cases e237
   replace p237 := eq_true p237
   replace q237 := eq_true q237
   have p238 : 0 ≤ (Aa : Int) := of_decide_eq_true pS
   have q238 : Aa < (l1.length : Int) := of_decide_eq_true pS
   obtain ⟨Ag, e238, Ad, Ae⟩ := at_T79 HR1.out Aa p238 q238
   cases e238
   replace p238 := eq_true p238
   replace q238 := eq_true q238
   go_wp2
   repeat (go_quiet (fail); try go_wp2)
   go_roundg k1
   case measure => have := HK1.out; omega
   case rel => exact ⟨(wrap64 (Aa + 1)), (by first | rfl | (simp; done) | (simp [*]; done)), H', ⟨by have := HK1.out; omega⟩, by repeat (first | exact Drawn0.refl _ | apply Drawn0.step)⟩
mutual
def garnerref09_Set.l0 : Nat → List (S79) → Int → Int → List (S79) → Bool → Int → Option ((List (S79)))
 | 0, _, _, _, _, _, _ => none
 | k + 1, x0, x1, x2, x7, x8, x9 => if x9 < (x0.length : Int) then (if x8 = true then (garnerref09_Set.j1 k x0 x1 x2 x7 x8 x9 false) else (if 0 ≤ x9 then (garnerref09_Set.j1 k x0 x1 x2 x7 x8 x9 (decide (((rd_T79 x0 x9).f0) ≥ x1))) else (none))) else (if x8 = true then (some x7) else (if x7.length < 8796093022208 then (some (x7 ++ [(⟨x1, x2⟩ : S79)])) else (none)))
def garnerref09_Set.j1 : Nat → List (S79) → Int → Int → List (S79) → Bool → Int → Bool → Option ((List (S79)))
 | 0, _, _, _, _, _, _, _ => none
 | k + 1, x0, x1, x2, x7, x8, x9, x29 => if x29 = true then (if x7.length < 8796093022208 then ((some (x7 ++ [(⟨x1, x2⟩ : S79)] : List (S79))).bind fun y246 => (if 0 ≤ x9 then (if x9 < (x0.length : Int) then (if ((rd_T79 x0 x9).f0) = x1 then (garnerref09_Set.l0 k x0 x1 x2 y246 true (wrap64 (x9 + 1))) else (if y246.length < 8796093022208 then (garnerref09_Set.l0 k x0 x1 x2 (y246 ++ [(⟨(rd_T79 x0 x9).f0, (rd_T79 x0 x9).f1⟩ : S79)]) true (wrap64 (x9 + 1))) else (none))) else (none)) else (none))) else (none)) else (if 0 ≤ x9 then (if x9 < (x0.length : Int) then (if ((rd_T79 x0 x9).f0) = x1 then (garnerref09_Set.l0 k x0 x1 x2 x7 x8 (wrap64 (x9 + 1))) else (if x7.length < 8796093022208 then (garnerref09_Set.l0 k x0 x1 x2 (x7 ++ [(⟨(rd_T79 x0 x9).f0, (rd_T79 x0 x9).f1⟩ : S79)]) x8 (wrap64 (x9 + 1))) else (none))) else (none)) else (none))
end
def garnerref09_Set.f (k : Nat) (l0 : List (S79)) (a1 : Int) (a2 : Int) : Option ((List (S79))) := garnerref09_Set.l0 k l0 a1 a2 (([] : List (S79))) (a2 == 0) 0
theorem garnerref09_Set.mono_l : ∀ k, (∀ y0 y1 y2 y3 y4 y5, LeO (garnerref09_Set.l0 k y0 y1 y2 y3 y4 y5) (garnerref09_Set.l0 (k + 1) y0 y1 y2 y3 y4 y5)) ∧ (∀ y0 y1 y2 y3 y4 y5 y6, LeO (garnerref09_Set.j1 k y0 y1 y2 y3 y4 y5 y6) (garnerref09_Set.j1 (k + 1) y0 y1 y2 y3 y4 y5 y6))
 | 0 => ⟨fun _ _ _ _ _ _ r h => by simp [garnerref09_Set.l0] at h, fun _ _ _ _ _ _ _ r h => by simp [garnerref09_Set.j1] at h⟩
 | k + 1 => by
  obtain ⟨ih0, ih1⟩ := garnerref09_Set.mono_l k
  refine ⟨?_, ?_⟩
  ·intro y0 y1 y2 y3 y4 y5
   unfold garnerref09_Set.l0
   repeat' first
   | (with_reducible exact ih0 _ _ _ _ _ _)
   | (with_reducible exact ih1 _ _ _ _ _ _ _)
   | (with_reducible exact LeO.refl _)
   | (with_reducible exact LeO.none _)
   | (with_reducible refine LeO.ite ?_ ?_)
   | (with_reducible refine LeO.bind ?_ (fun _ => ?_))
   | exact ih0 _ _ _ _ _ _
   | exact ih1 _ _ _ _ _ _ _
   | exact LeO.none _
   | refine LeO.ite ?_ ?_
   | refine LeO.bind ?_ (fun _ => ?_)
  ·intro y0 y1 y2 y3 y4 y5 y6
   unfold garnerref09_Set.j1
   repeat' first
   | (with_reducible exact ih0 _ _ _ _ _ _)
   | (with_reducible exact ih1 _ _ _ _ _ _ _)
   | (with_reducible exact LeO.refl _)
   | (with_reducible exact LeO.none _)
   | (with_reducible refine LeO.ite ?_ ?_)
   | (with_reducible refine LeO.bind ?_ (fun _ => ?_))
   | exact ih0 _ _ _ _ _ _
   | exact ih1 _ _ _ _ _ _ _
   | exact LeO.none _
   | refine LeO.ite ?_ ?_
   | refine LeO.bind ?_ (fun _ => ?_)
theorem garnerref09_Set.mono : ∀ a0 a1 a2 k, LeO (garnerref09_Set.f k a0 a1 a2) (garnerref09_Set.f (k + 1) a0 a1 a2) := by
 intro a0 a1 a2 k
 obtain ⟨ih0, ih1⟩ := garnerref09_Set.mono_l k
 unfold garnerref09_Set.f
 repeat' first
   | (with_reducible exact ih0 _ _ _ _ _ _)
   | (with_reducible exact ih1 _ _ _ _ _ _ _)
   | (with_reducible exact LeO.refl _)
   | (with_reducible exact LeO.none _)
   | (with_reducible refine LeO.ite ?_ ?_)
   | (with_reducible refine LeO.bind ?_ (fun _ => ?_))
   | exact ih0 _ _ _ _ _ _
   | exact ih1 _ _ _ _ _ _ _
   | exact LeO.none _
   | refine LeO.ite ?_ ?_
   | refine LeO.bind ?_ (fun _ => ?_)
set_option maxHeartbeats 8000000 in
set_option maxRecDepth 100000 in
theorem garnerref09_Set.calls (k : Nat) (A0 : Option Addr) (c0 : Nat) (l0 : List (S79)) (a1 : Int) (a2 : Int) (r : List (S79)) (w : World) (hr0 : Kd.C k79 w A0 l0.length l0) (hc0 : l0.length ≤ c0) (h : garnerref09_Set.f k l0 a1 a2 = some r) :
  Calls Try.prog 55 #[.slice A0 l0.length c0, .int .i64 a1, .int .i64 a2] w fun e w' => ∃ v0_ : Value, e = .returned (v0_) ∧ Kd.R k79 79 w' w.heap.size (fun _ => True) v0_ r ∧ Below w.heap.size w w' := by
 have hu79 := Try.underlying79
 have HR0 := Am hr0
 have HC0 := Am hc0
 clear hr0 hc0
 have HB := Am (Below.refl w.heap.size w)
 have H : (garnerref09_Set.l0 k l0 a1 a2 (([] : List (S79))) (a2 == 0) 0) = some r := h
 clear h
 obtain ⟨y239, hy239⟩ : ∃ y_ : List (S79), y_ = (([] : List (S79))) := ⟨_, rfl⟩
 replace H : (garnerref09_Set.l0 k l0 a1 a2 y239 (a2 == 0) 0) = some r := by first | (rw [hy239]; with_reducible exact H) | (have H2_ := (Option.bind_some _ _).symm.trans H; rw [hy239]; with_reducible exact H2_) | (have H2_ := (Option.bind_some _ _).symm.trans H; with_reducible exact H2_) | with_reducible exact H | (rw [hy239]; exact H) | exact H
 have Ny239 := Am hy239
 clear hy239
 have H' := Am H
 clear H
 go_enter Try.func55, Try.ntmps55
 go_wp2_with (first | ((with_reducible refine gate_dst (N := 10) rfl ?_); refine Kd.R_lit k79 _ 79 ?hg (N := 10) ?hd (xs := ([] : List (S79))) (inner := []) (ok := fun _ => True) (okp := fun _ => True) ?hr ?hp (fun _ hk => hk) trivial (Below.refl _ _) (Nat.le_refl _) (by simp) ?_; (case hd => rfl); (case hg => rfl); (case hr => first | (go_simp; done) | (go_simp; rfl)); (case hp => exact (Reps.none _ _)); intro v240 w4 ho5 hb hg_ hnew_; clear hg_ hnew_; (first | rw [← Ny239.out] at ho5 | (simp only [Int.reduceToNat] at ho5; rw [← Ny239.out] at ho5)); have Aq := Am (Kd.R_lower ho5 (below_size (pB HB.out))); replace HB := Am (below_step (pB HB.out) hb); clear hb ho5))
 go_loopg [7, 8, 9] k (fun kq v7 v8 v9 w' => ∃ (Ab : List (S79)) (Af : Bool) (Aa : Int), v8 = .bool Af ∧ v9 = .int .i64 Aa ∧ Aside0 (garnerref09_Set.l0 kq l0 a1 a2 Ab Af Aa = some r) ∧ Aside0 (kq ≤ k) ∧ Aside0 (Kd.R k79 79 w' w.heap.size (fun _ => True) v7 Ab) ∧ Aside0 (Below w.heap.size w w'))
 case atStart => exact ⟨(y239), ((a2 == 0)), (0), (by first | rfl | (simp; done) | (simp [*]; done)), (by first | rfl | (simp; done) | (simp [*]; done)), H', ⟨Nat.le_refl _⟩, ⟨by (with_reducible repeat (first | apply Kd.R_alloc | apply Kd.R_drewN | apply Kd.R_drew)); exact Aq.out⟩, ⟨pB HB.out⟩⟩
 case round =>
  clear H'
  try clear p2
  try clear c5
  obtain ⟨Ab, Af, Aa, rfl, rfl, HA, HK1, Ae, HB⟩ := hrel
  cases gk with
  | zero => exact absurd HA.out (by simp [garnerref09_Set.l0])
  | succ k1 =>
   have H := HA.out
   clear HA
   simp only [garnerref09_Set.l0] at H
   by_cases c6 : Aa < (l0.length : Int)
   rotate_left
   ·rw [if_neg c6] at H
    have c6b0 : decide (Aa < (l0.length : Int)) = false := decide_eq_false c6
    clear c6
    by_cases c24 : Af = true
    ·subst c24
     have H1 : (some Ab) = some r := by rw [if_pos rfl] at H; exact H
     clear H
     have H := H1
     clear H1
     obtain rfl := Option.some.inj H
     go_wp2
     go_ret
     exact ⟨_, pX, by (with_reducible repeat (first | apply Kd.R_alloc | apply Kd.R_drewN | apply Kd.R_drew)); exact Ae.out, pB HB.out⟩
    replace c24 := Bool.eq_false_iff.mpr c24
    subst c24
    have H1 : (if Ab.length < 8796093022208 then (some (Ab ++ [(⟨a1, a2⟩ : S79)])) else (none)) = some r := by rw [if_neg (show ¬ (false = true) by decide)] at H; exact H
    clear H
    have H := H1
    clear H1
    by_cases c25 : Ab.length < 8796093022208
    rotate_left
    ·rw [if_neg c25] at H
     exact absurd H (by simp)
    rw [if_pos c25] at H
    have LMc25 := Am c25
    clear c25
    obtain ⟨y242, hy242⟩ : ∃ y_ : List (S79), y_ = (Ab ++ [(⟨a1, a2⟩ : S79)]) := ⟨_, rfl⟩
    replace H : (some y242) = some r := by first | (rw [hy242]; with_reducible exact H) | (have H2_ := (Option.bind_some _ _).symm.trans H; rw [hy242]; with_reducible exact H2_) | (have H2_ := (Option.bind_some _ _).symm.trans H; with_reducible exact H2_) | with_reducible exact H | (rw [hy242]; exact H) | exact H
    have Ny242 := Am hy242
    clear hy242
    obtain rfl := Option.some.inj H
    go_wp2_with (first | ((with_reducible refine gate_builtin (b := .append) (xs := #[.tmp 52, .tmp 56]) rfl ?_); at_builtin; refine Kd.R_append k79 (w0 := w) w.heap.size rfl (.tmp 52) (.tmp 56) 39 79 (.agg #[(.int .i64 0), (.int .i64 0)]) 16 rfl Try.underlying39 info79 rfl (by decide) (by omega) u7 Ab (⟨a1, a2⟩ : S79) [.int .i64 a1, .int .i64 a2] (fun _ => True) (fun _ => False) rfl rfl ?aP (fun _ hk => hk.elim) ?aF ?aO ?aB ?aS ?aL ?_; (case aP => exact k79_mkM _ _ _ (⟨a1, a2⟩ : S79)); (case aB => exact (pB HB.out)); (case aF => exact (fun _ _ => trivial)); (case aO => exact (pR Ae.out)); (case aS => exact (below_size (pB HB.out))); (case aL => have := LMc25.out; omega); intro v243 w26 ho hb hg hat; rw [← Ny242.out] at ho; replace HB := Am (hb); have Av := Am (ho); clear Ae ho hb hg hat))
    go_ret
    exact ⟨_, pX, by (with_reducible repeat (first | apply Kd.R_alloc | apply Kd.R_drewN | apply Kd.R_drew)); exact Av.out, pB HB.out⟩
   rw [if_pos c6] at H
   have c6b0 : decide (Aa < (l0.length : Int)) = true := decide_eq_true c6
   clear c6
   have HC7 := Am H
   clear H
   go_upto_region 6 with (fail)
   go_cut [29] (fun v29 wc => ∃ (kq : Nat) (Ag : Bool), v29 = .bool Ag ∧ Aside0 (garnerref09_Set.j1 kq l0 a1 a2 Ab Af Aa Ag = some r) ∧ Aside0 (kq ≤ k1) ∧ Aside0 (Kd.R k79 79 wc w.heap.size (fun _ => True) u7 Ab) ∧ Aside0 (Below w.heap.size w wc))
   case first =>
    have H := HC7.out
    clear HC7
    by_cases c8 : Af = true
    ·subst c8
     have H1 : (garnerref09_Set.j1 k1 l0 a1 a2 Ab true Aa false) = some r := by rw [if_pos rfl] at H; exact H
     clear H
     have H := H1
     clear H1
     have H' := Am H
     clear H
     go_wp2
     go_meet
     case rel => exact ⟨_, (false), (by first | rfl | (simp; done) | (simp [*]; done)), H', ⟨by have := HK1.out; first | omega | exact Nat.le_refl _⟩, ⟨by (with_reducible repeat (first | apply Kd.R_alloc | apply Kd.R_drewN | apply Kd.R_drew)); exact Ae.out⟩, ⟨pB HB.out⟩⟩
    replace c8 := Bool.eq_false_iff.mpr c8
    subst c8
    have H1 : (if 0 ≤ Aa then (garnerref09_Set.j1 k1 l0 a1 a2 Ab false Aa (decide (((rd_T79 l0 Aa).f0) ≥ a1))) else (none)) = some r := by rw [if_neg (show ¬ (false = true) by decide)] at H; exact H
    clear H
    have H := H1
    clear H1
    by_cases c9 : 0 ≤ Aa
    rotate_left
    ·rw [if_neg c9] at H
     exact absurd H (by simp)
    rw [if_pos c9] at H
    have c9b0 : decide (0 ≤ Aa) = true := decide_eq_true c9
    clear c9
    (first | rw [c9b0] | (simp only [i64_w, i32_w]; rw [c9b0]) | skip)
    have H' := Am H
    clear H
    have p245 : 0 ≤ (Aa : Int) := of_decide_eq_true pS
    have q245 : Aa < (l0.length : Int) := of_decide_eq_true pS
    obtain ⟨ad245, e245, Ak, Al⟩ := at_T79u HR0.out Aa p245 q245 HB.out
    cases e245
    replace p245 := eq_true p245
    replace q245 := eq_true q245
    go_wp2
    go_meet
    case rel => exact ⟨_, (decide (((rd_T79 l0 Aa).f0) ≥ a1)), (by first | rfl | (simp; done) | (simp [*]; done)), H', ⟨by have := HK1.out; first | omega | exact Nat.le_refl _⟩, ⟨by (with_reducible repeat (first | apply Kd.R_alloc | apply Kd.R_drewN | apply Kd.R_drew)); exact Ae.out⟩, ⟨pB HB.out⟩⟩
   case rest =>
    clear HC7
    try clear p2
    try clear q2
    try clear hx2
    try clear c5
    try clear c6
    try clear c6b0
    try clear c8
    try clear c9
    try clear c9b0
    try clear Ak
    try clear Al
    try clear p2
    try clear p245
    try clear q245
    obtain ⟨kq, Ag, rfl, HA, HJ6, Ae, HB⟩ := hcut
    cases kq with
    | zero => exact absurd HA.out (by simp [garnerref09_Set.j1])
    | succ kj6 =>
     have H := HA.out
     clear HA
     simp only [garnerref09_Set.j1] at H
     by_cases c10 : Ag = true
     ·subst c10
      have H1 : (if Ab.length < 8796093022208 then ((some (Ab ++ [(⟨a1, a2⟩ : S79)] : List (S79))).bind fun y246 => (if 0 ≤ Aa then (if Aa < (l0.length : Int) then (if ((rd_T79 l0 Aa).f0) = a1 then (garnerref09_Set.l0 kj6 l0 a1 a2 y246 true (wrap64 (Aa + 1))) else (if y246.length < 8796093022208 then (garnerref09_Set.l0 kj6 l0 a1 a2 (y246 ++ [(⟨(rd_T79 l0 Aa).f0, (rd_T79 l0 Aa).f1⟩ : S79)]) true (wrap64 (Aa + 1))) else (none))) else (none)) else (none))) else (none)) = some r := by rw [if_pos rfl] at H; exact H
      clear H
      have H := H1
      clear H1
      by_cases c11 : Ab.length < 8796093022208
      rotate_left
      ·rw [if_neg c11] at H
       exact absurd H (by simp)
      rw [if_pos c11] at H
      have LMc11 := Am c11
      clear c11
      obtain ⟨y246, hy246⟩ : ∃ y_ : List (S79), y_ = (Ab ++ [(⟨a1, a2⟩ : S79)]) := ⟨_, rfl⟩
      replace H : (if 0 ≤ Aa then (if Aa < (l0.length : Int) then (if ((rd_T79 l0 Aa).f0) = a1 then (garnerref09_Set.l0 kj6 l0 a1 a2 y246 true (wrap64 (Aa + 1))) else (if y246.length < 8796093022208 then (garnerref09_Set.l0 kj6 l0 a1 a2 (y246 ++ [(⟨(rd_T79 l0 Aa).f0, (rd_T79 l0 Aa).f1⟩ : S79)]) true (wrap64 (Aa + 1))) else (none))) else (none)) else (none)) = some r := by first | (rw [hy246]; with_reducible exact H) | (have H2_ := (Option.bind_some _ _).symm.trans H; rw [hy246]; with_reducible exact H2_) | (have H2_ := (Option.bind_some _ _).symm.trans H; with_reducible exact H2_) | with_reducible exact H | (rw [hy246]; exact H) | exact H
      have Ny246 := Am hy246
      clear hy246
      by_cases c12 : 0 ≤ Aa
      rotate_left
      ·rw [if_neg c12] at H
       exact absurd H (by simp)
      rw [if_pos c12] at H
      have c12b0 : decide (0 ≤ Aa) = true := decide_eq_true c12
      clear c12
      by_cases c13 : Aa < (l0.length : Int)
      rotate_left
      ·rw [if_neg c13] at H
       exact absurd H (by simp)
      rw [if_pos c13] at H
      have c13b0 : decide (Aa < (l0.length : Int)) = true := decide_eq_true c13
      clear c13
      by_cases c14 : ((rd_T79 l0 Aa).f0) = a1
      ·rw [if_pos c14] at H
       have c14b0 : (((rd_T79 l0 Aa).f0) == a1) = true := beq_iff_eq.mpr c14
       have c14b1 : (((rd_T79 l0 Aa).f0) != a1) = false := bne_eq_false_iff_eq.mpr c14
       clear c14
       have H' := Am H
       clear H
       go_wp2_with (first | ((with_reducible refine gate_builtin (b := .append) (xs := #[.tmp 30, .tmp 34]) rfl ?_); at_builtin; refine Kd.R_append k79 (w0 := w) w.heap.size rfl (.tmp 30) (.tmp 34) 39 79 (.agg #[(.int .i64 0), (.int .i64 0)]) 16 rfl Try.underlying39 info79 rfl (by decide) (by omega) u7 Ab (⟨a1, a2⟩ : S79) [.int .i64 a1, .int .i64 a2] (fun _ => True) (fun _ => False) rfl rfl ?aP (fun _ hk => hk.elim) ?aF ?aO ?aB ?aS ?aL ?_; (case aP => exact k79_mkM _ _ _ (⟨a1, a2⟩ : S79)); (case aB => exact (pB HB.out)); (case aF => exact (fun _ _ => trivial)); (case aO => exact (pR Ae.out)); (case aS => exact (below_size (pB HB.out))); (case aL => have := LMc11.out; omega); intro v247 w15 ho hb hg hat; rw [← Ny246.out] at ho; replace HB := Am (hb); have Ah := Am (ho); clear Ae ho hb hg hat; have p249 : 0 ≤ (Aa : Int) := of_decide_eq_true pS; have q249 : Aa < (l0.length : Int) := of_decide_eq_true pS; obtain ⟨Ap, e249, Ac, Ad⟩ := at_T79 HR0.out Aa p249 q249; cases e249; replace Ac := cU HB.out Ac; replace Ad := cU HB.out Ad; replace p249 := eq_true p249; replace q249 := eq_true q249))
       go_roundg kj6
       case measure => have := HK1.out; have := HJ6.out; omega
       case rel => exact ⟨(y246), (true), (wrap64 (Aa + 1)), (by first | rfl | (simp; done) | (simp [*]; done)), (by first | rfl | (simp; done) | (simp [*]; done)), H', ⟨by have := HK1.out; have := HJ6.out; omega⟩, ⟨by (with_reducible repeat (first | apply Kd.R_alloc | apply Kd.R_drewN | apply Kd.R_drew)); exact Ah.out⟩, ⟨pB HB.out⟩⟩
      rw [if_neg c14] at H
      have c14b0 : (((rd_T79 l0 Aa).f0) == a1) = false := beq_eq_false_iff_ne.mpr c14
      have c14b1 : (((rd_T79 l0 Aa).f0) != a1) = true := bne_iff_ne.mpr c14
      by_cases c16 : y246.length < 8796093022208
      rotate_left
      ·rw [if_neg c16] at H
       exact absurd H (by simp)
      rw [if_pos c16] at H
      have LMc16 := Am c16
      clear c16
      obtain ⟨y251, hy251⟩ : ∃ y_ : List (S79), y_ = (y246 ++ [(⟨(rd_T79 l0 Aa).f0, (rd_T79 l0 Aa).f1⟩ : S79)]) := ⟨_, rfl⟩
      replace H : (garnerref09_Set.l0 kj6 l0 a1 a2 y251 true (wrap64 (Aa + 1))) = some r := by first | (rw [hy251]; with_reducible exact H) | (have H2_ := (Option.bind_some _ _).symm.trans H; rw [hy251]; with_reducible exact H2_) | (have H2_ := (Option.bind_some _ _).symm.trans H; with_reducible exact H2_) | with_reducible exact H | (rw [hy251]; exact H) | exact H
      have Ny251 := Am hy251
      clear hy251
      have H' := Am H
      clear H
      go_wp2_with (first | ((with_reducible refine gate_builtin (b := .append) (xs := #[.tmp 30, .tmp 34]) rfl ?_); at_builtin; refine Kd.R_append k79 (w0 := w) w.heap.size rfl (.tmp 30) (.tmp 34) 39 79 (.agg #[(.int .i64 0), (.int .i64 0)]) 16 rfl Try.underlying39 info79 rfl (by decide) (by omega) u7 Ab (⟨a1, a2⟩ : S79) [.int .i64 a1, .int .i64 a2] (fun _ => True) (fun _ => False) rfl rfl ?aP (fun _ hk => hk.elim) ?aF ?aO ?aB ?aS ?aL ?_; (case aP => exact k79_mkM _ _ _ (⟨a1, a2⟩ : S79)); (case aB => exact (pB HB.out)); (case aF => exact (fun _ _ => trivial)); (case aO => exact (pR Ae.out)); (case aS => exact (below_size (pB HB.out))); (case aL => have := LMc11.out; omega); intro v247 w17 ho hb hg hat; rw [← Ny246.out] at ho; replace HB := Am (hb); have Ah := Am (ho); clear Ae ho hb hg hat; have p249 : 0 ≤ (Aa : Int) := of_decide_eq_true pS; have q249 : Aa < (l0.length : Int) := of_decide_eq_true pS; obtain ⟨Ap, e249, Ac, Ad⟩ := at_T79 HR0.out Aa p249 q249; cases e249; replace Ac := cU HB.out Ac; replace Ad := cU HB.out Ad; replace p249 := eq_true p249; replace q249 := eq_true q249; have p250 : 0 ≤ (Aa : Int) := of_decide_eq_true pS; have q250 : Aa < (l0.length : Int) := of_decide_eq_true pS; obtain ⟨Ar, e250, Ai, Aj⟩ := at_T79 HR0.out Aa p250 q250; obtain rfl : Ap = Ar := (by injection e250); replace Ai := cU HB.out Ai; replace Aj := cU HB.out Aj; replace p250 := eq_true p250; replace q250 := eq_true q250) | ((with_reducible refine gate_builtin (b := .append) (xs := #[.tmp 43, .tmp 48]) rfl ?_); at_builtin; refine Kd.R_append k79 (w0 := w) w.heap.size rfl (.tmp 43) (.tmp 48) 39 79 (.agg #[(.int .i64 0), (.int .i64 0)]) 16 rfl Try.underlying39 info79 rfl (by decide) (by omega) v247 y246 (⟨(rd_T79 l0 Aa).f0, (rd_T79 l0 Aa).f1⟩ : S79) [.int .i64 ((rd_T79 l0 Aa).f0), .int .i64 ((rd_T79 l0 Aa).f1)] (fun _ => True) (fun _ => False) rfl rfl ?aP (fun _ hk => hk.elim) ?aF ?aO ?aB ?aS ?aL ?_; (case aP => exact k79_mkM _ _ _ (⟨(rd_T79 l0 Aa).f0, (rd_T79 l0 Aa).f1⟩ : S79)); (case aB => exact (pB HB.out)); (case aF => exact (fun _ _ => trivial)); (case aO => exact (pR Ah.out)); (case aS => exact (below_size (pB HB.out))); (case aL => have := LMc16.out; omega); intro v252 w18 ho hb hg hat; rw [← Ny251.out] at ho; replace HB := Am (hb); have As := Am (ho); clear Ah ho hb hg hat))
      go_roundg kj6
      case measure => have := HK1.out; have := HJ6.out; omega
      case rel => exact ⟨(y251), (true), (wrap64 (Aa + 1)), (by first | rfl | (simp; done) | (simp [*]; done)), (by first | rfl | (simp; done) | (simp [*]; done)), H', ⟨by have := HK1.out; have := HJ6.out; omega⟩, ⟨by (with_reducible repeat (first | apply Kd.R_alloc | apply Kd.R_drewN | apply Kd.R_drew)); exact As.out⟩, ⟨pB HB.out⟩⟩
     replace c10 := Bool.eq_false_iff.mpr c10
     subst c10
     have H1 : (if 0 ≤ Aa then (if Aa < (l0.length : Int) then (if ((rd_T79 l0 Aa).f0) = a1 then (garnerref09_Set.l0 kj6 l0 a1 a2 Ab Af (wrap64 (Aa + 1))) else (if Ab.length < 8796093022208 then (garnerref09_Set.l0 kj6 l0 a1 a2 (Ab ++ [(⟨(rd_T79 l0 Aa).f0, (rd_T79 l0 Aa).f1⟩ : S79)]) Af (wrap64 (Aa + 1))) else (none))) else (none)) else (none)) = some r := by rw [if_neg (show ¬ (false = true) by decide)] at H; exact H
     clear H
     have H := H1
     clear H1
     by_cases c19 : 0 ≤ Aa
     rotate_left
     ·rw [if_neg c19] at H
      exact absurd H (by simp)
     rw [if_pos c19] at H
     have c19b0 : decide (0 ≤ Aa) = true := decide_eq_true c19
     clear c19
     by_cases c20 : Aa < (l0.length : Int)
     rotate_left
     ·rw [if_neg c20] at H
      exact absurd H (by simp)
     rw [if_pos c20] at H
     have c20b0 : decide (Aa < (l0.length : Int)) = true := decide_eq_true c20
     clear c20
     by_cases c21 : ((rd_T79 l0 Aa).f0) = a1
     ·rw [if_pos c21] at H
      have c21b0 : (((rd_T79 l0 Aa).f0) == a1) = true := beq_iff_eq.mpr c21
      have c21b1 : (((rd_T79 l0 Aa).f0) != a1) = false := bne_eq_false_iff_eq.mpr c21
      clear c21
      have H' := Am H
      clear H
      have p254 : 0 ≤ (Aa : Int) := of_decide_eq_true pS
      have q254 : Aa < (l0.length : Int) := of_decide_eq_true pS
      obtain ⟨At, e254, An, Ao⟩ := at_T79u HR0.out Aa p254 q254 HB.out
      cases e254
      replace p254 := eq_true p254
      replace q254 := eq_true q254
      go_wp2
      go_roundg kj6
      case measure => have := HK1.out; have := HJ6.out; omega
      case rel => exact ⟨(Ab), (Af), (wrap64 (Aa + 1)), (by first | rfl | (simp; done) | (simp [*]; done)), (by first | rfl | (simp; done) | (simp [*]; done)), H', ⟨by have := HK1.out; have := HJ6.out; omega⟩, ⟨by (with_reducible repeat (first | apply Kd.R_alloc | apply Kd.R_drewN | apply Kd.R_drew)); exact Ae.out⟩, ⟨pB HB.out⟩⟩
     rw [if_neg c21] at H
     have c21b0 : (((rd_T79 l0 Aa).f0) == a1) = false := beq_eq_false_iff_ne.mpr c21
     have c21b1 : (((rd_T79 l0 Aa).f0) != a1) = true := bne_iff_ne.mpr c21
     by_cases c22 : Ab.length < 8796093022208
     rotate_left
     ·rw [if_neg c22] at H
      exact absurd H (by simp)
     rw [if_pos c22] at H
     have LMc22 := Am c22
     clear c22
     obtain ⟨y256, hy256⟩ : ∃ y_ : List (S79), y_ = (Ab ++ [(⟨(rd_T79 l0 Aa).f0, (rd_T79 l0 Aa).f1⟩ : S79)]) := ⟨_, rfl⟩
     replace H : (garnerref09_Set.l0 kj6 l0 a1 a2 y256 Af (wrap64 (Aa + 1))) = some r := by first | (rw [hy256]; with_reducible exact H) | (have H2_ := (Option.bind_some _ _).symm.trans H; rw [hy256]; with_reducible exact H2_) | (have H2_ := (Option.bind_some _ _).symm.trans H; with_reducible exact H2_) | with_reducible exact H | (rw [hy256]; exact H) | exact H
     have Ny256 := Am hy256
     clear hy256
     have H' := Am H
     clear H
     have p254 : 0 ≤ (Aa : Int) := of_decide_eq_true pS
     have q254 : Aa < (l0.length : Int) := of_decide_eq_true pS
     obtain ⟨At, e254, An, Ao⟩ := at_T79u HR0.out Aa p254 q254 HB.out
     cases e254
     replace p254 := eq_true p254
     replace q254 := eq_true q254
     go_wp2_with (first | ((with_reducible refine gate_builtin (b := .append) (xs := #[.tmp 43, .tmp 48]) rfl ?_); at_builtin; refine Kd.R_append k79 (w0 := w) w.heap.size rfl (.tmp 43) (.tmp 48) 39 79 (.agg #[(.int .i64 0), (.int .i64 0)]) 16 rfl Try.underlying39 info79 rfl (by decide) (by omega) u7 Ab (⟨(rd_T79 l0 Aa).f0, (rd_T79 l0 Aa).f1⟩ : S79) [.int .i64 ((rd_T79 l0 Aa).f0), .int .i64 ((rd_T79 l0 Aa).f1)] (fun _ => True) (fun _ => False) rfl rfl ?aP (fun _ hk => hk.elim) ?aF ?aO ?aB ?aS ?aL ?_; (case aP => exact k79_mkM _ _ _ (⟨(rd_T79 l0 Aa).f0, (rd_T79 l0 Aa).f1⟩ : S79)); (case aB => exact (pB HB.out)); (case aF => exact (fun _ _ => trivial)); (case aO => exact (pR Ae.out)); (case aS => exact (below_size (pB HB.out))); (case aL => have := LMc22.out; omega); intro v257 w23 ho hb hg hat; rw [← Ny256.out] at ho; replace HB := Am (hb); have Au := Am (ho); clear Ae ho hb hg hat))
     go_roundg kj6
     case measure => have := HK1.out; have := HJ6.out; omega
     case rel => exact ⟨(y256), (Af), (wrap64 (Aa + 1)), (by first | rfl | (simp; done) | (simp [*]; done)), (by first | rfl | (simp; done) | (simp [*]; done)), H', ⟨by have := HK1.out; have := HJ6.out; omega⟩, ⟨by (with_reducible repeat (first | apply Kd.R_alloc | apply Kd.R_drewN | apply Kd.R_drew)); exact Au.out⟩, ⟨pB HB.out⟩⟩
def garnerref09_Get.l0 : Nat → List (S79) → Int → Int → Option (Int)
 | 0, _, _, _ => none
 | k + 1, x0, x1, x5 => if x5 < (x0.length : Int) then (if 0 ≤ x5 then (if ((rd_T79 x0 x5).f0) = x1 then (some ((rd_T79 x0 x5).f1)) else (garnerref09_Get.l0 k x0 x1 (wrap64 (x5 + 1)))) else (none)) else (some 0)
def garnerref09_Get.f (k : Nat) (l0 : List (S79)) (a1 : Int) : Option (Int) := garnerref09_Get.l0 k l0 a1 0
theorem garnerref09_Get.mono_l : ∀ k, (∀ y0 y1 y2, LeO (garnerref09_Get.l0 k y0 y1 y2) (garnerref09_Get.l0 (k + 1) y0 y1 y2))
 | 0 => fun _ _ _ r h => by simp [garnerref09_Get.l0] at h
 | k + 1 => by
  have ih0 := garnerref09_Get.mono_l k
  ·intro y0 y1 y2
   unfold garnerref09_Get.l0
   repeat' first
   | (with_reducible exact ih0 _ _ _)
   | (with_reducible exact LeO.refl _)
   | (with_reducible exact LeO.none _)
   | (with_reducible refine LeO.ite ?_ ?_)
   | (with_reducible refine LeO.bind ?_ (fun _ => ?_))
   | exact ih0 _ _ _
   | exact LeO.none _
   | refine LeO.ite ?_ ?_
   | refine LeO.bind ?_ (fun _ => ?_)
theorem garnerref09_Get.mono : ∀ a0 a1 k, LeO (garnerref09_Get.f k a0 a1) (garnerref09_Get.f (k + 1) a0 a1) := by
 intro a0 a1 k
 have ih0 := garnerref09_Get.mono_l k
 unfold garnerref09_Get.f
 repeat' first
   | (with_reducible exact ih0 _ _ _)
   | (with_reducible exact LeO.refl _)
   | (with_reducible exact LeO.none _)
   | (with_reducible refine LeO.ite ?_ ?_)
   | (with_reducible refine LeO.bind ?_ (fun _ => ?_))
   | exact ih0 _ _ _
   | exact LeO.none _
   | refine LeO.ite ?_ ?_
   | refine LeO.bind ?_ (fun _ => ?_)
set_option maxHeartbeats 8000000 in
set_option maxRecDepth 100000 in
theorem garnerref09_Get.calls (k : Nat) (A0 : Option Addr) (c0 : Nat) (l0 : List (S79)) (a1 : Int) (r : Int) (w : World) (hr0 : Kd.C k79 w A0 l0.length l0) (hc0 : l0.length ≤ c0) (h : garnerref09_Get.f k l0 a1 = some r) :
  Calls Try.prog 56 #[.slice A0 l0.length c0, .int .i64 a1] w fun e w' => e = .returned (.int .i64 r) ∧ Drawn0 w w' := by
 have HR0 := Am hr0
 have HC0 := Am hc0
 clear hr0 hc0
 have H : (garnerref09_Get.l0 k l0 a1 0) = some r := h
 clear h
 have H' := Am H
 clear H
 go_enter Try.func56, Try.ntmps56
 go_wp2
 go_loopg [5] k (fun kq v5 w' => ∃ (Aa : Int), v5 = .int .i64 Aa ∧ Aside0 (garnerref09_Get.l0 kq l0 a1 Aa = some r) ∧ Aside0 (kq ≤ k) ∧ Drawn0 w w')
 case atStart => exact ⟨(0), (by first | rfl | (simp; done) | (simp [*]; done)), H', ⟨Nat.le_refl _⟩, by repeat (first | exact Drawn0.refl _ | apply Drawn0.step)⟩
 case round =>
  clear H'
  try clear p2
  obtain ⟨Aa, rfl, HA, HK1, ⟨m1, rfl⟩⟩ := hrel
  cases gk with
  | zero => exact absurd HA.out (by simp [garnerref09_Get.l0])
  | succ k1 =>
   have H := HA.out
   clear HA
   simp only [garnerref09_Get.l0] at H
   by_cases c3 : Aa < (l0.length : Int)
   rotate_left
   ·rw [if_neg c3] at H
    have c3b0 : decide (Aa < (l0.length : Int)) = false := decide_eq_false c3
    clear c3
    obtain rfl := Option.some.inj H
    go_wp2
    go_ret
    exact ⟨by first | rfl | (simp; done) | (simp [*]; done), by repeat (first | exact Drawn0.refl _ | apply Drawn0.step)⟩
   rw [if_pos c3] at H
   have c3b0 : decide (Aa < (l0.length : Int)) = true := decide_eq_true c3
   clear c3
   by_cases c4 : 0 ≤ Aa
   rotate_left
   ·rw [if_neg c4] at H
    exact absurd H (by simp)
   rw [if_pos c4] at H
   have c4b0 : decide (0 ≤ Aa) = true := decide_eq_true c4
   clear c4
   by_cases c5 : ((rd_T79 l0 Aa).f0) = a1
   ·rw [if_pos c5] at H
    have c5b0 : (((rd_T79 l0 Aa).f0) == a1) = true := beq_iff_eq.mpr c5
    have c5b1 : (((rd_T79 l0 Aa).f0) != a1) = false := bne_eq_false_iff_eq.mpr c5
    clear c5
    obtain rfl := Option.some.inj H
    have p259 : 0 ≤ (Aa : Int) := of_decide_eq_true pS
    have q259 : Aa < (l0.length : Int) := of_decide_eq_true pS
    obtain ⟨Ad, e259, Ab, Ac⟩ := at_T79 HR0.out Aa p259 q259
    cases e259
    replace p259 := eq_true p259
    replace q259 := eq_true q259
    go_wp2
    go_ret
    exact ⟨by first | rfl | (simp; done) | (simp [*]; done), by repeat (first | exact Drawn0.refl _ | apply Drawn0.step)⟩
   rw [if_neg c5] at H
   have c5b0 : (((rd_T79 l0 Aa).f0) == a1) = false := beq_eq_false_iff_ne.mpr c5
   have c5b1 : (((rd_T79 l0 Aa).f0) != a1) = true := bne_iff_ne.mpr c5
   have H' := Am H
   clear H
   have p259 : 0 ≤ (Aa : Int) := of_decide_eq_true pS
   have q259 : Aa < (l0.length : Int) := of_decide_eq_true pS
   obtain ⟨Ad, e259, Ab, Ac⟩ := at_T79 HR0.out Aa p259 q259
   cases e259
   replace p259 := eq_true p259
   replace q259 := eq_true q259
   go_wp2
   go_roundg k1
   case measure => have := HK1.out; omega
   case rel => exact ⟨(wrap64 (Aa + 1)), (by first | rfl | (simp; done) | (simp [*]; done)), H', ⟨by have := HK1.out; omega⟩, by repeat (first | exact Drawn0.refl _ | apply Drawn0.step)⟩
def garnerref09_Add.l0 : Nat → List (S79) → List (S24) → Int → Option ((List (S79)))
 | 0, _, _, _ => none
 | k + 1, x0, x1, x5 => if x5 < (x1.length : Int) then (if 0 ≤ x5 then ((garnerref09_Get.f k x0 ((rd_T24 x1 x5).f0)).bind fun t263 => ((garnerref09_Set.f k x0 ((rd_T24 x1 x5).f0) (wrap64 (t263 + ((rd_T24 x1 x5).f2)))).bind fun t265 => (garnerref09_Add.l0 k t265 x1 (wrap64 (x5 + 1))))) else (none)) else (some x0)
def garnerref09_Add.f (k : Nat) (l0 : List (S79)) (l1 : List (S24)) : Option ((List (S79))) := garnerref09_Add.l0 k l0 l1 0
theorem garnerref09_Add.mono_l : ∀ k, (∀ y0 y1 y2, LeO (garnerref09_Add.l0 k y0 y1 y2) (garnerref09_Add.l0 (k + 1) y0 y1 y2))
 | 0 => fun _ _ _ r h => by simp [garnerref09_Add.l0] at h
 | k + 1 => by
  have ih0 := garnerref09_Add.mono_l k
  ·intro y0 y1 y2
   unfold garnerref09_Add.l0
   repeat' first
   | (with_reducible exact ih0 _ _ _)
   | (with_reducible exact garnerref09_Get.mono _ _ _)
   | (with_reducible exact garnerref09_Set.mono _ _ _ _)
   | (with_reducible exact LeO.refl _)
   | (with_reducible exact LeO.none _)
   | (with_reducible refine LeO.ite ?_ ?_)
   | (with_reducible refine LeO.bind ?_ (fun _ => ?_))
   | exact ih0 _ _ _
   | exact garnerref09_Get.mono _ _ _
   | exact garnerref09_Set.mono _ _ _ _
   | exact LeO.none _
   | refine LeO.ite ?_ ?_
   | refine LeO.bind ?_ (fun _ => ?_)
theorem garnerref09_Add.mono : ∀ a0 a1 k, LeO (garnerref09_Add.f k a0 a1) (garnerref09_Add.f (k + 1) a0 a1) := by
 intro a0 a1 k
 have ih0 := garnerref09_Add.mono_l k
 unfold garnerref09_Add.f
 repeat' first
   | (with_reducible exact ih0 _ _ _)
   | (with_reducible exact garnerref09_Get.mono _ _ _)
   | (with_reducible exact garnerref09_Set.mono _ _ _ _)
   | (with_reducible exact LeO.refl _)
   | (with_reducible exact LeO.none _)
   | (with_reducible refine LeO.ite ?_ ?_)
   | (with_reducible refine LeO.bind ?_ (fun _ => ?_))
   | exact ih0 _ _ _
   | exact garnerref09_Get.mono _ _ _
   | exact garnerref09_Set.mono _ _ _ _
   | exact LeO.none _
   | refine LeO.ite ?_ ?_
   | refine LeO.bind ?_ (fun _ => ?_)
def garnerref09_Add.T4 : Bool × List (List Nat × List Nat) := (true, [([], []), ([], []), ([], []), ([1, 2], [1, 2]), ([3], [3]), ([4], [4]), ([], []), ([], []), ([], []), ([7, 8], [7, 8]), ([9], [9]), ([10], [10]), ([6, 11], [6, 11]), ([], []), ([], []), ([13, 14], [13, 14]), ([15], [15]), ([16], [16]), ([12, 17], [12, 17]), ([0, 5, 18, 12], [0, 5, 18]), ([19, 19, 0, 1, 2, 3, 4, 5, 6, 7, 8, 9, 10, 11, 12, 13, 14, 15, 16, 17, 18, 19], [0, 6, 19])])
def garnerref09_Add.B4 : List Nat := [0, 0, 0, 6, 14, 30, 0, 0, 0, 384, 896, 1920, 4032, 0, 0, 24576, 57344, 122880, 262080, 524287, 1048575]
theorem garnerref09_Add.tab4 : rtab .any (opsOf Try.f38 4) = garnerref09_Add.T4 := by kernel_rfl
theorem garnerref09_Add.bits4 : waitsOk garnerref09_Add.T4.2 garnerref09_Add.B4 = true := by kernel_rfl
set_option maxHeartbeats 8000000 in
set_option maxRecDepth 100000 in
theorem garnerref09_Add.calls (k : Nat) (P0_ : Nat → Prop) (A0 : Option Addr) (c0 : Nat) (l0 : List (S79)) (A1 : Option Addr) (c1 : Nat) (l1 : List (S24)) (r : List (S79)) (w : World) (hs0 : Kd.V k79 79 w w.heap.size (fun k_ => P0_ k_) (.slice A0 l0.length c0) l0) (hr1 : Kd.C k24 w A1 l1.length l1) (hc1 : l1.length ≤ c1) (h : garnerref09_Add.f k l0 l1 = some r) :
  Calls Try.prog 38 #[.slice A0 l0.length c0, .slice A1 l1.length c1] w fun e w' => ∃ v0_ : Value, e = .returned (v0_) ∧ Kd.V k79 79 w' w.heap.size (fun k_ => (P0_ k_ ∨ w.heap.size ≤ k_)) v0_ r ∧ Below w.heap.size w w' := by
 have Ar := Am (show Kd.V k79 79 w w.heap.size (fun k_ => (P0_ k_ ∨ w.heap.size ≤ k_)) (.slice A0 l0.length c0) l0 from Kd.V_mono hs0 (fun k_ hk => .inl hk))
 have HR1 := Am hr1
 have HC1 := Am hc1
 clear hr1 hc1
 have HB := Am (Below.refl w.heap.size w)
 have H : (garnerref09_Add.l0 k l0 l1 0) = some r := h
 clear h
 have H' := Am H
 clear H
 go_enter Try.func38, Try.ntmps38
 go_wp2
 go_loopg [0, 5] k (fun kq v0 v5 w' => ∃ (Ae : List (S79)) (Aa : Int), v5 = .int .i64 Aa ∧ Aside0 (garnerref09_Add.l0 kq Ae l1 Aa = some r) ∧ Aside0 (kq ≤ k) ∧ Aside0 (Kd.V k79 79 w' w.heap.size (fun k_ => (P0_ k_ ∨ w.heap.size ≤ k_)) v0 Ae) ∧ Aside0 (Below w.heap.size w w'))
 case atStart => exact ⟨(l0), (0), (by first | rfl | (simp; done) | (simp [*]; done)), H', ⟨Nat.le_refl _⟩, ⟨by (with_reducible repeat (first | apply Kd.V_alloc | apply Kd.V_drewN | apply Kd.V_drew)); exact Ar.out⟩, ⟨pB HB.out⟩⟩
 case round =>
  clear H'
  try clear c1
  try clear p2
  obtain ⟨Ae, Aa, rfl, HA, HK1, Ab, HB⟩ := hrel
  cases gk with
  | zero => exact absurd HA.out (by simp [garnerref09_Add.l0])
  | succ k1 =>
   have H := HA.out
   clear HA
   simp only [garnerref09_Add.l0] at H
   by_cases c3 : Aa < (l1.length : Int)
   rotate_left
   ·rw [if_neg c3] at H
    have c3b0 : decide (Aa < (l1.length : Int)) = false := decide_eq_false c3
    clear c3
    obtain rfl := Option.some.inj H
    go_wp2
    go_ret
    exact ⟨_, pX, by (with_reducible repeat (first | apply Kd.V_alloc | apply Kd.V_drewN | apply Kd.V_drew)); exact Ab.out, pB HB.out⟩
   rw [if_pos c3] at H
   have c3b0 : decide (Aa < (l1.length : Int)) = true := decide_eq_true c3
   clear c3
   by_cases c4 : 0 ≤ Aa
   rotate_left
   ·rw [if_neg c4] at H
    exact absurd H (by simp)
   rw [if_pos c4] at H
   have c4b0 : decide (0 ≤ Aa) = true := decide_eq_true c4
   clear c4
   replace H := Option.bind_eq_some_iff.mp H
   obtain ⟨t263, A50, H⟩ := H
   replace H : ((garnerref09_Set.f k1 Ae ((rd_T24 l1 Aa).f0) (wrap64 (t263 + ((rd_T24 l1 Aa).f2)))).bind fun t265 => (garnerref09_Add.l0 k1 t265 l1 (wrap64 (Aa + 1)))) = some r := H
   have A5 := Am A50
   clear A50
   replace H := Option.bind_eq_some_iff.mp H
   obtain ⟨t265, A60, H⟩ := H
   replace H : (garnerref09_Add.l0 k1 t265 l1 (wrap64 (Aa + 1))) = some r := H
   have A6 := Am A60
   clear A60
   have H' := Am H
   clear H
   try go_wp2
   replace Ab := dVa Ab
   replace HB := bDa HB
   have p261 : 0 ≤ (Aa : Int) := of_decide_eq_true pS
   have q261 : Aa < (l1.length : Int) := of_decide_eq_true pS
   obtain ⟨Al, e261, Af, Ag, Ah, Ai, Ac, _, Ad, _⟩ := at_T24w HR1.out Aa p261 q261 HB.out
   cases e261
   replace p261 := eq_true p261
   replace q261 := eq_true q261
   obtain ⟨Ao, Ap, Aq⟩ := Kd.V_slice Ab.out
   (first | subst Aq | (injection Aq with f1_ f2_ f3_; have f4_ := f1_.symm; have f5_ := f3_.symm; clear f1_ f2_ f3_; subst f4_; subst f5_))
   refine start_ (n := 21) (S := fun w' => w'.cell? (Al.add ((Aa).toNat * 4)) = some (.int .i64 ((rd_T24 l1 Aa).f0)) ∧ cA w' (Al.add ((Aa).toNat * 4)) 2 (.int .i64 ((rd_T24 l1 Aa).f2))) (ds := []) #[false, false, false, false, false, false, false, false, false, false, false, false, false, false, false, false, false, false, false, false, false] (by kernel_rfl) rfl rfl ⟨(cT HB.out Ac), (cT HB.out Ad)⟩ (fun hHeld => ?_); refine with_tabW garnerref09_Add.tab4 garnerref09_Add.bits4 (fun HT_ HW_ => ?_)
   (first | generalize wr.drew = w7 at Ab HB Af Ag Ah Ai hHeld ⊢ | generalize wr.drew = w7 at HB Af Ag Ah Ai hHeld ⊢)
   refine pui 0 12 21 1 HT_ ?_
   refine pui 1 13 21 3 HT_ ?_
   refine pui 2 14 21 7 HT_ ?_
   refine pui 3 15 21 15 HT_ ?_
   refine pui 4 16 21 31 HT_ ?_
   refine pui 6 18 21 95 HT_ ?_
   refine pui 7 19 21 223 HT_ ?_
   refine pui 8 20 21 479 HT_ ?_
   refine pui 9 21 21 991 HT_ ?_
   refine pui 10 22 21 2015 HT_ ?_
   refine pui 13 25 21 10207 HT_ ?_
   refine pui 14 26 21 26591 HT_ ?_
   refine pui 15 27 21 59359 HT_ ?_
   refine pui 16 28 21 124895 HT_ ?_
   refine tki 5 17 21 124927 HT_ HW_ hHeld ?_
   refine tki 11 23 21 126975 HT_ HW_ hHeld ?_
   refine tki 17 29 21 258047 HT_ HW_ hHeld ?_
   refine onei 12 24 21 262143 HT_ (fun K hK => ?_)
   refine goes_ Try.func56 (by kernel_rfl) rfl #[.slice Ao Ae.length Ap, .int .i64 ((rd_T24 l1 Aa).f0)] (by rfl) rfl rfl pL ?_
   with_reducible refine (garnerref09_Get.calls k1 _ _ Ae ((rd_T24 l1 Aa).f0) t263 _ ?Aj ?Ak A5.out).mono ?_
   (case Aj => exact pC (Kd.V_reads' Ab.out).2.2)
   (case Ak => exact (Kd.V_reads' Ab.out).2.1)
   rintro e w' ⟨rfl, ⟨nd, rfl⟩⟩
   refine ⟨_, rfl, ?_⟩
   refine hK.out _ _ ⟨(cT HB.out Ac), (cT HB.out Ad)⟩ (fun hHeld => ?_)
   clear hK K
   refine norm_ (a' := ?_) ?_ ?_
   rotate_left
   ·show Act.put _ (some 24) _ = _
    simp only [Act.put, List.setIfInBounds_toArray, List.set_cons_zero, List.set_cons_succ, i64_w, i32_w]
    rfl
   refine pui 18 30 21 524287 HT_ ?_
   refine onei 19 31 21 1048575 HT_ (fun K hK => ?_)
   refine goes_ Try.func55 (by kernel_rfl) rfl #[.slice Ao Ae.length Ap, .int .i64 ((rd_T24 l1 Aa).f0), .int .i64 (wrap64 (t263 + ((rd_T24 l1 Aa).f2)))] (by rfl) rfl rfl pL ?_
   with_reducible refine (garnerref09_Set.calls k1 _ _ Ae ((rd_T24 l1 Aa).f0) (wrap64 (t263 + ((rd_T24 l1 Aa).f2))) t265 _ ?Aj ?Ak A6.out).mono ?_
   (case Aj => exact pC (Kd.V_reads' Ab.out).2.2)
   (case Ak => exact (Kd.V_reads' Ab.out).2.1)
   rintro e w9 ⟨v266, rfl, ho0, hb⟩
   refine ⟨_, rfl, ?_⟩
   replace Ab := Am (Kd.V_elder' (pV Ab.out) (Kd.R_base ho0) hb)
   have An := Am (Kd.R_lower (Kd.R_newM (M := fun k_ => (w.heap.size ≤ k_)) ho0 (below_size (pB HB.out)) (fun k_ h_ => h_)) (below_size (pB HB.out)))
   replace HB := Am (below_step (pB HB.out) hb)
   (try clear hb)
   (try clear hb2)
   (try clear hk)
   (try clear hi)
   (try clear ho0)
   refine hK.out _ _ ⟨(cT HB.out Ac), (cT HB.out Ad)⟩ (fun hHeld => ?_)
   clear hK K
   refine norm_ (a' := ?_) ?_ ?_
   rotate_left
   ·show Act.put _ (some 31) _ = _
    simp only [Act.put, List.setIfInBounds_toArray, List.set_cons_zero, List.set_cons_succ, i64_w, i32_w]
    rfl
   refine pui 20 0 21 2097151 HT_ ?_
   refine done_ (done_of HT_.out (by kernel_rfl)) ?_
   try go_wp2
   go_roundg k1
   case measure => have := HK1.out; omega
   case rel => exact ⟨(t265), (wrap64 (Aa + 1)), (by first | rfl | (simp; done) | (simp [*]; done)), H', ⟨by have := HK1.out; omega⟩, ⟨Kd.V_mono (Kd.R_V (by (with_reducible repeat (first | apply Kd.R_alloc | apply Kd.R_drewN | apply Kd.R_drew)); exact Kd.R_mono An.out (fun _ hk => hk.1))) (fun k_ hk => by first | exact ⟨(.inr (hk.1)), hk.2⟩ | exact (.inr (hk)))⟩, ⟨pB HB.out⟩⟩
end
section
attribute [local go_sem] max2_int min2_int max_two min_two max_three min_three max_four min_four
attribute [local go_sem] wrap64_l1 wrap64_l2 wrap64_l3 wrap64_l4 wrap64_l5
theorem live_may_c (a0_0 : Int) (a0_1 : Int) (a0_2 : Int) (a0_3 : Int) (r : Bool) (w : World) (h : tally_may_1.f a0_0 a0_1 a0_2 a0_3 = some r) :
  Calls Try.prog 44 #[.agg #[.int .i64 a0_0, .int .i64 a0_1, .int .i64 a0_2, .int .u32 a0_3]] w fun e w' => e = .returned (.bool r) ∧ Below w.heap.size w w' := live_may_1.calls a0_0 a0_1 a0_2 a0_3 r w h
set_option maxHeartbeats 8000000 in
set_option maxRecDepth 100000 in
theorem live_IndexFunc_calls (k : Nat) (A0 : Option Addr) (c0 : Nat) (l0 : List (S24))  (r : Int) (w : World) (hr0 : Kd.C k24 w A0 l0.length l0) (hc0 : l0.length ≤ c0) (h : slices_IndexFunc_api_Point.f k l0 = some r) :
  Calls Try.prog 52 #[.slice A0 l0.length c0, .func (.func 44) #[] #[]] w fun e w' => e = .returned (.int .i64 r) ∧ Below w.heap.size w w' := by
 have hu24 := Try.underlying24
 have HR0 := Am hr0
 have HC0 := Am hc0
 clear hr0 hc0
 have HB := Am (Below.refl w.heap.size w)
 have H : (slices_IndexFunc_api_Point.l0 k l0 (l0.length : Int) 0) = some r := h
 clear h
 have H' := Am H
 clear H
 go_enter Try.func52, Try.ntmps52
 go_wp2
 go_loopg [8] k (fun kq v8 w' => ∃ (Aa : Int), v8 = .int .i64 Aa ∧ Aside0 (slices_IndexFunc_api_Point.l0 kq l0 (l0.length : Int) Aa = some r) ∧ Aside0 (kq ≤ k) ∧ Aside0 (Below w.heap.size w w'))
 case atStart => exact ⟨(0), (by first | rfl | (simp; done) | (simp [*]; done)), H', ⟨Nat.le_refl _⟩, ⟨pB HB.out⟩⟩
 case round =>
  clear H'
  try clear p2
  obtain ⟨Aa, rfl, HA, HK1, HB⟩ := hrel
  cases gk with
  | zero => exact absurd HA.out (by simp [slices_IndexFunc_api_Point.l0])
  | succ k1 =>
   have H := HA.out
   clear HA
   simp only [slices_IndexFunc_api_Point.l0] at H
   by_cases c3 : Aa < (l0.length : Int)
   rotate_left
   ·rw [if_neg c3] at H
    have c3b0 : decide (Aa < (l0.length : Int)) = false := decide_eq_false c3
    clear c3
    obtain rfl := Option.some.inj H
    go_wp2
    go_ret
    exact ⟨pX, pB HB.out⟩
   rw [if_pos c3] at H
   have c3b0 : decide (Aa < (l0.length : Int)) = true := decide_eq_true c3
   clear c3
   by_cases c4 : 0 ≤ Aa
   rotate_left
   ·rw [if_neg c4] at H
    exact absurd H (by simp)
   rw [if_pos c4] at H
   have c4b0 : decide (0 ≤ Aa) = true := decide_eq_true c4
   clear c4
   by_cases c5 : Aa < (l0.length : Int)
   rotate_left
   ·rw [if_neg c5] at H
    exact absurd H (by simp)
   rw [if_pos c5] at H
   have c5b0 : decide (Aa < (l0.length : Int)) = true := decide_eq_true c5
   clear c5
   replace H := Option.bind_eq_some_iff.mp H
   obtain ⟨t105, A60, H⟩ := H
   replace H : (if t105 = true then (some Aa) else (slices_IndexFunc_api_Point.l0 k1 l0 (l0.length : Int) (wrap64 (Aa + 1)))) = some r := H
   have A6 := Am A60
   clear A60
   by_cases c7 : t105 = true
   ·subst c7
    have H1 : (some Aa) = some r := by rw [if_pos rfl] at H; exact H
    clear H
    have H := H1
    clear H1
    obtain rfl := Option.some.inj H
    have p104 : 0 ≤ (Aa : Int) := of_decide_eq_true pS
    have q104 : Aa < (l0.length : Int) := of_decide_eq_true pS
    obtain ⟨Af, e104, Ab, Ac, Ad, Ae⟩ := at_T24u HR0.out Aa p104 q104 HB.out
    cases e104
    replace p104 := eq_true p104
    replace q104 := eq_true q104
    go_wp2_with (first | (go_at_call 44; (with_reducible refine (live_may_c ((rd_T24 l0 Aa).f0) ((rd_T24 l0 Aa).f1) ((rd_T24 l0 Aa).f2) ((rd_T24 l0 Aa).f3) true _ A6.out).mono ?_); rintro e w8 ⟨rfl, hb⟩; replace HB := Am (below_step (pB HB.out) hb); (try clear hb); (try clear hb2); (try clear hk); (try clear hi)))
    go_ret
    exact ⟨pX, pB HB.out⟩
   replace c7 := Bool.eq_false_iff.mpr c7
   subst c7
   have H1 : (slices_IndexFunc_api_Point.l0 k1 l0 (l0.length : Int) (wrap64 (Aa + 1))) = some r := by rw [if_neg (show ¬ (false = true) by decide)] at H; exact H
   clear H
   have H := H1
   clear H1
   have H' := Am H
   clear H
   have p104 : 0 ≤ (Aa : Int) := of_decide_eq_true pS
   have q104 : Aa < (l0.length : Int) := of_decide_eq_true pS
   obtain ⟨Af, e104, Ab, Ac, Ad, Ae⟩ := at_T24u HR0.out Aa p104 q104 HB.out
   cases e104
   replace p104 := eq_true p104
   replace q104 := eq_true q104
   go_wp2_with (first | (go_at_call 44; (with_reducible refine (live_may_c ((rd_T24 l0 Aa).f0) ((rd_T24 l0 Aa).f1) ((rd_T24 l0 Aa).f2) ((rd_T24 l0 Aa).f3) false _ A6.out).mono ?_); rintro e w9 ⟨rfl, hb⟩; replace HB := Am (below_step (pB HB.out) hb); (try clear hb); (try clear hb2); (try clear hk); (try clear hi)))
   go_roundg k1
   case measure => have := HK1.out; omega
   case rel => exact ⟨(wrap64 (Aa + 1)), (by first | rfl | (simp; done) | (simp [*]; done)), H', ⟨by have := HK1.out; omega⟩, ⟨pB HB.out⟩⟩
set_option maxHeartbeats 8000000 in
set_option maxRecDepth 100000 in
theorem live_ContainsFunc_calls (k : Nat) (A0 : Option Addr) (c0 : Nat) (l0 : List (S24))  (r : Bool) (w : World) (hr0 : Kd.C k24 w A0 l0.length l0) (hc0 : l0.length ≤ c0) (h : slices_ContainsFunc_api_Point.f k l0 = some r) :
  Calls Try.prog 43 #[.slice A0 l0.length c0, .func (.func 44) #[] #[]] w fun e w' => e = .returned (.bool r) ∧ Below w.heap.size w w' := by
 have HR0 := Am hr0
 have HC0 := Am hc0
 clear hr0 hc0
 have HB := Am (Below.refl w.heap.size w)
 have H : ((slices_IndexFunc_api_Point.f k l0).bind fun t106 => (some (decide (t106 ≥ 0)))) = some r := h
 clear h
 replace H := Option.bind_eq_some_iff.mp H
 obtain ⟨t106, A30, H⟩ := H
 replace H : (some (decide (t106 ≥ 0))) = some r := H
 have A3 := Am A30
 clear A30
 obtain rfl := Option.some.inj H
 go_enter Try.func43, Try.ntmps43
 go_wp2_with (first | ((with_reducible refine gate_callee (f := 52) rfl ?_); refine goesL_ (some 7) rfl rfl Try.func52 (by kernel_rfl) rfl #[.slice A0 l0.length c0, .func (.func 44) #[] #[]] rfl pL ?_; (with_reducible refine (live_IndexFunc_calls k _ _ l0 t106 _ ?side1 ?side2 A3.out).mono ?_); (case side1 => repeat (first | exact HR0.out | (with_reducible refine Kd.C_alloc ?_ _) | (with_reducible refine Kd.C_drewN ?_ _) | (with_reducible refine Kd.C_drew ?_))); (case side2 => exact HC0.out); rintro e w4 ⟨rfl, hb⟩; refine ⟨_, rfl, ?_⟩; replace HB := Am (below_step (pB HB.out) hb); (try clear hb); (try clear hb2); (try clear hk); (try clear hi)))
 go_ret
 exact ⟨pX, pB HB.out⟩
end
section
/-- A place as a value, a point as a value. -/
def pk (p : Int × Int) : Value := .agg #[.int .i64 p.1, .int .i64 p.2]
def pv (x : S24) : Value := .agg #[.int .i64 x.f0, .int .i64 x.f1, .int .i64 x.f2, .int .u32 x.f3]
def okK (p : Int × Int) : Prop := (Lit.int .i64 p.1).wf = true ∧ (Lit.int .i64 p.2).wf = true
instance (p : Int × Int) : Decidable (okK p) := by unfold okK; infer_instance
theorem pk_inj {p q : Int × Int} (h : pk p = pk q) : p = q := by
 obtain ⟨a, b⟩ := p
 obtain ⟨c, d⟩ := q
 simp only [pk, Value.agg.injEq, Array.mk.injEq, List.cons.injEq, Value.int.injEq, true_and, and_true] at h
 rw [h.1, h.2]
def unpv : Value → S24
 | .agg #[.int .i64 a, .int .i64 b, .int .i64 c, .int .u32 d] => ⟨a, b, c, d⟩
 | _ => ⟨0, 0, 0, 0⟩
theorem unpv_pv (x : S24) : unpv (pv x) = x := rfl
theorem kt69 : Try.prog.keyTypeAt 2 69 = true := by kernel_rfl
theorem td69 : Try.prog.tiled 2 69 = true := by kernel_rfl
theorem law69 : WideMaps.KeyLaw Try.prog 69 := by
 have h : 2 + 1 ≤ 10000 := by omega
 exact deep_law (P := Try.prog) (m := 2) (k := 69) h kt69 td69 (by rw [Try.underlying69])
theorem keyed69 : Maps.Keyed Try.prog 69 := Maps.Keyed.of_law law69
theorem cells69 : Try.prog.cellsOf 69 = 2 := by kernel_rfl
theorem cells3L : Try.prog.cellsOf 3 = 1 := by kernel_rfl
theorem keyT69 : Try.prog.keyType 69 = true := by kernel_rfl
theorem keyLits69 {p : Int × Int} (h : okK p) (d : Nat) : Try.prog.keyLits (d + 2) 69 [.int .i64 p.1, .int .i64 p.2] = some [.int .i64 p.1, .int .i64 p.2] := by
 obtain ⟨h1, h2⟩ := h
 simp [Program.keyLits, Try.underlying69, Try.underlying3, cells69, cells3L, h1, h2]
theorem size69 : ∃ d, Try.prog.types.size + 1 = d + 2 := ⟨Try.prog.types.size - 1, by
 have : 1 ≤ Try.prog.types.size := Nat.le_of_ble_eq_true (by kernel_rfl)
 omega⟩
theorem keyOf69 {p : Int × Int} (h : okK p) : ∃ l, keyOf Try.prog 69 (pk p) = some l := by
 obtain ⟨d, hs⟩ := size69
 have h2 : keyOf Try.prog 69 (pk p) = (if (Try.prog.keyType 69 && (pk p).formed Try.prog 69) = true then (Try.prog.keyLits (Try.prog.types.size + 1) 69 (pk p).cells.toList).map fun ls => .string (keyBytes ls) else none) := by
  unfold keyOf
  rw [Try.underlying69]
 have h3 : (pk p).formed Try.prog 69 = true := by simp [pk, Value.formed, Try.underlying69, cells69]
 rw [h2, keyT69, h3, hs, Bool.and_self, show (pk p).cells.toList = [.int .i64 p.1, .int .i64 p.2] from rfl, keyLits69 h]
 exact ⟨_, if_pos rfl⟩
/-- The value at a place. -/
def pat (k : Int × Int) : List ((Int × Int) × S24) → Option S24
 | [] => none
 | p :: r => if p.1 = k then some p.2 else pat k r
/-- Block m of w is a map whose entries are these, in the order of memory. -/
def PM (w : World) (m : Nat) (g : List ((Int × Int) × S24)) : Prop := ∃ es c, w.heap[m]? = some (.map es c) ∧ es.toList.map (fun e => (e.key, e.val)) = g.map (fun p => (pk p.1, pv p.2)) ∧ MapKept.Stamped es c ∧ ∀ p ∈ g, okK p.1
section
variable {w w1 : World} {m : Nat} {g : List ((Int × Int) × S24)}
theorem PM.lt (h : PM w m g) : m < w.heap.size := by
 obtain ⟨es, c, h, _⟩ := h
 exact (Array.getElem?_eq_some_iff.1 h).1
theorem PM.move (h : PM w m g) (e : w1.heap[m]? = w.heap[m]?) : PM w1 m g := by
 obtain ⟨es, c, h, h2⟩ := h
 exact ⟨es, c, e.trans h, h2⟩
theorem PM.grown {row : Option Nat} (h : PM w m g) (hg : w.grownBy w1 row) (hne : some m ≠ row) : PM w1 m g := h.move (hg.block m h.lt hne)
theorem PM.below (h : PM w m g) (hg : Below w.heap.size w w1) : PM w1 m g := h.move (hg.block m h.lt)
theorem PM.made (w : World) : PM (w.alloc (.map #[] 0)) w.heap.size [] := ⟨#[], 0, (MapKept.heap_alloc w _).1, rfl, MapKept.stamped_empty 0, fun p hp => absurd hp List.not_mem_nil⟩
theorem PM.ok (h : PM w m g) : ∀ p ∈ g, okK p.1 := by
 obtain ⟨_, _, _, _, _, h⟩ := h
 exact h
theorem pat_none {k : Int × Int} : ∀ {l : List MapEntry} {g : List ((Int × Int) × S24)}, l.map (fun e => (e.key, e.val)) = g.map (fun p => (pk p.1, pv p.2)) → (∀ e ∈ l, e.key ≠ pk k) → pat k g = none
 | [], [], _, _ => rfl
 | [], p :: r, h, _ => by simp at h
 | e :: l, [], h, _ => by simp at h
 | e :: l, p :: r, h, h2 => by
  simp only [List.map_cons, List.cons.injEq, Prod.mk.injEq] at h
  simp only [pat]
  rw [if_neg (fun e2 => h2 e List.mem_cons_self (by rw [h.1.1, e2]))]
  exact pat_none h.2 (fun x hx => h2 x (List.mem_cons_of_mem _ hx))
theorem pat_some {k : Int × Int} : ∀ {l : List MapEntry} {g : List ((Int × Int) × S24)} {j : Nat} {e : MapEntry}, l.map (fun e => (e.key, e.val)) = g.map (fun p => (pk p.1, pv p.2)) → l.Pairwise (fun x y => x.key ≠ y.key) → l[j]? = some e → e.key = pk k → ∃ x, pat k g = some x ∧ e.val = pv x
 | [], g, j, e, h, _, hj, _ => by simp at hj
 | e0 :: l, [], j, e, h, _, hj, _ => by simp at h
 | e0 :: l, p :: r, 0, e, h, hp, hj, hk => by
  simp only [List.map_cons, List.cons.injEq, Prod.mk.injEq] at h
  simp only [List.getElem?_cons_zero, Option.some.injEq] at hj
  subst hj
  refine ⟨p.2, ?_, h.1.2⟩
  simp only [pat]
  rw [if_pos (pk_inj (h.1.1.symm.trans hk))]
 | e0 :: l, p :: r, j + 1, e, h, hp, hj, hk => by
  simp only [List.map_cons, List.cons.injEq, Prod.mk.injEq] at h
  rw [List.getElem?_cons_succ] at hj
  obtain ⟨h1, h2⟩ := List.pairwise_cons.1 hp
  obtain ⟨x, hx, hv⟩ := pat_some h.2 h2 hj hk
  refine ⟨x, ?_, hv⟩
  simp only [pat]
  rw [if_neg (fun e2 => h1 e (List.mem_of_getElem? hj) (by rw [h.1.1, hk, e2]))]
  exact hx
theorem PM.find (h : PM w m g) {k : Int × Int} (hk : okK k) : ∃ es c, w.heap[m]? = some (.map es c) ∧ es.toList.map (fun e => (e.key, e.val)) = g.map (fun p => (pk p.1, pv p.2)) ∧ MapKept.Stamped es c ∧
  ((pat k g = none ∧ (Instr.findKey 69 (pk k) es.toList).run Try.prog w = .ok none w ∧ ∀ e ∈ es.toList, e.key ≠ pk k) ∨ ∃ j x, pat k g = some x ∧ (Instr.findKey 69 (pk k) es.toList).run Try.prog w = .ok (some (j, pv x)) w) := by
 obtain ⟨es, c, hb, he, hst, hok⟩ := h
 refine ⟨es, c, hb, he, hst, ?_⟩
 obtain ⟨lx, hlx⟩ := keyOf69 hk
 have hes : ∀ e ∈ es.toList, ∃ l, keyOf Try.prog 69 e.key = some l := fun e hm => by
  have h1 : (e.key, e.val) ∈ g.map (fun p => (pk p.1, pv p.2)) := by rw [← he]; exact List.mem_map.2 ⟨e, hm, rfl⟩
  obtain ⟨p, hp, h2⟩ := List.mem_map.1 h1
  rw [← (Prod.mk.inj h2).1]
  exact keyOf69 (hok p hp)
 rcases keyed69.find w hlx es.toList hes with ⟨h1, h2⟩ | ⟨j, e0, h1, h2, h3⟩
 ·exact .inl ⟨pat_none he h2, h1, h2⟩
 ·obtain ⟨x, hx, hv⟩ := pat_some he ((MapKept.stamped_iff es c).1 hst).2.2 h2 h3
  rw [hv] at h1
  exact .inr ⟨j, x, hx, h1⟩
theorem PM.look (h : PM w m g) {k : Int × Int} (hk : okK k) (ok : Bool) (z : Value) (hz : (zeroValue 24).run Try.prog w = .ok z w) :
  (Instr.lookup 26 (.map (some m)) (pk k) ok).run Try.prog w = .ok (if ok then .tuple #[((pat k g).map pv).getD z, .bool (pat k g).isSome] else ((pat k g).map pv).getD z) w := by
 obtain ⟨lx, hlx⟩ := keyOf69 hk
 obtain ⟨es, c, hb, he, hst, ⟨q1, q2, _⟩ | ⟨j, x, q1, q2⟩⟩ := h.find hk
 ·simp [Instr.lookup, run_underlying Try.underlying26, MapKept.run_getObj_map hb, keyed69.check w _ hlx, q2, q1, Result.andThen, hz]
 ·simp [Instr.lookup, run_underlying Try.underlying26, MapKept.run_getObj_map hb, keyed69.check w _ hlx, q2, q1, Result.andThen]
theorem PM.turned {es : Array MapEntry} {c : Nat} (hb : w.heap[m]? = some (.map es c)) (o : Obj) : w.grownBy (ChangeMaps.setBlock w m o) (some m) :=
 ⟨rfl, rfl, rfl, by simp [ChangeMaps.setBlock], fun i _ hi => ChangeMaps.heap_setBlock_other hb _ (fun e => hi (by rw [e]))⟩
/-- A store at a place that is not there. -/
theorem PM.push (h : PM w m g) {k : Int × Int} (hk : okK k) (hn : pat k g = none) (v : S24) :
  ∃ w', (Instr.mapUpdate 26 (.map (some m)) (pk k) (pv v)).run Try.prog w = .ok () w' ∧ PM w' m (g ++ [(k, v)]) ∧ w.grownBy w' (some m) := by
 obtain ⟨lx, hlx⟩ := keyOf69 hk
 have hok := h.ok
 obtain ⟨es, c, hb, he, hst, ⟨q1, q2, q7⟩ | ⟨j, x, q1, q2⟩⟩ := h.find hk
 ·refine ⟨ChangeMaps.setBlock w m (.map (es.push { key := pk k, val := pv v, born := c }) (c + 1)), ?_, ⟨_, _, ChangeMaps.heap_setBlock_same hb _, ?_, MapKept.stamped_push hst q7, fun p hp => ?_⟩, PM.turned hb _⟩
  ·simp [Instr.mapUpdate, run_underlying Try.underlying26, MapKept.run_getObj_map hb, keyed69.check w _ hlx, q2, MapKept.run_setObj_map _ hb, Result.andThen, ChangeMaps.setBlock]
  ·simp [he]
  ·rcases List.mem_append.1 hp with hp | hp
   ·exact hok p hp
   ·rw [List.mem_singleton] at hp
    rw [hp]
    exact hk
 ·rw [hn] at q1
  cases q1
end
section
variable {P : Program} {ops : Array Oper} {rest : List Oper} {o : Oper} {a : Act} {Q : Exit → Act → World → Prop}
theorem wpPush (w : World) (hg : o.guard = none) (m x v : Operand) (hop : o.op = Op.mapUpdate 26 m x v) (M : Nat) (k : Int × Int) (V : S24) (g : List ((Int × Int) × S24))
  (hm : a.eval m = .map (some M)) (hx : a.eval x = pk k) (hv : a.eval v = pv V) (h : PM w M g) (hk : okK k) (hn : pat k g = none) (hK : ∀ w', PM w' M (g ++ [(k, V)]) → w.grownBy w' (some M) → wpList Try.prog ops Q rest (a.put o.dst undef) w') : wpList Try.prog ops Q (o :: rest) a w := by
 refine wpList_plain hg fun K' hK' => ?_
 obtain ⟨w', hr, h1, h2⟩ := h.push hk hn V
 unfold Oper.wp
 simp [execOp, hop, hm, hx, hv, hr, Result.andThen]
 exact hK' _ _ (hK w' h1 h2)
theorem wpLookP (w : World) (hg : o.guard = none) (m x : Operand) (ok : Bool) (hop : o.op = Op.lookup 26 m x ok) (M : Nat) (k : Int × Int) (g : List ((Int × Int) × S24)) (z : Value)
  (hz : (zeroValue 24).run Try.prog w = .ok z w) (hm : a.eval m = .map (some M)) (hx : a.eval x = pk k) (h : PM w M g) (hk : okK k)
  (hK : wpList Try.prog ops Q rest (a.put o.dst (if ok then .tuple #[((pat k g).map pv).getD z, .bool (pat k g).isSome] else ((pat k g).map pv).getD z)) w) : wpList Try.prog ops Q (o :: rest) a w := by
 refine wpList_plain hg fun K' hK' => ?_
 unfold Oper.wp
 simp [execOp, hop, hm, hx, h.look hk ok z hz, Result.andThen]
 exact hK' _ _ hK
end
end
section
/-- A range over the map is under way: these points have come, so many are left. -/
def RP (w : World) (m r : Nat) (g : List ((Int × Int) × S24)) (ps : List S24) (cnt : Nat) : Prop :=
 ∃ es clock since seen c0, w.heap[m]? = some (.map es clock) ∧ es.toList.map (fun e => (e.key, e.val)) = g.map (fun p => (pk p.1, pv p.2)) ∧ MapKept.Stamped es clock ∧
  w.heap[r]? = some (.mapIter (some m) since seen c0) ∧ (∀ x ∈ es.toList, x.born < since) ∧ since ≤ c0 ∧ since ≤ clock ∧ (leftOf es seen).size = cnt ∧
  (ps ++ (leftOf es seen).toList.map (fun e => unpv e.val)).Perm (g.map (·.2))
theorem perm_strike : ∀ {l : List MapEntry} {e : MapEntry}, (l.map (·.born)).Nodup → e ∈ l → l.Perm (e :: l.filter (fun x => !(x.born == e.born)))
 | [], e, _, h => absurd h List.not_mem_nil
 | x :: l, e, hn, h => by
  rw [List.map_cons, List.nodup_cons] at hn
  rcases List.mem_cons.1 h with rfl | h
  ·have : l.filter (fun y => !(y.born == e.born)) = l := by
    rw [List.filter_eq_self]
    intro y hy
    have : y.born ≠ e.born := fun e2 => hn.1 (List.mem_map.2 ⟨y, hy, e2⟩)
    simp [this]
   rw [List.filter_cons_of_neg (by simp), this]
  ·have hne : x.born ≠ e.born := fun e2 => hn.1 (List.mem_map.2 ⟨e, h, e2.symm⟩)
   rw [List.filter_cons_of_pos (by simp [hne])]
   exact ((perm_strike hn.2 h).cons x).trans (List.Perm.swap _ _ _)
section
variable {w w1 : World} {m r : Nat} {g : List ((Int × Int) × S24)} {ps : List S24} {cnt : Nat}
theorem RP.start {es : Array MapEntry} {clock : Nat} (hb : w.heap[m]? = some (.map es clock)) (he : es.toList.map (fun e => (e.key, e.val)) = g.map (fun p => (pk p.1, pv p.2))) (hst : MapKept.Stamped es clock) : RP (w.alloc (.mapIter (some m) clock #[] clock)) m w.heap.size g [] g.length := by
 have hl : g.length = es.toList.length := by
  have := congrArg List.length he
  simpa using this.symm
 refine ⟨es, clock, _, #[], _, ((MapKept.heap_alloc w _).2 m (Array.getElem?_eq_some_iff.1 hb).1).trans hb, he, hst, (MapKept.heap_alloc w _).1, ((MapKept.stamped_iff _ _).1 hst).1, Nat.le_refl _, Nat.le_refl _, by simp [leftOf, hl], ?_⟩
 have h3 : (leftOf es #[]).toList = es.toList := by simp [leftOf]
 rw [h3, List.nil_append]
 have h4 : es.toList.map (fun e => unpv e.val) = (es.toList.map (fun e => (e.key, e.val))).map (fun p => unpv p.2) := by rw [List.map_map]; rfl
 rw [h4, he, List.map_map]
 exact List.Perm.of_eq (List.map_congr_left (fun p _ => unpv_pv p.2))
theorem RP.ne (h : RP w m r g ps cnt) : r ≠ m := by
 obtain ⟨es, clock, since, seen, c0, hb, _, _, hr, _⟩ := h
 intro e
 rw [e, hb] at hr
 cases hr
theorem RP.m_lt (h : RP w m r g ps cnt) : m < w.heap.size := by
 obtain ⟨es, clock, since, seen, c0, hb, _⟩ := h
 exact (Array.getElem?_eq_some_iff.1 hb).1
theorem RP.r_lt (h : RP w m r g ps cnt) : r < w.heap.size := by
 obtain ⟨es, clock, since, seen, c0, _, _, _, hr, _⟩ := h
 exact (Array.getElem?_eq_some_iff.1 hr).1
theorem RP.kept {row : Option Nat} (h : RP w m r g ps cnt) (hg : w.grownBy w1 row) (h1 : some m ≠ row) (h2 : some r ≠ row) : RP w1 m r g ps cnt := by
 have hm := h.m_lt
 have hr := h.r_lt
 obtain ⟨es, clock, since, seen, c0, hb, he, hst, hit, rest⟩ := h
 exact ⟨es, clock, since, seen, c0, (hg.block m hm h1).trans hb, he, hst, (hg.block r hr h2).trans hit, rest⟩
theorem RP.walks (h : RP w m r g ps cnt) (hk : KeepsWalks w w1) : RP w1 m r g ps cnt := by
 obtain ⟨es, clock, since, seen, c0, hb, he, hst, hit, rest⟩ := h
 exact ⟨es, clock, since, seen, c0, hk.same _ _ hb rfl, he, hst, hk.same _ _ hit rfl, rest⟩
theorem RP.left_eq (h : RP w m r g ps cnt) : w.rangeLeft m r = cnt := by
 obtain ⟨es, clock, since, seen, c0, hb, _, _, hr, _, _, _, hc, _⟩ := h
 simp only [World.rangeLeft, hb, hr]
 exact hc
theorem RP.iter_walk (h : RP w m r g ps cnt) : ∃ o : Obj, w.heap[r]? = some o ∧ o.isWalk = true := by
 obtain ⟨es, clock, since, seen, c0, _, _, _, hr, _⟩ := h
 exact ⟨_, hr, rfl⟩
theorem RP.len (h : RP w m r g ps cnt) : ps.length + cnt = g.length := by
 obtain ⟨es, clock, since, seen, c0, hb, _, _, hr, _, _, _, hc, hp⟩ := h
 have := hp.length_eq
 simp only [List.length_append, List.length_map, Array.length_toList] at this
 omega
/-- The step: nothing is left, or one more point comes. -/
theorem RP.next (h : RP w m r g ps cnt) (ty : TypeId) :
  (cnt = 0 ∧ ps.Perm (g.map (·.2)) ∧ (Instr.next (.pointer (some ⟨r, 0, none⟩)) false ty).run Try.prog w = .ok (.tuple #[.bool false]) w) ∨
  ∃ k x w' cnt', (Instr.next (.pointer (some ⟨r, 0, none⟩)) false ty).run Try.prog w = .ok (.tuple #[.bool true, pk k, pv x]) w' ∧ RP w' m r g (ps ++ [x]) cnt' ∧ cnt' < cnt ∧ w.grownBy w' (some r) ∧ w'.heap.size = w.heap.size ∧
   (Instr.entry (.pointer (some ⟨r, 0, none⟩))).run Try.prog w' = .ok (.tuple #[pk k, pv x]) w' := by
 have hne := h.ne
 obtain ⟨es, clock, since, seen, c0, hb, he, hst, hr, hold, hsc, hsk, rfl, hp⟩ := h
 have hst' := (MapKept.stamped_iff es clock).1 hst
 rcases run_next_at (P := Try.prog) w ty r m since c0 seen es clock hr hb hold hsc with ⟨h0, hrun⟩ | ⟨e, hel, w1, hal, hrun⟩
 ·refine Or.inl ⟨h0, ?_, hrun⟩
  have : (leftOf es seen).toList = [] := List.eq_nil_of_length_eq_zero (by simpa using h0)
  rw [this] at hp
  simpa using hp
 ·obtain ⟨hem, hes⟩ := mem_left hel
  obtain ⟨p, hpm, hpe⟩ : ∃ p ∈ g, (pk p.1, pv p.2) = (e.key, e.val) := by
   have h1 : (e.key, e.val) ∈ g.map (fun p => (pk p.1, pv p.2)) := by rw [← he]; exact List.mem_map.2 ⟨e, hem, rfl⟩
   exact List.mem_map.1 h1
  have hk : e.key = pk p.1 := (Prod.mk.inj hpe).1.symm
  have hv : e.val = pv p.2 := (Prod.mk.inj hpe).2.symm
  have hr1 : w1.heap[r]? = some (.mapIter (some m) since seen c0) := by rcases hal with rfl | rfl <;> exact hr
  have hb1 : w1.heap[m]? = some (.map es clock) := by rcases hal with rfl | rfl <;> exact hb
  have hset : (ChangeMaps.setBlock w1 r (.mapIter (some m) since (seen.push e.born) clock)).heap[r]? = some (.mapIter (some m) since (seen.push e.born) clock) ∧ ∀ i, i ≠ r → (ChangeMaps.setBlock w1 r (.mapIter (some m) since (seen.push e.born) clock)).heap[i]? = w1.heap[i]? := by
   have hlt := (Array.getElem?_eq_some_iff.1 hr1).1
   refine ⟨?_, fun i hi => ?_⟩
   ·simp [ChangeMaps.setBlock, hlt]
   ·simp [ChangeMaps.setBlock, Array.getElem?_setIfInBounds, Ne.symm hi]
  have hb' := (hset.2 m (fun e1 => hne e1.symm)).trans hb1
  have hentry := run_entry_at (P := Try.prog) _ r m since seen es clock e hset.1 hb' hem hst'.2.1
  rw [hk, hv] at hrun hentry
  refine Or.inr ⟨p.1, p.2, _, _, hrun, ⟨es, clock, since, seen.push e.born, clock, hb', he, hst, hset.1, hold, hsk, hsk, rfl, ?_⟩, left_shrinks es seen e hel, ?_, ?_, hentry⟩
  ·have hL : (leftOf es (seen.push e.born)).toList = (leftOf es seen).toList.filter (fun x => !(x.born == e.born)) := by
    simp only [leftOf, Array.toList_filter, List.filter_filter]
    refine List.filter_congr (fun x _ => ?_)
    rw [contains_push, Bool.not_or, Bool.and_comm]
   have hnd : ((leftOf es seen).toList.map (·.born)).Nodup := by
    simp only [leftOf, Array.toList_filter]
    exact (List.filter_sublist.map _).nodup hst'.2.1
   have hperm := (perm_strike hnd hel).map (fun e => unpv e.val)
   rw [← hL, List.map_cons, hv, unpv_pv] at hperm
   rw [List.append_assoc]
   exact (List.Perm.append_left ps hperm.symm).trans hp
  ·rcases hal with rfl | rfl <;> exact ⟨rfl, rfl, rfl, by simp [ChangeMaps.setBlock], fun i _ hi => hset.2 i (fun e1 => hi (by rw [e1]))⟩
  ·rcases hal with rfl | rfl <;> simp [ChangeMaps.setBlock]
end
section
variable {F : Fence} {n : Nat} {ops : Array Oper} {rest : List Oper} {o : Oper} {a : Act} {Q : Exit → Act → World → Prop}
theorem wpInRange (w : World) (hg : o.guard = none) (m : Operand) (hop : o.op = Op.range 26 m) (b : Nat) (g : List ((Int × Int) × S24)) (hm : a.eval m = .map (some b)) (hown : PM w b g)
  (hK : ∀ w', RP w' b w.heap.size g [] g.length → w.grownBy w' none → w'.heap.size = w.heap.size + 1 → wpListIn F n Try.prog ops Q rest (a.put o.dst (.pointer (some ⟨w.heap.size, 0, none⟩))) w') :
  wpListIn F n Try.prog ops Q (o :: rest) a w := by
 refine wpListIn_plain hg fun K' hK' => ?_
 obtain ⟨es, clock, hb, he, hst, _⟩ := hown
 have h1 := RP.start hb he hst
 have hrun := run_range_map (P := Try.prog) w 26 69 24 b _ _ Try.underlying26 hb
 unfold Oper.wpIn
 refine ⟨?_, ?_⟩
 ·simp [Oper.about, hop]
 ·rw [Oper.semAt_plain F _ _ (by rw [hop]; intro c hc'; cases hc')]
  simp [execOp, hop, hm, hrun, Result.andThen]
  exact hK' _ _ (hK _ h1 (World.grownBy_alloc w _ none) (by simp))
theorem wpInNext (w : World) (hg : o.guard = none) (it : Operand) (hop : o.op = Op.next it false) (b r : Nat) (g : List ((Int × Int) × S24)) (ps : List S24) (cnt : Nat) (hit : a.eval it = .pointer (some ⟨r, 0, none⟩)) (h : RP w b r g ps cnt)
  (hDone : ps.Perm (g.map (·.2)) → wpListIn F n Try.prog ops Q rest (a.put o.dst (.tuple #[.bool false])) w)
  (hMore : ∀ k x w' cnt', RP w' b r g (ps ++ [x]) cnt' → cnt' < cnt → w.grownBy w' (some r) → w'.heap.size = w.heap.size → (Instr.entry (.pointer (some ⟨r, 0, none⟩))).run Try.prog w' = .ok (.tuple #[pk k, pv x]) w' →
   wpListIn F n Try.prog ops Q rest (a.put o.dst (.tuple #[.bool true, pk k, pv x])) w') :
  wpListIn F n Try.prog ops Q (o :: rest) a w := by
 refine wpListIn_plain hg fun K' hK' => ?_
 unfold Oper.wpIn
 refine ⟨by simp [Oper.about, hop], ?_⟩
 rw [Oper.semAt_plain F _ _ (by rw [hop]; intro c hc'; cases hc')]
 rcases h.next o.type with ⟨h0, hl, hrun⟩ | ⟨k, x, w', cnt', hrun, hrg, hlt, hgr, hsz, hen⟩
 ·simp [execOp, hop, hit, hrun, Result.andThen]
  exact hK' _ _ (hDone hl)
 ·simp [execOp, hop, hit, hrun, Result.andThen]
  exact hK' _ _ (hMore k x w' cnt' hrg hlt hgr hsz hen)
end
set_option maxRecDepth 100000 in
set_option maxHeartbeats 2000000 in
/-- maps.Values' iterator, for every round that goes on. -/
theorem values1_in (F : Fence) (n : Nat) (h51 : F.fn 51) (hro : F.round = none) (hn : 1 ≤ n) (l Bm b : Nat) (g : List ((Int × Int) × S24)) (J : List S24 → World → Prop)
  (hY : ∀ pre x W, J pre W → pre.length < g.length → YieldAt F (n - 1) Try.prog l #[pv x] W fun e W' => e = .returned (.bool true) ∧ J (pre ++ [x]) W' ∧ KeepsWalks W W')
  (W : World) (hJ : AbidesFrom W.heap.size J) (hm : W.cell? ⟨Bm, 0, none⟩ = some (.map (some b))) (hown : PM W b g) (h0 : J [] W) :
  CallsIn F n Try.prog 51 #[.func (.yield l) #[] #[], .pointer (some ⟨Bm, 0, none⟩)] W fun e W' => (∃ v, e = .returned v) ∧ ∃ ps : List S24, ps.Perm (g.map (·.2)) ∧ J ps W' := by
 have u24 := Try.underlying24
 have u26 := Try.underlying26
 have hz : ∀ W : World, (zeroValue 24).run Try.prog W = .ok (.agg #[.int .i64 0, .int .i64 0, .int .i64 0, .int .u32 0]) W := fun W => by kernel_rfl
 refine callsIn_of_wp Try.func51 rfl h51 ?_ hro
 simp only [Try.ntmps51, List.size_toArray, List.length_cons, List.length_nil, Nat.reduceAdd, Nat.reduceSub, Array.replicate_succ, Array.replicate_zero, List.push_toArray, List.append_toArray, List.nil_append, List.cons_append]
 gi_wp2_with (first
  | (gi_at_range; refine wpInRange _ rfl _ rfl b g rfl hown ?_; intro w0 hrg0 hg0 hs0)
  | gi_in)
 go_frame
 gi_loopw [4] (fun _ wr => ∃ (cnt : Nat) (ps : List S24), RP wr b W.heap.size g ps cnt ∧ J ps wr) (fun _ wr => wr.rangeLeft b W.heap.size)
 case atStart =>
  exact ⟨_, [], hrg0, hJ [] W w0 none h0 hg0 (fun r e => by cases e)⟩
 case round =>
  obtain ⟨cnt, ps, hrg, hJs⟩ := hrel
  gi_wp2_with (first
   | (gi_at_next; refine wpInNext _ rfl _ rfl b W.heap.size g ps cnt rfl hrg ?_ ?_)
   | gi_in)
  ·intro hperm
   gi_wp2
   go_end0
   exact ⟨⟨_, rfl⟩, ps, hperm, hJs⟩
  ·intro k1 k2 x w2 cnt2 hrg2 hlt hg2 hs2 hen
   have hJ2 : J ps w2 := hJ ps wr w2 (some W.heap.size) hJs hg2 (fun r e => by cases e; exact ⟨Nat.le_refl _, hrg.iter_walk⟩)
   trace_state
   have hg3 := World.grownBy_alloc w2 (.cells #[.int .i64 x.f0, .int .i64 x.f1, .int .i64 x.f2, .int .u32 x.f3] 24) none
   have hJ3 := hJ ps w2 _ none hJ2 hg3 (fun r e => by cases e)
   have hrg3 := hrg2.kept hg3 (by simp) (by simp)
   obtain ⟨fn, tmps, assign, body, hy, hR⟩ := hY ps x _ hJ3 (by have := hrg.len; omega)
   simp only [pk, pv] at hen hy ⊢
   have HRG := Am hrg3
   have HRG2 := Am hrg2
   clear hs2 hg2 hJ2 hg3 hJ3 hrg3 hrg2
   gi_wp2
   refine hR.mono ?_
   rintro e W3 ⟨rfl, hJ4, hk4⟩
   gi_wp2
   have hrg4 := HRG.out.walks hk4
   go_roundw
   case rel => exact ⟨cnt2, ps ++ [x], hrg4, hJ4⟩
   case measure => rw [hrg4.left_eq, hrg.left_eq]; exact hlt
set_option maxHeartbeats 1000000 in
/-- maps.Values: the map is boxed; the function value captures the box. -/
theorem values_in (F : Fence) (n : Nat) (hf : F.fn 29) (hro : F.round = none) (mb : Option Nat) (w : World) :
  CallsIn F n Try.prog 29 #[.map mb] w fun e w' => e = .returned (.func (.func 51) #[] #[.pointer (some ⟨w.heap.size, 0, none⟩)]) ∧ w' = w.alloc (.cells #[.map mb] 26) := by
 have u26 := Try.underlying26
 refine callsIn_of_wp Try.func29 rfl hf ?_ hro
 simp only [Try.ntmps29, List.size_toArray, List.length_cons, List.length_nil, Nat.reduceAdd, Nat.reduceSub, Array.replicate_succ, Array.replicate_zero, List.push_toArray, List.append_toArray, List.nil_append, List.cons_append]
 gi_wp2
 go_ret
 exact ⟨rfl, rfl⟩
/-- maps.Values hands back a value that gives the map's points. -/
theorem values_gives (F : Fence) (n : Nat) (h51 : F.fn 51) (hro : F.round = none) (hn : 1 ≤ n) (Bm b : Nat) (g : List ((Int × Int) × S24)) (w : World) (hBm : Bm < w.heap.size) (hm : w.cell? ⟨Bm, 0, none⟩ = some (.map (some b))) (hown : PM w b g) :
  SeqGives F n Try.prog 51 #[.pointer (some ⟨Bm, 0, none⟩)] pv (fun ps => ps.Perm (g.map (·.2))) g.length w := fun l J W hW hJ hY h0 =>
 values1_in F n h51 hro hn l Bm b g J hY W hJ ((hW.cell (p := ⟨Bm, 0, none⟩) hBm).trans hm) (hown.below hW) h0
end
section
def cs4 (x : S24) : List Value := [.int .i64 x.f0, .int .i64 x.f1, .int .i64 x.f2, .int .u32 x.f3]
def flat4 : List S24 → List Value
  | [] => []
  | x :: r => cs4 x ++ flat4 r
theorem flat4_snoc (x : S24) : ∀ l, flat4 (l ++ [x]) = flat4 l ++ cs4 x
  | [] => by simp [flat4]
  | y :: l => by rw [List.cons_append, flat4, flat4, flat4_snoc x l, List.append_assoc]
theorem flat4_reps (w : World) (base : Nat) (ok : Nat → Prop) : ∀ l : List S24, Reps (k24.M w base ok) 4 l (flat4 l)
  | [] => Reps.none _ _
  | x :: l => by
    have h := flat4_reps w base ok l
    refine ⟨?_, fun j p hj => ?_⟩
    · rw [flat4, List.length_append, h.1, List.length_cons, Nat.add_mul, Nat.one_mul, Nat.add_comm]
      rfl
    · cases j with
      | zero =>
        simp only [List.getElem?_cons_zero, Option.some.injEq] at hj
        subst hj
        exact k24_mkM _ _ _ _
      | succ j =>
        have h2 := h.2 j p (by simpa using hj)
        rw [flat4]
        have e : (j + 1) * 4 = 4 + j * 4 := by omega
        have : ((cs4 x ++ flat4 l).drop ((j + 1) * 4)).take 4 = ((flat4 l).drop (j * 4)).take 4 := by
          rw [e, ← List.drop_drop]
          rfl
        rw [this]
        exact h2
def apAssign : Code := (Code.region 2 #[{ dst := some 5, op := Op.alloc 24, type := 0, pos := "iter.go:51", after := #[], guard := none }, { dst := none, op := Op.store 24 (Operand.tmp 5) (Operand.tmp 7), type := 0, pos := "iter.go:51", after := #[{ on := 0, ground := Ground.data }, { on := 0, ground := Ground.phase }], guard := none }] false)
def apBody : Code := (Code.block 1 (Code.region 3 #[{ dst := some 8, op := Op.load 36 (Operand.tmp 2), type := 36, pos := "iter.go:52", after := #[], guard := none }, { dst := some 9, op := Op.load 24 (Operand.tmp 5), type := 24, pos := "iter.go:52", after := #[], guard := none }, { dst := some 10, op := Op.buildSlice 36 1 #[(0, Operand.tmp 9)], type := 36, pos := "iter.go:52", after := #[{ on := 1, ground := Ground.data }], guard := none }, { dst := some 11, op := Op.call { callee := Callee.builtin Builtin.append, args := #[Operand.tmp 8, Operand.tmp 10], argTypes := #[36, 36] }, type := 36, pos := "iter.go:52", after := #[{ on := 0, ground := Ground.data }, { on := 2, ground := Ground.data }], guard := none }, { dst := none, op := Op.store 36 (Operand.tmp 2) (Operand.tmp 11), type := 0, pos := "iter.go:52", after := #[{ on := 3, ground := Ground.data }, { on := 3, ground := Ground.chain }, { on := 0, ground := Ground.phase }, { on := 1, ground := Ground.phase }, { on := 2, ground := Ground.phase }, { on := 3, ground := Ground.phase }], guard := none }] false))
/-- The loop's record: AppendSeq's temporaries as they stood at the entering. -/
def apRec (fn : FuncId) (sv : Value) (Bs D : Nat) (st : LoopState) (pend : Option Code) : Loop :=
  { state := st, pending := pend, fn, tmps := #[.slice none 0 0, sv, .pointer (some ⟨Bs, 0, none⟩), undef, .slice none 0 0, undef, sv, undef, undef, undef, undef, undef, undef], params := #[7], assign := apAssign, body := apBody, defers := D }
/-- Between two rounds: the box holds a slice that owns what has come so far. -/
structure ApAt (w0 : World) (fn : FuncId) (sv : Value) (Bs l D : Nat) (ss : List S24) (W : World) : Prop where
  box : ∃ v, W.heap[Bs]? = some (.cells #[v] 36 (0, 0)) ∧ W.ownsRow w0.heap.size 24 4 v ss.length (flat4 ss)
  L : W.heap[l]? = some (.loop (apRec fn sv Bs D .ready none))
  K : W.heap[D]? = some (.deferred (some []))
  below : Below w0.heap.size w0 W
theorem ap_abides (w0 : World) (fn : FuncId) (sv : Value) (Bs l D B : Nat) (hB : w0.heap.size ≤ B) : AbidesFrom B (ApAt w0 fn sv Bs l D) := fun s W W' row h hg hrow => by
  have hrow' : ∀ r, row = some r → ∃ o : Obj, W.heap[r]? = some o ∧ o.isWalk = true := fun r e => (hrow r e).2
  obtain ⟨v, hv, hr⟩ := h.box
  exact ⟨⟨v, (grownBy_keeps hg hrow' hv rfl).trans hv, ownsRow_abides_a hr hg hrow'⟩, (grownBy_keeps hg hrow' h.L rfl).trans h.L, (grownBy_keeps hg hrow' h.K rfl).trans h.K,
    h.below.grown hg h.below.size (fun k e => Nat.le_trans hB (hrow k e).1)⟩
set_option maxRecDepth 100000 in
set_option maxHeartbeats 2000000 in
theorem apYield (F : Fence) (m : Nat) (w0 : World) (fn : FuncId) (hfn : F.fn fn) (sv : Value) (Bs l D : Nat) (hBl : Bs ≠ l) (hDl : D ≠ l) (hDB : D ≠ Bs) (h0B : w0.heap.size ≤ Bs) (h0l : w0.heap.size ≤ l)
    (N : Nat) (hN : N ≤ maxLen) (hNb : N * 32 ≤ 140737488355328) (ss : List S24) (x : S24) (W : World) (h : ApAt w0 fn sv Bs l D ss W) (hlen : ss.length < N) :
    YieldAt F m Try.prog l #[pv x] W fun e W' => e = .returned (.bool true) ∧ ApAt w0 fn sv Bs l D (ss ++ [x]) W' ∧ KeepsWalks W W' := by
  have u36 := Try.underlying36
  have u24 := Try.underlying24
  have hne : (36 : TypeId) ≠ 24 := by decide
  have hz : ∀ W : World, (zeroValue 24).run Try.prog W = .ok (.agg #[.int .i64 0, .int .i64 0, .int .i64 0, .int .u32 0]) W := fun W => by kernel_rfl
  obtain ⟨i0, hi, hz0, hz1, hz2⟩ := info_parts info24
  obtain ⟨v, hv, hrow⟩ := h.box
  refine ⟨fn, #[.slice none 0 0, sv, .pointer (some ⟨Bs, 0, none⟩), undef, .slice none 0 0, undef, sv, pv x, undef, undef, undef, undef, undef], apAssign, apBody, by simpa [apRec] using run_yield (P := Try.prog) (args := #[pv x]) h.L rfl, roundIn_of_wpIn hfn ?_⟩
  have hl0 : l < W.heap.size := (Array.getElem?_eq_some_iff.1 h.L).1
  have hB0 : Bs < W.heap.size := (Array.getElem?_eq_some_iff.1 hv).1
  have hD0 : D < W.heap.size := (Array.getElem?_eq_some_iff.1 h.K).1
  obtain ⟨W1, hW1⟩ : ∃ W1, W.alloc (.cells #[.int .i64 x.f0, .int .i64 x.f1, .int .i64 x.f2, .int .u32 x.f3] 24) = W1 := ⟨_, rfl⟩
  have hg1 : W.grownBy W1 none := by rw [← hW1]; exact World.grownBy_alloc W _ none
  have hk1 : KeepsWalks W W1 := by rw [← hW1]; exact KeepsWalks.alloc W _
  have hs1 : W1.heap.size = W.heap.size + 1 := by rw [← hW1]; simp
  have hx1 : W1.heap[W.heap.size]? = some (.cells #[.int .i64 x.f0, .int .i64 x.f1, .int .i64 x.f2, .int .u32 x.f3] 24 (0, 0)) := by rw [← hW1]; exact World.alloc_heap_new W _
  have hL1 : W1.heap[l]? = some (.loop (apRec fn sv Bs D .ready none)) := (hg1.block l hl0 (by simp)).trans h.L
  have hv1 : W1.heap[Bs]? = some (.cells #[v] 36 (0, 0)) := (hg1.block Bs hB0 (by simp)).trans hv
  have hK1 : W1.heap[D]? = some (.deferred (some [])) := (hg1.block D hD0 (by simp)).trans h.K
  have hrow1 : W1.ownsRow w0.heap.size 24 4 v ss.length (flat4 ss) := by rw [← hW1]; exact hrow.alloc _
  have hb1 : Below w0.heap.size w0 W1 := h.below.grown hg1 h.below.size (fun k e => by cases e)
  have hl : l < W1.heap.size := (Array.getElem?_eq_some_iff.1 hL1).1
  have hbr := run_beginRound (P := Try.prog) hL1 rfl
  obtain ⟨W2, hW2⟩ : ∃ W2, W1.putObj l (.loop { apRec fn sv Bs D .ready none with state := .busy }) = W2 := ⟨_, rfl⟩
  rw [hW2] at hbr
  have hg2 : W1.grownBy W2 (some l) := by rw [← hW2]; exact grownBy_putObj_a _ _ _
  have hk2 : KeepsWalks W W2 := hk1.trans (by rw [← hW2]; exact KeepsWalks.putObj _ hL1 rfl)
  have hv2 : W2.heap[Bs]? = some (.cells #[v] 36 (0, 0)) := by rw [← hW2]; exact (World.putObj_heap_other hBl).trans hv1
  have hx2 : W2.heap[W.heap.size]? = some (.cells #[.int .i64 x.f0, .int .i64 x.f1, .int .i64 x.f2, .int .u32 x.f3] 24 (0, 0)) := by rw [← hW2]; exact (World.putObj_heap_other (by omega)).trans hx1
  have hK2 : W2.heap[D]? = some (.deferred (some [])) := by rw [← hW2]; exact (World.putObj_heap_other hDl).trans hK1
  have hL2 : W2.heap[l]? = some (.loop { apRec fn sv Bs D .ready none with state := .busy }) := by rw [← hW2]; exact World.putObj_heap_same hl
  have hrow2 : W2.ownsRow w0.heap.size 24 4 v ss.length (flat4 ss) := hrow1.kept hg2 (ownsRow_ne_a hrow1 hL1 (fun cur e => by cases e))
  have hb2 : Below w0.heap.size w0 W2 := hb1.grown hg2 hb1.size (fun k e => by cases e; exact h0l)
  obtain ⟨hc2, hf2⟩ := cell_of_box_a hv2
  have hBlt : Bs < W2.heap.size := (Array.getElem?_eq_some_iff.1 hv2).1
  have hl2 : l < W2.heap.size := (Array.getElem?_eq_some_iff.1 hL2).1
  have hDlt : D < W2.heap.size := (Array.getElem?_eq_some_iff.1 hK2).1
  have ne_of : ∀ {j : Nat} {o : Obj}, W2.heap[j]? = some o → (∀ cur, o ≠ .cells cur 24 (0, 0)) → some j ≠ v.ownBlock := fun hj hno => by
    rcases ownsRow_ne_a hrow2 hj hno with e | e
    · rw [e]; simp
    · exact fun e' => e e'.symm
  obtain ⟨Bx, hBx⟩ : ∃ Bx, W.heap.size = Bx := ⟨_, rfl⟩
  have hc4 := bc4 (hBx ▸ hx2)
  clear hW2 hx1 hg1 hL1 hv1 hK1 hrow1 hb1 hg2 hk1 hs1
  unfold apAssign
  simp only [pv]
  gi_wp2_with (rw [Oper.semAt_eq _ _ _ (fun c h => by cases h)]; go_simp; try go_bits)
  obtain ⟨c0, c1, c2, c3⟩ := hc4
  clear hW1 hbr hx2
  unfold apBody
  gi_wp2_with (first
    | (gi_at_builtin; refine wpListIn_append_own _ rfl _ _ 36 rfl w0.heap.size 24 i0 (.agg #[.int .i64 0, .int .i64 0, .int .i64 0, .int .u32 0]) 4 32 Try.underlying36 hi hz0 hz1 hz2 rfl (by decide) _ _ _ rfl (hrow2.alloc _) ⟨W2.heap.size, 0, none⟩ 1 1 (cs4 x) rfl rfl (World.news_of_block (cs := (cs4 x).toArray) (t := 24) (fr := (0, 0)) (heap_alloc_new W2 (.cells (cs4 x).toArray 24))) (by simp [cs4, Value.oneCell']) (by omega) (by omega) (by have := hb2.size; simp; omega) ?_; intro v' w3 hown' hg3 hnil3
       have hv3 : w3.heap[Bs]? = some (.cells #[v] 36 (0, 0)) := (hg3.block Bs (by simp; omega) (ne_of hv2 (fun cur e => by cases e))).trans ((Below.heap_alloc _ _ Bs hBlt).trans hv2)
       obtain ⟨hc3, hf3⟩ := cell_of_box_a hv3
       obtain ⟨g', cap', cur', rfl, hbase', hgb', hr1, hr2, hr3, hr4⟩ : ∃ g' cap' cur', v' = .slice (some ⟨g', 0, none⟩) (ss.length + 1) cap' ∧ w0.heap.size ≤ g' ∧ w3.heap[g']? = some (.cells cur' 24 (0, 0)) ∧ ss.length + 1 ≤ cap' ∧ cap' ≤ maxLen ∧ cur'.size = cap' * 4 ∧ cur'.toList.take ((ss.length + 1) * 4) = flat4 ss ++ cs4 x := by
         rcases hown'.2 with ⟨_, h0⟩ | h'
         · exact absurd h0 (by omega)
         · exact h'
       go_frame)
    | (rw [Oper.semAt_eq _ _ _ (fun c h => by cases h)]; go_simp; try go_bits))
  have hg3' : (W2.alloc (.cells (cs4 x).toArray 24)).grownBy w3 v.ownBlock := hg3
  have hL3 : w3.heap[l]? = some (.loop { apRec fn sv Bs D .ready none with state := .busy }) := (hg3'.block l (by simp; omega) (ne_of hL2 (fun cur e => by cases e))).trans ((Below.heap_alloc _ _ l hl2).trans hL2)
  have hK3 : w3.heap[D]? = some (.deferred (some [])) := (hg3'.block D (by simp; omega) (ne_of hK2 (fun cur e => by cases e))).trans ((Below.heap_alloc _ _ D hDlt).trans hK2)
  obtain ⟨w4, hw4⟩ : ∃ w4, w3.setCell ⟨Bs, 0, none⟩ (.slice (some ⟨g', 0, none⟩) (ss.length + 1) cap') = w4 := ⟨_, rfl⟩
  rw [hw4]
  have hg4 : w3.grownBy w4 (some Bs) := by rw [← hw4]; exact grownBy_setCell0_a _ _ _
  have hv4 : w4.heap[Bs]? = some (.cells #[.slice (some ⟨g', 0, none⟩) (ss.length + 1) cap'] 36 (0, 0)) := by rw [← hw4]; exact heap_setCell_box_a _ hv3
  have hL4 : w4.heap[l]? = some (.loop { apRec fn sv Bs D .ready none with state := .busy }) := (hg4.block l (Array.getElem?_eq_some_iff.1 hL3).1 (fun e => hBl (by cases e; rfl))).trans hL3
  have hK4 : w4.heap[D]? = some (.deferred (some [])) := (hg4.block D (Array.getElem?_eq_some_iff.1 hK3).1 (fun e => hDB (by cases e; rfl))).trans hK3
  have hrow4 := hown'.kept hg4 (ownsRow_ne_a hown' hv3 (fun cur e => by cases e))
  have hl4 : l < w4.heap.size := (Array.getElem?_eq_some_iff.1 hL4).1
  have hb3 : Below w0.heap.size w0 w3 := (hb2.alloc hb2.size _).grown hg3' (by have := hb2.size; simp; omega) (fun k e => (hrow2.lt k e).1)
  have hb4 : Below w0.heap.size w0 w4 := hb3.grown hg4 hb3.size (fun k e => by cases e; exact h0B)
  have hk4 : KeepsWalks W w4 := ((hk2.trans (KeepsWalks.alloc _ _)).trans (KeepsWalks.of_grownBy hg3' (ownsRow_not_walk_a (hrow2.alloc _)))).trans (by rw [← hw4]; exact KeepsWalks.setCell _ _ _)
  clear hw4
  refine ⟨_, _, run_endRound none hL4, rfl, ⟨⟨_, (World.putObj_heap_other hBl).trans hv4, ?_⟩, World.putObj_heap_same hl4, (World.putObj_heap_other hDl).trans hK4, hb4.grown (grownBy_putObj_a _ _ _) hb4.size (fun k e => by cases e; exact h0l)⟩, hk4.trans (KeepsWalks.putObj _ hL4 rfl)⟩
  have := hrow4.kept (grownBy_putObj_a w4 l (.loop { { apRec fn sv Bs D .ready none with state := .busy } with state := if (none : Option Code).isNone then .ready else .done, pending := none })) (ownsRow_ne_a hrow4 hL4 (fun cur e => by cases e))
  rw [List.length_append, flat4_snoc]
  exact this
set_option maxRecDepth 100000 in
set_option maxHeartbeats 2000000 in
theorem appendSeq_in (F : Fence) (n : Nat) (h11 : F.fn 50) (hro : F.round = none) (hn : 2 ≤ n) (g : Nat) (lb : Array Value) (hFg : F.fn g) (eg : ∀ args w, (callFunc g args).run Try.prog w = .ok (.enter g args) w)
    (S : List S24 → Prop) (N : Nat) (hN : N ≤ maxLen) (hNb : N * 32 ≤ 140737488355328) (w : World) (hseq : SeqGives F (n - 1) Try.prog g lb pv S N w) :
    CallsIn F n Try.prog 50 #[.slice none 0 0, .func (.func g) #[] lb] w fun e w' => ∃ (v : Value) (ss : List S24), e = .returned v ∧ S ss ∧ w'.ownsRow w.heap.size 24 4 v ss.length (flat4 ss) ∧ Below w.heap.size w w' := by
  have h1 : 1 ≤ n := by omega
  have u36 := Try.underlying36
  have u24 := Try.underlying24
  refine callsIn_of_wp_marks Try.func50 rfl h11 ?_ hro
  simp only [Try.ntmps50, List.size_toArray, List.length_cons, List.length_nil, Nat.reduceAdd, Nat.reduceSub, Array.replicate_succ, Array.replicate_zero, List.push_toArray, List.append_toArray, List.nil_append, List.cons_append]
  gi_wp2
  refine wpIn_rangeFunc ?_
  intro fn hfn
  rw [hro]
  obtain ⟨W0, hW0⟩ : ∃ W0, w.alloc (.cells #[.slice none 0 0] 36) = W0 := ⟨_, rfl⟩
  have hs0 : W0.heap.size = w.heap.size + 1 := by rw [← hW0]; simp
  have hv0 : W0.heap[w.heap.size]? = some (.cells #[.slice none 0 0] 36 (0, 0)) := by rw [← hW0]; exact World.alloc_heap_new w _
  have hb0 : Below w.heap.size w W0 := by rw [← hW0]; exact (Below.refl _ w).alloc (Nat.le_refl _) _
  rw [hW0]
  obtain ⟨W1, hW1⟩ : ∃ W1, (W0.alloc (.deferred (some []))).alloc (.loop (apRec fn (.func (.func g) #[] lb) w.heap.size W0.heap.size .ready none)) = W1 := ⟨_, rfl⟩
  have hold : ∀ k, k < W0.heap.size → W1.heap[k]? = W0.heap[k]? := fun k hk => by
    rw [← hW1]; exact (Below.heap_alloc _ _ k (by simp; omega)).trans (Below.heap_alloc _ _ k hk)
  have hb1 : Below w.heap.size w W1 := by rw [← hW1]; exact (hb0.alloc hb0.size _).alloc (by have := hb0.size; simp; omega) _
  have hs1 : W1.heap.size = W0.heap.size + 2 := by rw [← hW1]; simp
  have hM : ApAt w fn (.func (.func g) #[] lb) w.heap.size (W0.heap.size + 1) W0.heap.size [] W1 :=
    ⟨⟨_, (hold w.heap.size (by omega)).trans hv0, ⟨rfl, .inl ⟨rfl, rfl⟩⟩⟩,
     by rw [← hW1]; have := World.alloc_heap_new (W0.alloc (.deferred (some []))) (.loop (apRec fn (.func (.func g) #[] lb) w.heap.size W0.heap.size .ready none)); rwa [World.size_alloc] at this,
     by rw [← hW1]; exact (Below.heap_alloc _ _ _ (by simp)).trans (World.alloc_heap_new W0 _), hb1⟩
  refine ⟨W0.heap.size + 1, [{ target := .collected W0.heap.size, args := #[] }], W1, { target := .fn (.func g) lb, args := #[.func (.yield (W0.heap.size + 1)) #[] #[]] }, W1, g,
    #[.func (.yield (W0.heap.size + 1)) #[] #[]] ++ lb, W1, ?_, ?_, ?_, ?_, fun _ => h1, ?_⟩
  · rw [← hW1]; exact run_enterLoop_outer _ _ _ _ _
  · simp [resolve, go_sem]
  · intro f' hf'; simp [Target.leads] at hf'; subst hf'; exact hFg
  · simp [invoke, go_sem, eg]
  · refine (hseq (W0.heap.size + 1) (ApAt w fn (.func (.func g) #[] lb) w.heap.size (W0.heap.size + 1) W0.heap.size) W1 hb1 (ap_abides _ _ _ _ _ _ _ hb1.size)
      (fun pre x W hJ hl => apYield F (n - 1 - 1) w fn hfn _ w.heap.size (W0.heap.size + 1) W0.heap.size (by omega) (by omega) (by omega) (Nat.le_refl _) (by omega) N hN hNb pre x W hJ hl) hM).mono ?_
    rintro e W2 ⟨⟨v0, rfl⟩, ss, hS, h2⟩
    obtain ⟨v, hv, hrow⟩ := h2.box
    have hend := run_endLoop (P := Try.prog) h2.L (by simp [apRec])
    obtain ⟨W3, hW3⟩ : ∃ W3, W2.putObj (W0.heap.size + 1) (.loop { apRec fn (.func (.func g) #[] lb) w.heap.size W0.heap.size .ready none with state := .exhausted }) = W3 := ⟨_, rfl⟩
    rw [hW3] at hend
    have hg3 : W2.grownBy W3 (some (W0.heap.size + 1)) := by rw [← hW3]; exact grownBy_putObj_a _ _ _
    have hv3 : W3.heap[w.heap.size]? = some (.cells #[v] 36 (0, 0)) := by rw [← hW3]; exact (World.putObj_heap_other (by omega)).trans hv
    have hK3 : W3.heap[W0.heap.size]? = some (.deferred (some [])) := by rw [← hW3]; exact (World.putObj_heap_other (by omega)).trans h2.K
    have hrow3 := hrow.kept hg3 (ownsRow_ne_a hrow h2.L (fun cur e => by cases e))
    have hb3 : Below w.heap.size w W3 := h2.below.grown hg3 h2.below.size (fun k e => by cases e; omega)
    obtain ⟨hc3, hf3⟩ := cell_of_box_a hv3
    clear hW3
    refine ⟨none, W3, hend, ?_⟩
    gi_wp2
    rw [← hs0]
    refine ⟨by simp, .inl ⟨_, _, rfl, run_takeDeferred hK3, ?_⟩⟩
    exact ⟨_, results_tmp rfl _ _ _, v, ss, rfl, hS, hrow3.kept (grownBy_putObj_a _ _ _) (ownsRow_ne_a hrow3 hK3 (fun cur e => by cases e)), hb3.grown (grownBy_putObj_a _ _ _) hb3.size (fun k e => by cases e; omega)⟩
set_option maxHeartbeats 1000000 in
theorem collect_in (F : Fence) (n : Nat) (h8 : F.fn 28) (h11 : F.fn 50) (hro : F.round = none) (hn : 3 ≤ n) (g : Nat) (lb : Array Value) (hFg : F.fn g) (eg : ∀ args w, (callFunc g args).run Try.prog w = .ok (.enter g args) w)
    (S : List S24 → Prop) (N : Nat) (hN : N ≤ maxLen) (hNb : N * 32 ≤ 140737488355328) (w : World) (hseq : SeqGives F (n - 1 - 1) Try.prog g lb pv S N w) :
    CallsIn F n Try.prog 28 #[.func (.func g) #[] lb] w fun e w' => ∃ (v : Value) (ss : List S24), e = .returned v ∧ S ss ∧ w'.ownsRow w.heap.size 24 4 v ss.length (flat4 ss) ∧ Below w.heap.size w w' := by
  have u36 := Try.underlying36
  have h1 : 1 ≤ n := by omega
  have e11 : ∀ args w, (callFunc 50 args).run Try.prog w = .ok (.enter 50 args) w := enters_of Try.func50 (by kernel_rfl) rfl
  refine callsIn_of_wp Try.func28 rfl h8 ?_ hro
  simp only [Try.ntmps28, List.size_toArray, List.length_cons, List.length_nil, Nat.reduceAdd, Nat.reduceSub, Array.replicate_succ, Array.replicate_zero, List.push_toArray, List.append_toArray, List.nil_append, List.cons_append]
  gi_wp2_with (gi_at_fn 50; refine (appendSeq_in F (n - 1) h11 hro (by omega) g lb hFg eg S N hN hNb _ hseq).mono ?_; rintro e w' ⟨v, ss, rfl, hS, hrow, hb⟩)
  go_ret
  exact ⟨v, ss, rfl, hS, hrow, hb⟩
/-- What the call's own row of cells is as a row of points. -/
theorem own_points {w w' : World} {v : Value} {ss : List S24} (h : w'.ownsRow w.heap.size 24 4 v ss.length (flat4 ss)) : Kd.R k24 24 w' w.heap.size (fun _ => True) v ss :=
  ⟨fun _ _ => trivial, flat4 ss, h, flat4_reps _ _ _ _⟩
/-- slices.Collect(maps.Values(m)): the map's points in a new row, in some order. -/
theorem collected (w : World) (mb : Nat) (g : List ((Int × Int) × S24)) (hg : PM w mb g) (hN : g.length * 32 ≤ 140737488355328) :
    Calls Try.prog 28 #[.func (.func 51) #[] #[.pointer (some ⟨w.heap.size, 0, none⟩)]] (w.alloc (.cells #[.map (some mb)] 26)) fun e w' => ∃ (v : Value) (ps : List S24), e = .returned v ∧ ps.Perm (g.map (·.2)) ∧ Kd.R k24 24 w' w.heap.size (fun _ => True) v ps ∧ Below w.heap.size w w' := by
  have hb0 : Below w.heap.size w (w.alloc (.cells #[.map (some mb)] 26)) := (Below.refl _ w).alloc (Nat.le_refl _) _
  have hs : (w.alloc (.cells #[.map (some mb)] 26)).heap.size = w.heap.size + 1 := by simp
  refine (callsIn_wide (n := 3)).1 ((collect_in Fence.wide 3 trivial trivial rfl (Nat.le_refl _) 51 _ trivial (enters_of Try.func51 (by kernel_rfl) rfl) (fun ps => ps.Perm (g.map (·.2))) g.length (by simp only [maxLen]; omega) hN _ (values_gives Fence.wide 1 trivial rfl (Nat.le_refl _) w.heap.size mb g _ (by omega) ?_ (hg.below hb0))).mono ?_)
  · have := World.alloc_heap_new w (.cells #[.map (some mb)] 26)
    exact (cell_of_box_a this).1
  · rintro e w' ⟨v, ss, rfl, hS, hrow, hb⟩
    exact ⟨v, ss, rfl, hS, own_points ((ownsRow_base_a hrow (by omega))), hb0.trans (hb.mono (by omega))⟩
end
section
/-- Block b is a set, its map is block m, and its points are these. -/
def Ls (w : World) (b m : Nat) (g : List ((Int × Int) × S24)) : Prop := w.heap[b]? = some (.cells #[.map (some m)] 28 (0, 0)) ∧ PM w m g
/-- Block m alone has turned; others are new. -/
def Tl (w w' : World) (m : Nat) : Prop := (∀ B, B ≤ w.heap.size → B ≤ m → Below B w w') ∧ ∀ k, k < w.heap.size → k ≠ m → w'.heap[k]? = w.heap[k]?
theorem Tl.of_below {w w' : World} {m : Nat} (h : Below w.heap.size w w') : Tl w w' m := ⟨fun B hB _ => h.mono hB, fun k hk _ => h.block k hk⟩
theorem Tl.trans {w w1 w2 : World} {m : Nat} (h : Tl w w1 m) (h2 : Tl w1 w2 m) : Tl w w2 m := by
 have hs := (h.1 0 (Nat.zero_le _) (Nat.zero_le _)).size
 exact ⟨fun B hB hm => (h.1 B hB hm).trans (h2.1 B (by omega) hm), fun k hk hne => (h2.2 k (by omega) hne).trans (h.2 k hk hne)⟩
theorem Tl.grown {w w' : World} {m : Nat} (h : w.grownBy w' (some m)) : Tl w w' m :=
 ⟨fun B hB hm => (Below.refl B w).grown h hB (fun k hk => by cases hk; exact hm), fun k hk hne => h.block k hk (fun e => hne (by cases e; rfl))⟩
section
variable {w w' : World} {b m : Nat} {g g' : List ((Int × Int) × S24)}
theorem Ls.b_lt (h : Ls w b m g) : b < w.heap.size := blk_lt h.1
theorem Ls.m_lt (h : Ls w b m g) : m < w.heap.size := h.2.lt
theorem Ls.ne (h : Ls w b m g) : b ≠ m := by
 obtain ⟨h1, es, c, h2, _⟩ := h
 rintro rfl
 rw [h1] at h2
 cases h2
theorem Ls.below (h : Ls w b m g) (hb : Below w.heap.size w w') : Ls w' b m g := ⟨(hb.block b (blk_lt h.1)).trans h.1, h.2.below hb⟩
theorem Ls.turn (h : Ls w b m g) (ht : Tl w w' m) (h2 : PM w' m g') : Ls w' b m g' := ⟨(ht.2 b h.b_lt h.ne).trans h.1, h2⟩
end
set_option maxHeartbeats 4000000 in
set_option maxRecDepth 100000 in
theorem live_New (w : World) : Calls Try.prog 14 #[] w fun e w' => ∃ b m, e = .returned (.pointer (some ⟨b, 0, none⟩)) ∧ Ls w' b m [] ∧ w.heap.size ≤ m ∧ w.heap.size ≤ b ∧ Below w.heap.size w w' := by
 have hmm : ∀ (t : TypeId) (w : World), (Instr.makeMap t none).run Try.prog w = .ok (.map (some w.heap.size)) (w.alloc (.map #[] 0)) := fun _ _ => rfl
 have hu28 := Try.underlying28
 go_enter Try.func14, Try.ntmps14
 go_wp2
 go_ret
 have hs : (w.alloc (.map #[] 0)).heap.size = w.heap.size + 1 := by simp
 refine ⟨w.heap.size + 1, w.heap.size, rfl, ⟨?_, (PM.made w).below ((Below.refl _ _).alloc (Nat.le_refl _) _)⟩, by omega, by omega, (((Below.refl _ _).alloc (Nat.le_refl _) _).alloc (by omega) _)⟩
 rw [← hs]; exact (MapKept.heap_alloc _ _).1
set_option maxHeartbeats 4000000 in
set_option maxRecDepth 100000 in
theorem live_is (w : World) (b m : Nat) (hb : w.heap[b]? = some (.cells #[.map (some m)] 28 (0, 0))) : Calls Try.prog 23 #[.pointer (some ⟨b, 0, none⟩)] w fun e w' => e = .returned (.bool true) ∧ w' = w := by
 have hu28 := Try.underlying28
 have hc : w.cell? ⟨b, 0, none⟩ = some (.map (some m)) := by simp [World.cell?, hb]
 have hne : ∀ (m : Nat) (W : World), (_root_.Go.binOp BinOp.neq 26 (.map (some m)) (.map none)).run Try.prog W = .ok (.bool true) W := fun m W => by kernel_rfl
 go_enter Try.func23, Try.ntmps23
 go_wp2
 go_ret
 exact ⟨rfl, rfl⟩
set_option maxHeartbeats 4000000 in
set_option maxRecDepth 100000 in
theorem live_may (k : Nat) (A0 : Option Addr) (c0 : Nat) (l0 : List S24) (r : Bool) (w : World) (hr0 : Kd.C k24 w A0 l0.length l0) (hc0 : l0.length ≤ c0) (h : slices_ContainsFunc_api_Point.f k l0 = some r) :
  Calls Try.prog 24 #[.slice A0 l0.length c0] w fun e w' => e = .returned (.bool (!r)) ∧ Below w.heap.size w w' := by
 have HR0 := Am hr0
 have HC0 := Am hc0
 have HH := Am h
 clear hr0 hc0 h
 go_enter Try.func24, Try.ntmps24
 go_wp2_with (go_at_call 43; refine (live_ContainsFunc_calls k A0 c0 l0 r _ HR0.out HC0.out HH.out).mono ?_; rintro e w1 ⟨rfl, hB⟩; have HB1 := Am hB; clear hB)
 go_ret
 exact ⟨rfl, HB1.out⟩
/-- A point put: of each place the first one. -/
def putL (g : List ((Int × Int) × S24)) (x : S24) : List ((Int × Int) × S24) := if (pat (x.f0, x.f1) g).isSome then g else g ++ [((x.f0, x.f1), x)]
def live_put.T2 : Bool × List (List Nat × List Nat) := (true, [([], []), ([0], [0]), ([1], [1]), ([2], [2]), ([], []), ([3, 4], [3, 4]), ([5], [5]), ([6], [6]), ([6], [6]), ([], []), ([9, 7, 0, 1, 2, 3, 4, 5, 6, 7, 9], [7, 9]), ([8, 10, 0, 1, 2, 3, 4, 5, 6, 7, 8, 9, 10], [8])])
def live_put.B2 : List Nat := [0, 1, 3, 7, 0, 31, 63, 127, 127, 0, 767, 2047]
theorem live_put.tab2 : rtab .any (opsOf Try.f26 2) = live_put.T2 := by kernel_rfl
theorem live_put.bits2 : waitsOk live_put.T2.2 live_put.B2 = true := by kernel_rfl
def live_put.T4 : Bool × List (List Nat × List Nat) := (true, [([], []), ([0], [0]), ([1], [1]), ([2], [2]), ([], []), ([], []), ([3, 4, 5, 0, 1, 2, 3, 4, 5], [3, 4, 5])])
def live_put.B4 : List Nat := [0, 1, 3, 7, 0, 0, 63]
theorem live_put.tab4 : rtab .any (opsOf Try.f26 4) = live_put.T4 := by kernel_rfl
theorem live_put.bits4 : waitsOk live_put.T4.2 live_put.B4 = true := by kernel_rfl
def live_Has.T3 : Bool × List (List Nat × List Nat) := (true, [([], []), ([0], [0]), ([1], [1]), ([2], [2]), ([], []), ([], []), ([4, 5], [4, 5]), ([3, 6], [3, 6]), ([7], [7]), ([8], [8]), ([8], [8]), ([], []), ([11, 9, 0, 1, 2, 3, 4, 5, 6, 7, 8, 9, 11], [9, 11]), ([10, 12, 0, 1, 2, 3, 4, 5, 6, 7, 8, 9, 10, 11, 12], [10])])
def live_Has.B3 : List Nat := [0, 1, 3, 7, 0, 0, 48, 127, 255, 511, 511, 0, 3071, 8191]
theorem live_Has.tab3 : rtab .any (opsOf Try.f10 3) = live_Has.T3 := by kernel_rfl
theorem live_Has.bits3 : waitsOk live_Has.T3.2 live_Has.B3 = true := by kernel_rfl
set_option maxHeartbeats 4000000 in
set_option maxRecDepth 100000 in
theorem live_put (w : World) (b m : Nat) (g : List ((Int × Int) × S24)) (x : S24) (hL : Ls w b m g) (hk : okK (x.f0, x.f1)) :
  Calls Try.prog 26 #[.pointer (some ⟨b, 0, none⟩), pv x] w fun e w' => e = .returned (.tuple #[]) ∧ Ls w' b m (putL g x) ∧ Tl w w' m := by
 have hu28 := Try.underlying28
 have hu24 := Try.underlying24
 have hu69 := Try.underlying69
 have hu26 := Try.underlying26
 have hz24 : ∀ W : World, (zeroValue 24).run Try.prog W = .ok (.agg #[.int .i64 0, .int .i64 0, .int .i64 0, .int .u32 0]) W := fun W => by kernel_rfl
 have hz69 : ∀ W : World, (zeroValue 69).run Try.prog W = .ok (.agg #[.int .i64 0, .int .i64 0]) W := fun W => by kernel_rfl
 have HL := Am hL
 have HK := Am hk
 clear hL hk
 unfold pv
 go_enter Try.func26, Try.ntmps26
 go_wp2
 obtain ⟨w1, hw1⟩ : ∃ w1, w.alloc (.cells #[.int .i64 x.f0, .int .i64 x.f1, .int .i64 x.f2, .int .u32 x.f3] 24) = w1 := ⟨_, rfl⟩
 have hs1 : w1.heap.size = w.heap.size + 1 := by rw [← hw1]; simp
 have hp1 : w1.heap[w.heap.size]? = some (.cells #[.int .i64 x.f0, .int .i64 x.f1, .int .i64 x.f2, .int .u32 x.f3] 24 (0, 0)) := by rw [← hw1]; exact World.alloc_heap_new w _
 have hB1 : Below w.heap.size w w1 := by rw [← hw1]; exact (Below.refl _ w).alloc (Nat.le_refl _) _
 rw [hw1]
 clear hw1
 obtain ⟨w2, hw2⟩ : ∃ w2, w1.alloc (.cells #[.int .i64 x.f0, .int .i64 x.f1] 69) = w2 := ⟨_, rfl⟩
 have hk2 : w2.heap[w1.heap.size]? = some (.cells #[.int .i64 x.f0, .int .i64 x.f1] 69 (0, 0)) := by rw [← hw2]; exact World.alloc_heap_new w1 _
 have hb12 : Below w1.heap.size w1 w2 := by rw [← hw2]; exact (Below.refl _ w1).alloc (Nat.le_refl _) _
 have hp2 : w2.heap[w.heap.size]? = some (.cells #[.int .i64 x.f0, .int .i64 x.f1, .int .i64 x.f2, .int .u32 x.f3] 24 (0, 0)) := (hb12.block _ (by omega)).trans hp1
 have hB2 : Below w.heap.size w w2 := hB1.trans (hb12.mono (by omega))
 rw [hw2]
 rw [hs1] at hk2
 obtain ⟨q, hq⟩ : ∃ q, w.heap.size = q := ⟨_, rfl⟩
 rw [hq] at hk2 hp2 hB2 ⊢
 have HP := Am (blk_drew hp2)
 have HKB := Am (blk_drew hk2)
 have HB := Am (below_drew1 hB2)
 have hL2 : Ls w2 b m g := HL.out.below (by rw [hq]; exact hB2)
 have HL2 := Am (show Ls w2.drew b m g from hL2)
 clear hw2 hk2 hp2 hb12 hB2 hL2 hs1 hp1 hB1
 obtain ⟨R0, R1, hR⟩ : ∃ R0 R1, R0 = ((pat (x.f0, x.f1) g).map pv).getD (.agg #[.int .i64 0, .int .i64 0, .int .i64 0, .int .u32 0]) ∧ R1 = (pat (x.f0, x.f1) g).isSome := ⟨_, _, rfl, rfl⟩
 have HR := Am hR
 obtain ⟨y, hy⟩ : ∃ y : S24, R0 = .agg #[.int .i64 y.f0, .int .i64 y.f1, .int .i64 y.f2, .int .u32 y.f3] := by
  rw [hR.1]
  cases pat (x.f0, x.f1) g with
  | none => exact ⟨⟨0, 0, 0, 0⟩, rfl⟩
  | some y => exact ⟨y, rfl⟩
 have hlook : ∀ W : World, PM W m g → (Instr.lookup 26 (.map (some m)) (.agg #[.int .i64 x.f0, .int .i64 x.f1]) true).run Try.prog W = .ok (.tuple #[.agg #[.int .i64 y.f0, .int .i64 y.f1, .int .i64 y.f2, .int .u32 y.f3], .bool R1]) W := fun W hW => by
  have h := hW.look (k := (x.f0, x.f1)) HK.out true _ (hz24 W)
  rw [← hR.1, ← hR.2, hy] at h
  exact h
 have HLK := Am hlook
 clear hR hy hlook
 refine start_ (n := 12) (S := fun w' => w'.cell? ⟨b, 0, none⟩ = some (.map (some m)) ∧ w'.cell? ⟨q + 1, 0, none⟩ = some (.int .i64 x.f0) ∧ w'.cell? ⟨q + 1, 1, none⟩ = some (.int .i64 x.f1) ∧ (Instr.lookup 26 (.map (some m)) (.agg #[.int .i64 x.f0, .int .i64 x.f1]) true).run Try.prog w' = .ok (.tuple #[.agg #[.int .i64 y.f0, .int .i64 y.f1, .int .i64 y.f2, .int .u32 y.f3], .bool R1]) w') (ds := [10]) #[false, false, false, false, false, false, false, false, false, false, false, false] (by kernel_rfl) rfl rfl ⟨blk_cell HL2.out.1 0, blk_cell HKB.out 0, blk_cell HKB.out 1, HLK.out _ HL2.out.2⟩ (fun hHeld => ?_); refine with_tabW live_put.tab2 live_put.bits2 (fun HT_ HW_ => ?_)
 generalize w2.drew = w3 at HL2 HKB HP HB hHeld ⊢
 refine pui 0 13 12 1 HT_ ?_
 refine pui 1 14 12 3 HT_ ?_
 refine pui 2 15 12 7 HT_ ?_
 refine tki 3 16 12 15 HT_ HW_ hHeld ?_
 refine tki 4 17 12 31 HT_ HW_ hHeld ?_
 refine tki 5 18 12 63 HT_ HW_ hHeld ?_
 refine pui 6 12 12 127 HT_ ?_
 refine pui 7 19 12 255 HT_ ?_
 refine pui 8 20 12 511 HT_ ?_
 refine onei 9 5 12 1023 HT_ (fun K hK => ?_)
 refine value_ (w1 := ?_) (v := ?_) (by rfl) rfl ?_ ?_
 rotate_left 2
 ·go_simp
  constructor
  ·rfl
  ·rfl
 have hpl := blk_lt HP.out
 have hkl := blk_lt HKB.out
 have hbl3 := HL2.out.b_lt
 have hml3 := HL2.out.m_lt
 obtain ⟨w4, hw4⟩ : ∃ w4, w3.alloc (.cells #[.int .i64 0, .int .i64 0, .int .i64 0, .int .u32 0] 24) = w4 := ⟨_, rfl⟩
 have hb34 : Below w3.heap.size w3 w4 := by rw [← hw4]; exact (Below.refl _ w3).alloc (Nat.le_refl _) _
 have hz4 : w4.heap[w3.heap.size]? = some (.cells #[.int .i64 0, .int .i64 0, .int .i64 0, .int .u32 0] 24 (0, 0)) := by rw [← hw4]; exact World.alloc_heap_new w3 _
 rw [hw4]
 replace HKB := Am ((hb34.block _ (blk_lt HKB.out)).trans HKB.out)
 replace HP := Am ((hb34.block _ (blk_lt HP.out)).trans HP.out)
 replace HL2 := Am (HL2.out.below hb34)
 have hq3 : q ≤ w3.heap.size := by rw [← hq]; exact HB.out.size
 replace HB := Am (HB.out.trans (hb34.mono hq3))
 refine hK.out _ _ ⟨blk_cell HL2.out.1 0, blk_cell HKB.out 0, blk_cell HKB.out 1, HLK.out _ HL2.out.2⟩ (fun hHeld => ?_)
 clear hK K hb34 hw4
 refine norm_ (a' := ?_) ?_ ?_
 rotate_left
 ·show Act.put _ (some 5) _ = _
  simp only [Act.put, List.setIfInBounds_toArray, List.set_cons_zero, List.set_cons_succ, i64_w, i32_w]
  rfl
 obtain ⟨z0, z1, z2, z3⟩ := bc4 hz4
 obtain ⟨f0, f1, f2, f3⟩ := bf4 hz4
 refine last_ (i := 10) (N := none) (bw 12 2047) rfl rfl (one_of HT_.out (by kernel_rfl)) (by decide) (fun K hK => ?_)
 refine skip_ (w1 := ?_) (by rfl) rfl ?_ ?_
 rotate_left
 ·go_simp
  rfl
 refine hK.out _ _ ?_
 clear hK K
 obtain ⟨w5, hw5⟩ : ∃ w5, (((w4.setCell ⟨w3.heap.size, 0, none⟩ (.int .i64 y.f0)).setCell ⟨w3.heap.size, 1, none⟩ (.int .i64 y.f1)).setCell ⟨w3.heap.size, 2, none⟩ (.int .i64 y.f2)).setCell ⟨w3.heap.size, 3, none⟩ (.int .u32 y.f3) = w5 := ⟨_, rfl⟩
 rw [hw5]
 have hB5 : Below w3.heap.size w4 w5 := by
  rw [← hw5]
  exact ((((Below.refl w3.heap.size w4).setCell (p := ⟨w3.heap.size, 0, none⟩) (Nat.le_refl _) _).setCell (p := ⟨w3.heap.size, 1, none⟩) (Nat.le_refl _) _).setCell (p := ⟨w3.heap.size, 2, none⟩) (Nat.le_refl _) _).setCell (p := ⟨w3.heap.size, 3, none⟩) (Nat.le_refl _) _
 have hPl : q < w3.heap.size := hpl
 have hKl : q + 1 < w3.heap.size := hkl
 have hbl : b < w3.heap.size := hbl3
 have hml : m < w3.heap.size := hml3
 replace HP := Am ((hB5.block _ hPl).trans HP.out)
 replace HKB := Am ((hB5.block _ hKl).trans HKB.out)
 replace HL2 := Am (show Ls w5 b m g from ⟨(hB5.block _ hbl).trans HL2.out.1, HL2.out.2.move (hB5.block _ hml)⟩)
 replace HB := Am (HB.out.trans (hB5.mono hq3))
 clear hw5 hB5 hz4 z0 z1 z2 z3 f0 f1 f2 f3
 refine pui 11 6 12 4095 HT_ ?_
 refine done_ (done_of HT_.out (by kernel_rfl)) ?_
 clear HT_ HW_ hHeld hz24 hz69
 have hR := HR.out
 cases hp : pat (x.f0, x.f1) g with
 | some y' =>
  have hR1 : R1 = true := by rw [hR.2, hp]; rfl
  subst hR1
  clear hR
  go_wp2
  first | go_end0 | ((try simp only [Exit.inBlock, Exit.then]); refine bodyPost_ret (results_none rfl _ _ _) rfl ?_)
  refine ⟨rfl, ?_, Tl.of_below (by rw [hq]; exact HB.out)⟩
  unfold putL
  rw [hp, if_pos (show (some y').isSome = true from rfl)]
  exact HL2.out
 | none =>
  have hR1 : R1 = false := by rw [hR.2, hp]; rfl
  subst hR1
  have HPN := Am hp
  clear hR hp
  go_wp2
  obtain ⟨w7, hpush, hm7, hg7⟩ := PM.push (PM.move HL2.out.2 (w1 := w5.drew) rfl) HK.out HPN.out x
  simp only [pk, pv] at hpush
  refine start_ (n := 7) (S := fun w' => w'.cell? ⟨b, 0, none⟩ = some (.map (some m)) ∧ w'.cell? ⟨q + 1, 0, none⟩ = some (.int .i64 x.f0) ∧ w'.cell? ⟨q + 1, 1, none⟩ = some (.int .i64 x.f1) ∧ w'.cell? ⟨q, 0, none⟩ = some (.int .i64 x.f0) ∧ w'.cell? ⟨q, 1, none⟩ = some (.int .i64 x.f1) ∧ w'.cell? ⟨q, 2, none⟩ = some (.int .i64 x.f2) ∧ w'.cell? ⟨q, 3, none⟩ = some (.int .u32 x.f3)) (ds := [6]) #[false, false, false, false, false, false, false] (by kernel_rfl) rfl rfl ⟨blk_cell (blk_drew HL2.out.1) 0, blk_cell (blk_drew HKB.out) 0, blk_cell (blk_drew HKB.out) 1, blk_cell (blk_drew HP.out) 0, blk_cell (blk_drew HP.out) 1, blk_cell (blk_drew HP.out) 2, blk_cell (blk_drew HP.out) 3⟩ (fun hHeld => ?_); refine with_tabW live_put.tab4 live_put.bits4 (fun HT_ HW_ => ?_)
  replace HL2 := Am (show Ls w5.drew b m g from HL2.out)
  replace HB := bDa HB
  generalize w5.drew = w6 at HL2 HB hHeld hpush hg7 ⊢
  refine pui 0 23 7 1 HT_ ?_
  refine pui 1 24 7 3 HT_ ?_
  refine pui 2 25 7 7 HT_ ?_
  refine tki 3 26 7 15 HT_ HW_ hHeld ?_
  refine tki 4 27 7 31 HT_ HW_ hHeld ?_
  refine tki 5 28 7 63 HT_ HW_ hHeld ?_
  refine last_ (i := 6) (N := none) (bw 7 127) rfl rfl (one_of HT_.out (by kernel_rfl)) (by decide) (fun K hK => ?_)
  refine skip_ (w1 := ?_) (by rfl) rfl ?_ ?_
  rotate_left
  ·go_simp
   rfl
  refine hK.out _ _ ?_
  clear hK K
  refine done_ (done_of HT_.out (by kernel_rfl)) ?_
  try go_wp2
  first | go_end0 | ((try simp only [Exit.inBlock, Exit.then]); refine bodyPost_ret (results_none rfl _ _ _) rfl ?_)
  refine ⟨rfl, ?_, (Tl.of_below (by rw [hq]; exact HB.out)).trans (Tl.grown hg7)⟩
  have h1 := HL2.out.turn (Tl.grown hg7) hm7
  unfold putL
  rw [HPN.out, if_neg (by simp)]
  exact h1
theorem cell_same {w w' : World} {a : Addr} (h : w'.heap[a.block]? = w.heap[a.block]?) : w'.cell? a = w.cell? a := by simp [World.cell?, h]
theorem Tl.cell {w w' : World} {m : Nat} {a : Addr} {v : Value} (h : Tl w w' m) (hc : w.cell? a = some v) (hm : a.block ≠ m) : w'.cell? a = some v := (cell_same (h.2 _ (World.block_lt_of_cell? _ _ hc) hm)).trans hc
theorem C_ne {w : World} {A : Option Addr} {l : List S24} {m : Nat} (h : Kd.C k24 w A l.length l) (hm : w.heap.size ≤ m) : ∀ ad, A = some ad → 0 < l.length → ad.block ≠ m := by
 intro ad e hl
 obtain ⟨ad', e0, h0, _⟩ := at_T24 h 0 (by omega) (by omega)
 rw [e] at e0
 cases e0
 have h1 := World.block_lt_of_cell? _ _ h0
 have h2 : (ad.add ((0 : Int).toNat * 4)).block = ad.block := by unfold Addr.add; split <;> rfl
 rw [h2] at h1
 omega
/-- The elements put, one by one. -/
def putsL (g : List ((Int × Int) × S24)) (l : List S24) : List ((Int × Int) × S24) := l.foldl putL g
set_option maxHeartbeats 4000000 in
set_option maxRecDepth 100000 in
/-- Put, where every point may be. -/
theorem live_Put_ok (w : World) (b m k : Nat) (g : List ((Int × Int) × S24)) (A : Option Addr) (c : Nat) (l : List S24) (hL : Ls w b m g) (hr : Kd.C k24 w A l.length l) (hc : l.length ≤ c) (h : slices_ContainsFunc_api_Point.f k l = some false) (hk : ∀ x ∈ l, okK (x.f0, x.f1)) (hA : ∀ ad, A = some ad → 0 < l.length → ad.block ≠ m) :
  Calls Try.prog 9 #[.pointer (some ⟨b, 0, none⟩), .slice A l.length c] w fun e w' => e = .returned (.int .i64 0) ∧ Ls w' b m (putsL g l) ∧ Tl w w' m := by
 have hu28 := Try.underlying28
 have hu24 := Try.underlying24
 have hz24 : ∀ W : World, (zeroValue 24).run Try.prog W = .ok (.agg #[.int .i64 0, .int .i64 0, .int .i64 0, .int .u32 0]) W := fun W => by kernel_rfl
 have HL := Am hL
 have HR := Am hr
 have HC := Am hc
 have HM := Am h
 have HK := Am hk
 have HA := Am hA
 have hn : l.length ≤ 9223372036854775807 := Kd.C_max hr
 clear hL hr hc h hk hA
 go_enter Try.func9, Try.ntmps9
 go_wp2_with (first | (go_at_call 23; refine (live_is _ _ _ HL.out.1).mono ?_; rintro e w1 ⟨rfl, hw⟩; rw [hw]) | (go_at_call 24; refine (live_may k _ _ l false _ HR.out HC.out HM.out).mono ?_; rintro e w1 ⟨rfl, hB⟩; have HT := Am (Tl.of_below (m := m) hB); have HL1 := Am (HL.out.below hB); clear hB))
 go_loopw [17] (fun v17 wr => ∃ i : Nat, i ≤ l.length ∧ v17 = .int .i64 i ∧ Aside0 (Ls wr b m (putsL g (l.take i))) ∧ Aside0 (Tl w wr m)) (fun v17 _ => l.length - (intOf v17).toNat)
 case atStart => exact ⟨0, Nat.zero_le _, rfl, ⟨by rw [List.take_zero]; exact HL1.out⟩, HT⟩
 case round =>
  clear HL1 HT
  obtain ⟨i, hi, rfl, HL1, HT⟩ := hrel
  by_cases hlt : i < l.length
  ·obtain ⟨ad, e0, h0, h1, h2, h3⟩ := at_T24 HR.out (i : Int) (by omega) (by omega)
   have hne : (ad.add ((i : Int).toNat * 4)).block ≠ m := by
    have h9 := HA.out ad e0 (by omega)
    rwa [show (ad.add ((i : Int).toNat * 4)).block = ad.block from by unfold Addr.add; split <;> rfl]
   subst e0
   have h0 := HT.out.cell h0 hne
   have h1 := HT.out.cell h1 hne
   have h2 := HT.out.cell h2 hne
   have h3 := HT.out.cell h3 hne
   simp only [Int.toNat_natCast] at h0 h1 h2 h3
   have hlt' : ((i : Int) < (l.length : Int)) := by omega
   obtain ⟨x, hx⟩ : ∃ x, x = rd_T24 l (i : Int) := ⟨_, rfl⟩
   have hxi : x = l[i] := by rw [hx]; simp [rd_T24, hlt]
   have hxm : okK (x.f0, x.f1) := HK.out x (by rw [hxi]; exact List.getElem_mem hlt)
   rw [← hx] at h0 h1 h2 h3
   have HX := Am hxi
   have HXM := Am hxm
   clear hx hxi hxm hne
   go_wp2_with (first | (go_at_call 26; refine (live_put _ b m _ x (HL1.out.below ((Below.refl _ _).alloc (Nat.le_refl _) _)) HXM.out).mono ?_; rintro e w3 ⟨rfl, hl3, ht3⟩; have HL3 := Am hl3; have HT3 := Am ((HT.out.trans (Tl.of_below ((Below.refl _ _).alloc (Nat.le_refl _) _))).trans ht3); clear hl3 ht3))
   go_roundw
   case rel =>
    refine ⟨i + 1, by omega, by go_num, ⟨?_⟩, HT3⟩
    have h1 := HL3.out
    have e : l.take (i + 1) = l.take i ++ [x] := by rw [HX.out, List.take_succ_eq_append_getElem hlt]
    unfold putsL at h1 ⊢
    rw [e, List.foldl_append]
    exact h1
   case measure => simp [intOf]; omega
  ·have hkl : i = l.length := by omega
   subst hkl
   rw [List.take_length] at HL1
   go_wp2
   go_ret
   exact ⟨rfl, HL1.out, HT.out⟩
set_option maxHeartbeats 4000000 in
set_option maxRecDepth 100000 in
/-- Put, where a point may not be. -/
theorem live_Put_no (w : World) (b m k : Nat) (g : List ((Int × Int) × S24)) (A : Option Addr) (c : Nat) (l : List S24) (hL : Ls w b m g) (hr : Kd.C k24 w A l.length l) (hc : l.length ≤ c) (h : slices_ContainsFunc_api_Point.f k l = some true) :
  Calls Try.prog 9 #[.pointer (some ⟨b, 0, none⟩), .slice A l.length c] w fun e w' => e = .returned (.int .i64 1) ∧ Below w.heap.size w w' := by
 have HL := Am hL
 have HR := Am hr
 have HC := Am hc
 have HM := Am h
 clear hL hr hc h
 go_enter Try.func9, Try.ntmps9
 go_wp2_with (first | (go_at_call 23; refine (live_is _ _ _ HL.out.1).mono ?_; rintro e w1 ⟨rfl, hw⟩; rw [hw]) | (go_at_call 24; refine (live_may k _ _ l true _ HR.out HC.out HM.out).mono ?_; rintro e w1 ⟨rfl, hB⟩; have HB1 := Am hB; clear hB))
 go_ret
 exact ⟨rfl, HB1.out⟩
set_option maxHeartbeats 4000000 in
set_option maxRecDepth 100000 in
theorem live_All (w : World) (b m : Nat) (g : List ((Int × Int) × S24)) (r : List S24) (hL : Ls w b m g) (hN : g.length ≤ 1000000) (hO : ∀ ps : List S24, ps.Perm (g.map (·.2)) → ∃ k, point_Order.f k ps = some r) :
  Calls Try.prog 11 #[.pointer (some ⟨b, 0, none⟩)] w fun e w' => ∃ v, e = .returned v ∧ Kd.R k24 24 w' w.heap.size (fun _ => True) v r ∧ Below w.heap.size w w' := by
 have hu28 := Try.underlying28
 have hc : w.cell? ⟨b, 0, none⟩ = some (.map (some m)) := by simp [World.cell?, hL.1]
 have HL := Am hL
 have HN := Am hN
 have HO := Am hO
 clear hO
 clear hN
 clear hL
 go_enter Try.func11, Try.ntmps11
 go_wp2_with (first | (go_at_call 23; refine (live_is _ _ _ HL.out.1).mono ?_; rintro e w1 ⟨rfl, hw⟩; rw [hw]) | (go_at_call 29; refine (callsIn_wide (n := 1)).1 ((values_in Fence.wide 1 trivial rfl (some m) _).mono ?_); rintro e w1 ⟨rfl, hw⟩; rw [hw]) | (go_at_call 28; refine (collected _ m g HL.out.2 (by have := HN.out; omega)).mono ?_; rintro e w2 ⟨v, ps, rfl, hp, hR, hB⟩; obtain ⟨A, c, hv⟩ := Kd.R_slice hR; subst hv; obtain ⟨k, hk⟩ := HO.out ps hp; have HK := Am hk; have HR2 := Am hR; have HB2 := Am hB; clear hp hR hB hk) | (go_at_call 27; refine (point_Order.calls k A c ps r _ (Kd.R_reads' HR2.out).2.2 (Kd.R_reads' HR2.out).2.1 HK.out).mono ?_; rintro e w3 ⟨v3, rfl, hR3, hB3⟩; have HR3 := Am (Kd.R_lower hR3 HB2.out.size); have HB3 := Am (HB2.out.trans (hB3.mono HB2.out.size)); clear hR3 hB3))
 go_ret
 exact ⟨_, rfl, HR3.out, HB3.out⟩
set_option maxHeartbeats 4000000 in
set_option maxRecDepth 100000 in
theorem live_Has (w : World) (b m : Nat) (g : List ((Int × Int) × S24)) (seg at_ : Int) (hL : Ls w b m g) (hk : okK (seg, at_)) :
  Calls Try.prog 10 #[.pointer (some ⟨b, 0, none⟩), .int .i64 seg, .int .i64 at_] w fun e w' => e = .returned (.bool (pat (seg, at_) g).isSome) ∧ Below w.heap.size w w' := by
 have hu28 := Try.underlying28
 have hu24 := Try.underlying24
 have hz24 : ∀ W : World, (zeroValue 24).run Try.prog W = .ok (.agg #[.int .i64 0, .int .i64 0, .int .i64 0, .int .u32 0]) W := fun W => by kernel_rfl
 have hc : w.cell? ⟨b, 0, none⟩ = some (.map (some m)) := by simp [World.cell?, hL.1]
 have HL := Am hL
 obtain ⟨R1, hR1⟩ : ∃ R1, R1 = (pat (seg, at_) g).isSome := ⟨_, rfl⟩
 obtain ⟨y, hy⟩ : ∃ y : S24, ((pat (seg, at_) g).map pv).getD (.agg #[.int .i64 0, .int .i64 0, .int .i64 0, .int .u32 0]) = .agg #[.int .i64 y.f0, .int .i64 y.f1, .int .i64 y.f2, .int .u32 y.f3] := by
  cases pat (seg, at_) g with
  | none => exact ⟨⟨0, 0, 0, 0⟩, rfl⟩
  | some y => exact ⟨y, rfl⟩
 have hlook : (Instr.lookup 26 (.map (some m)) (.agg #[.int .i64 seg, .int .i64 at_]) true).run Try.prog w = .ok (.tuple #[.agg #[.int .i64 y.f0, .int .i64 y.f1, .int .i64 y.f2, .int .u32 y.f3], .bool R1]) w := by
  have h := hL.2.look (k := (seg, at_)) hk true _ (hz24 w)
  rw [hy, ← hR1] at h
  exact h
 rw [← hR1]
 clear hL hk hy hR1
 go_enter Try.func10, Try.ntmps10
 go_wp2_with (first | (go_at_call 23; refine (live_is _ _ _ HL.out.1).mono ?_; rintro e w1 ⟨rfl, hw⟩; rw [hw]))
 go_ret
 refine ⟨rfl, ?_⟩
 repeat (first | exact Below.refl _ _ | exact (Below.refl _ _).alloc (Nat.le_refl _) _ | refine Below.setCell ?_ (Nat.le_refl _) _)
set_option maxHeartbeats 4000000 in
set_option maxRecDepth 100000 in
theorem live_Tally (w : World) (b m k : Nat) (g : List ((Int × Int) × S24)) (r : List S24) (r1 : List S79) (r2 : Int) (hL : Ls w b m g) (hN : g.length ≤ 1000000) (hO : ∀ ps : List S24, ps.Perm (g.map (·.2)) → ∃ k, point_Order.f k ps = some r) (hT : tally_Of.f k r = some (r1, r2)) :
  Calls Try.prog 13 #[.pointer (some ⟨b, 0, none⟩)] w fun e w' => ∃ v, e = .returned v ∧ Kd.R k79 79 w' w.heap.size (fun _ => True) v r1 ∧ Below w.heap.size w w' := by
 have HL := Am hL
 have HN := Am hN
 have HO := Am hO
 have HT := Am hT
 clear hT
 clear hO
 clear hN
 clear hL
 go_enter Try.func13, Try.ntmps13
 go_wp2_with (first | (go_at_call 11; refine (live_All _ b m g r HL.out HN.out HO.out).mono ?_; rintro e w1 ⟨v, rfl, hR, hB⟩; obtain ⟨A, c, hv⟩ := Kd.R_slice hR; subst hv; have HR2 := Am hR; have HB2 := Am hB; clear hR hB) | (go_at_call 32; refine (tally_Of.calls k A c r r1 r2 _ (Kd.R_reads' HR2.out).2.2 (Kd.R_reads' HR2.out).2.1 HT.out).mono ?_; rintro e w3 ⟨v3, rfl, hR3, hB3⟩; have HR3 := Am (Kd.R_lower hR3 HB2.out.size); have HB3 := Am (HB2.out.trans (hB3.mono HB2.out.size)); clear hR3 hB3))
 go_ret
 exact ⟨_, rfl, HR3.out, HB3.out⟩
end
section
def awP : S24 := ⟨2, 5, 9, 0⟩
theorem aw_may : slices_ContainsFunc_api_Point.f 30 [awP, awP] = some false := by decide +kernel
theorem aw_ord : point_Order.f 60 [awP] = some [awP] := by kernel_rfl
theorem aw_tal : tally_Of.f 60 [awP] = some ([⟨2, 9⟩], 0) := by kernel_rfl
theorem aw_ok : okK (2, 5) := ⟨by decide, by decide⟩
theorem aw_puts : putsL [] [awP, awP] = [((2, 5), awP)] := by kernel_rfl
set_option maxHeartbeats 4000000 in
set_option maxRecDepth 100000 in
theorem live_awake (w : World) : Calls Try.prog 15 #[] w fun e w' => e = .returned (.bool true) ∧ Below w.heap.size w w' := by
 have hu24 := Try.underlying24
 have hu79 := Try.underlying79
 have hz24 : ∀ W : World, (zeroValue 24).run Try.prog W = .ok (.agg #[.int .i64 0, .int .i64 0, .int .i64 0, .int .u32 0]) W := fun W => by kernel_rfl
 have hO : ∀ ps : List S24, ps.Perm ([((2, 5), awP)].map (fun p : (Int × Int) × S24 => p.2)) → ∃ k, point_Order.f k ps = some [awP] := fun ps hp => by
  have : ps = [awP] := by simpa using hp
  rw [this]
  exact ⟨60, aw_ord⟩
 have HO := Am hO
 clear hO
 go_enter Try.func15, Try.ntmps15
 go_upto_region 3 with (first | (go_at_call 14; refine (live_New _).mono ?_; rintro e w1 ⟨b, m, rfl, hl, hm, hb, hB⟩; have HL := Am hl; have HM := Am hm; have HB1 := Am hB; clear hl hm hb hB))
 have HB2 := Am (HB1.out.alloc HB1.out.size (.cells #[.int .i64 2, .int .i64 5, .int .i64 9, .int .u32 0] 24))
 have HL2 := Am (HL.out.below ((Below.refl _ w1).alloc (Nat.le_refl _) (.cells #[.int .i64 2, .int .i64 5, .int .i64 9, .int .u32 0] 24)))
 obtain ⟨q0, q1, q2, q3⟩ := bc4 (World.alloc_heap_new w1 (.cells #[.int .i64 2, .int .i64 5, .int .i64 9, .int .u32 0] 24))
 obtain ⟨q, hq⟩ : ∃ q, w1.heap.size = q := ⟨_, rfl⟩
 rw [hq] at q0 q1 q2 q3 ⊢
 generalize w1.alloc (.cells #[.int .i64 2, .int .i64 5, .int .i64 9, .int .u32 0] 24) = w2 at HB2 HL2 q0 q1 q2 q3 ⊢
 clear hq
 go_upto_region 5 with (first | ((with_reducible refine gate_dst (N := 10) rfl ?_); refine Kd.R_lit k24 _ 24 ?hg (N := 10) ?hd (xs := ([awP, awP] : List S24)) (inner := flat4 [awP, awP]) (ok := fun _ => True) (okp := fun _ => True) ?hr ?hp (fun _ hk => hk) trivial (Below.refl _ _) (Nat.le_refl _) (by simp) ?_; (case hd => rfl); (case hg => rfl); (case hr => first | (go_simp; done) | (go_simp; rfl)); (case hp => exact flat4_reps _ _ _ _); intro v3 w3 ho3 hb3 hg_ hnew_; obtain ⟨A3, c3, hv⟩ := Kd.R_slice ho3; subst hv; have HR3 := Am ho3; have HL3 := Am (HL2.out.below hb3); have HB3 := Am (HB2.out.trans (hb3.mono HB2.out.size)); have HMS := Am (HL2.out.m_lt); have hne : ∀ ad, A3 = some ad → ad.block ≠ m := (fun ad e => by have hbs := Kd.R_base ho3; have hml := HL2.out.m_lt; subst e; obtain ⟨g, hg⟩ := Kd.R_head ho3; subst hg; have := hbs g rfl; show g ≠ m; omega); have HNE := Am hne; clear ho3 hb3 hg_ hnew_ hne) | (go_at_call 9; refine (live_Put_ok _ b m 30 [] A3 c3 [awP, awP] HL3.out (Kd.R_reads' HR3.out).2.2 (Kd.R_reads' HR3.out).2.1 aw_may (fun x hx => by have h9 : x = awP := (by simpa using hx); rw [h9]; exact aw_ok) (fun ad e _ => HNE.out ad e)).mono ?_; rintro e w4 ⟨rfl, hl, ht⟩; rw [aw_puts] at hl; have HL4 := Am hl; have HB4 := Am (HB3.out.trans (ht.1 _ HB3.out.size HM.out)); clear hl ht) | (go_at_call 13; refine (live_Tally _ b m 60 _ _ _ _ HL4.out (by decide) HO.out aw_tal).mono ?_; rintro e w5 ⟨v5, rfl, hR, hB⟩; obtain ⟨A5, c5, hv⟩ := Kd.R_slice hR; subst hv; have HR5 := Am hR; have HL5 := Am (HL4.out.below hB); have HB5 := Am (HB4.out.trans (hB.mono HB4.out.size)); clear hR hB))
 clear q0 q1 q2 q3
 go_wp2_with (first | (go_at_call 11; refine (live_All _ b m _ _ HL5.out (by decide) HO.out).mono ?_; rintro e w6 ⟨v6, rfl, hR, hB⟩; obtain ⟨A6, c6, hv⟩ := Kd.R_slice hR; subst hv; have HR6 := Am (Kd.R_below HR5.out hB); have HL6 := Am (HL5.out.below hB); have HB6 := Am (HB5.out.trans (hB.mono HB5.out.size)); clear hR hB) | (go_at_call 10; refine (live_Has _ b m _ 2 5 HL6.out aw_ok).mono ?_; rintro e w7 ⟨rfl, hB⟩; have HR7 := Kd.R_below HR6.out hB; have HB7 := Am (HB6.out.trans (hB.mono HB6.out.size)); obtain ⟨ad, e5, c0, c1⟩ := at_T79 (Kd.R_reads' HR7).2.2 0 (by decide) (by decide); replace c1 : w7.cell? ⟨ad.block, ad.off + 1, none⟩ = some (.int .i64 9) := (by have h9 := c1; simpa [Addr.add, rd_T79] using h9); clear HR7 hB c0; subst e5; rw [show (pat (2, 5) [((2, 5), awP)]).isSome = true from by decide]))
 go_ret
 exact ⟨rfl, HB7.out⟩
end
end Go.Proofs.Ytpefjfibhjnijaa.PLivePuts
