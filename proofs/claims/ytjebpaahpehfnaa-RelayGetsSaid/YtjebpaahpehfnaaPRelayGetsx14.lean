/- What the law reaches, as plain Lean functions, and that the machine's calls answer just that. -/
import Derived.Test.YtjebpaahpehfnaaPRelayGetsx0
import Derived.Test.YtjebpaahpehfnaaPRelayGetsx1
import Derived.Test.YtjebpaahpehfnaaPRelayGetsx2
import Derived.Test.YtjebpaahpehfnaaPRelayGetsx7
import Derived.Test.YtjebpaahpehfnaaPRelayGetsx13
namespace Go.Proofs.Ytjebpaahpehfnaa.PRelayGets
open Go.RowKit Go.Proofs.YtjebpaahpehfnaaW.PrintWords Go.Proofs.YtjebpaahpehfnaaW.PrintLast Go.Proofs.YtjebpaahpehfnaaW.PrintMore
attribute [local go_sem] max2_int min2_int max_two min_two max_three min_three max_four min_four
set_option linter.unusedVariables false
set_option linter.unusedSimpArgs false
attribute [local go_sem] wrap64_l1 wrap64_l2 wrap64_l3 wrap64_l4 wrap64_l5
attribute [local go_sem high] eqA46
def garnerref21_Hops.l0 : Nat → List (S46) → List (S46) → Int → Option (Bool)
 | 0, _, _, _ => none
 | k + 1, x0, x1, x5 => if x5 < (x0.length : Int) then (if 0 ≤ x5 then (if x5 < (x1.length : Int) then (if (!(((rd_T46 x0 x5).f0) == ((rd_T46 x1 x5).f0)) || ((!(((rd_T46 x0 x5).f1.f0) == ((rd_T46 x1 x5).f1.f0)) || (!(((rd_T46 x0 x5).f1.f1) == ((rd_T46 x1 x5).f1.f1)) || (!(((rd_T46 x0 x5).f1.f2) == ((rd_T46 x1 x5).f1.f2)) || (!(((rd_T46 x0 x5).f1.f3) == ((rd_T46 x1 x5).f1.f3)))))))) = true then (some false) else (garnerref21_Hops.l0 k x0 x1 (wrap64 (x5 + 1)))) else (none)) else (none)) else (some true)
def garnerref21_Hops.f (k : Nat) (l0 : List (S46)) (l1 : List (S46)) : Option (Bool) := if (l0.length : Int) = (l1.length : Int) then (garnerref21_Hops.l0 k l0 l1 0) else (some false)
theorem garnerref21_Hops.mono_l : ∀ k, (∀ y0 y1 y2, LeO (garnerref21_Hops.l0 k y0 y1 y2) (garnerref21_Hops.l0 (k + 1) y0 y1 y2))
 | 0 => fun _ _ _ r h => by simp [garnerref21_Hops.l0] at h
 | k + 1 => by
  have ih0 := garnerref21_Hops.mono_l k
  ·intro y0 y1 y2
   unfold garnerref21_Hops.l0
   repeat' first
   | (with_reducible exact ih0 _ _ _)
   | (with_reducible exact LeO.refl _)
   | (with_reducible exact LeO.none _)
   | (with_reducible refine LeO.ite ?_ ?_)
   | (with_reducible refine LeO.bind ?_ (fun _ => ?_))
   | exact ih0 _ _ _
   | exact LeO.none _
   | refine LeO.ite ?_ ?_
   | refine LeO.bind ?_ (fun _ => ?_)
theorem garnerref21_Hops.mono : ∀ a0 a1 k, LeO (garnerref21_Hops.f k a0 a1) (garnerref21_Hops.f (k + 1) a0 a1) := by
 intro a0 a1 k
 have ih0 := garnerref21_Hops.mono_l k
 unfold garnerref21_Hops.f
 repeat' first
   | (with_reducible exact ih0 _ _ _)
   | (with_reducible exact LeO.refl _)
   | (with_reducible exact LeO.none _)
   | (with_reducible refine LeO.ite ?_ ?_)
   | (with_reducible refine LeO.bind ?_ (fun _ => ?_))
   | exact ih0 _ _ _
   | exact LeO.none _
   | refine LeO.ite ?_ ?_
   | refine LeO.bind ?_ (fun _ => ?_)
set_option maxHeartbeats 8000000 in
set_option maxRecDepth 100000 in
theorem garnerref21_Hops.calls (k : Nat) (A0 : Option Addr) (c0 : Nat) (l0 : List (S46)) (A1 : Option Addr) (c1 : Nat) (l1 : List (S46)) (r : Bool) (w : World) (hr0 : Kd.C k46 w A0 l0.length l0) (hc0 : l0.length ≤ c0) (hr1 : Kd.C k46 w A1 l1.length l1) (hc1 : l1.length ≤ c1) (h : garnerref21_Hops.f k l0 l1 = some r) :
  Calls Try.prog 8 #[.slice A0 l0.length c0, .slice A1 l1.length c1] w fun e w' => e = .returned (.bool r) ∧ Drawn0 w w' := by
 have hu46 := Try.underlying46
 have HR0 := Am hr0
 have HC0 := Am hc0
 clear hr0 hc0
 have HR1 := Am hr1
 have HC1 := Am hc1
 clear hr1 hc1
 have H : (if (l0.length : Int) = (l1.length : Int) then (garnerref21_Hops.l0 k l0 l1 0) else (some false)) = some r := h
 clear h
 by_cases c3 : (l0.length : Int) = (l1.length : Int)
 rotate_left
 ·rw [if_neg c3] at H
  have c3b0 : ((l0.length : Int) == (l1.length : Int)) = false := beq_eq_false_iff_ne.mpr c3
  have c3b1 : ((l0.length : Int) != (l1.length : Int)) = true := bne_iff_ne.mpr c3
  have c3b2 : (l0.length == l1.length) = false := by first | simpa using c3 | (simp at c3 ⊢; omega)
  obtain rfl := Option.some.inj H
  go_enter Try.func8, Try.ntmps8
  go_wp2
  repeat (go_quiet (fail); try go_wp2)
  go_ret
  exact ⟨by first | rfl | (simp; done) | (simp [*]; done), by repeat (first | exact Drawn0.refl _ | apply Drawn0.step)⟩
 rw [if_pos c3] at H
 have c3b0 : ((l0.length : Int) == (l1.length : Int)) = true := beq_iff_eq.mpr c3
 have c3b1 : ((l0.length : Int) != (l1.length : Int)) = false := bne_eq_false_iff_eq.mpr c3
 have c3b2 : (l0.length == l1.length) = true := by first | simpa using c3 | (simp at c3 ⊢; omega)
 clear c3
 have H' := Am H
 clear H
 go_enter Try.func8, Try.ntmps8
 go_wp2
 repeat (go_quiet (fail); try go_wp2)
 go_loopg [5] k (fun kq v5 w' => ∃ (Aa : Int), v5 = .int .i64 Aa ∧ Aside0 (garnerref21_Hops.l0 kq l0 l1 Aa = some r) ∧ Aside0 (kq ≤ k) ∧ Drawn0 w w')
 case atStart => exact ⟨(0), (by first | rfl | (simp; done) | (simp [*]; done)), H', ⟨Nat.le_refl _⟩, by repeat (first | exact Drawn0.refl _ | apply Drawn0.step)⟩
 case round =>
  clear H'
  try clear c1
  try clear p2
  try clear c3
  try clear c3b0
  try clear c3b1
  try clear c3b2
  obtain ⟨Aa, rfl, HA, HK1, ⟨m1, rfl⟩⟩ := hrel
  cases gk with
  | zero => exact absurd HA.out (by simp [garnerref21_Hops.l0])
  | succ k1 =>
   have H := HA.out
   clear HA
   simp only [garnerref21_Hops.l0] at H
   by_cases c4 : Aa < (l0.length : Int)
   rotate_left
   ·rw [if_neg c4] at H
    have c4b0 : decide (Aa < (l0.length : Int)) = false := decide_eq_false c4
    clear c4
    obtain rfl := Option.some.inj H
    go_wp2
    repeat (go_quiet (fail); try go_wp2)
    go_ret
    exact ⟨by first | rfl | (simp; done) | (simp [*]; done), by repeat (first | exact Drawn0.refl _ | apply Drawn0.step)⟩
   rw [if_pos c4] at H
   have c4b0 : decide (Aa < (l0.length : Int)) = true := decide_eq_true c4
   clear c4
   by_cases c5 : 0 ≤ Aa
   rotate_left
   ·rw [if_neg c5] at H
    exact absurd H (by simp)
   rw [if_pos c5] at H
   have c5b0 : decide (0 ≤ Aa) = true := decide_eq_true c5
   clear c5
   by_cases c6 : Aa < (l1.length : Int)
   rotate_left
   ·rw [if_neg c6] at H
    exact absurd H (by simp)
   rw [if_pos c6] at H
   have c6b0 : decide (Aa < (l1.length : Int)) = true := decide_eq_true c6
   clear c6
   by_cases c7 : (!(((rd_T46 l0 Aa).f0) == ((rd_T46 l1 Aa).f0)) || ((!(((rd_T46 l0 Aa).f1.f0) == ((rd_T46 l1 Aa).f1.f0)) || (!(((rd_T46 l0 Aa).f1.f1) == ((rd_T46 l1 Aa).f1.f1)) || (!(((rd_T46 l0 Aa).f1.f2) == ((rd_T46 l1 Aa).f1.f2)) || (!(((rd_T46 l0 Aa).f1.f3) == ((rd_T46 l1 Aa).f1.f3)))))))) = true
   ·rw [if_pos c7] at H
    have c7b0 : (!(((rd_T46 l0 Aa).f0) == ((rd_T46 l1 Aa).f0)) || ((!(((rd_T46 l0 Aa).f1.f0) == ((rd_T46 l1 Aa).f1.f0)) || (!(((rd_T46 l0 Aa).f1.f1) == ((rd_T46 l1 Aa).f1.f1)) || (!(((rd_T46 l0 Aa).f1.f2) == ((rd_T46 l1 Aa).f1.f2)) || (!(((rd_T46 l0 Aa).f1.f3) == ((rd_T46 l1 Aa).f1.f3)))))))) = true := c7
    clear c7
    obtain rfl := Option.some.inj H
    have p363 : 0 ≤ (Aa : Int) := of_decide_eq_true pS
    have q363 : Aa < (l0.length : Int) := of_decide_eq_true pS
    obtain ⟨Al, e363, Ab, Ac, Ad, Ae, Af⟩ := at_T46 HR0.out Aa p363 q363
    cases e363
    replace p363 := eq_true p363
    replace q363 := eq_true q363
    have p364 : 0 ≤ (Aa : Int) := of_decide_eq_true pS
    have q364 : Aa < (l1.length : Int) := of_decide_eq_true pS
    obtain ⟨An, e364, Ag, Ah, Ai, Aj, Ak⟩ := at_T46 HR1.out Aa p364 q364
    cases e364
    replace p364 := eq_true p364
    replace q364 := eq_true q364
    go_wp2
    repeat (go_quiet (fail); try go_wp2)
    go_ret
    exact ⟨by first | rfl | (simp; done) | (simp [*]; done), by repeat (first | exact Drawn0.refl _ | apply Drawn0.step)⟩
   rw [if_neg c7] at H
   have c7b0 : (!(((rd_T46 l0 Aa).f0) == ((rd_T46 l1 Aa).f0)) || ((!(((rd_T46 l0 Aa).f1.f0) == ((rd_T46 l1 Aa).f1.f0)) || (!(((rd_T46 l0 Aa).f1.f1) == ((rd_T46 l1 Aa).f1.f1)) || (!(((rd_T46 l0 Aa).f1.f2) == ((rd_T46 l1 Aa).f1.f2)) || (!(((rd_T46 l0 Aa).f1.f3) == ((rd_T46 l1 Aa).f1.f3)))))))) = false := by simpa using c7
   clear c7
   have H' := Am H
   clear H
   have p363 : 0 ≤ (Aa : Int) := of_decide_eq_true pS
   have q363 : Aa < (l0.length : Int) := of_decide_eq_true pS
   obtain ⟨Al, e363, Ab, Ac, Ad, Ae, Af⟩ := at_T46 HR0.out Aa p363 q363
   cases e363
   replace p363 := eq_true p363
   replace q363 := eq_true q363
   have p364 : 0 ≤ (Aa : Int) := of_decide_eq_true pS
   have q364 : Aa < (l1.length : Int) := of_decide_eq_true pS
   obtain ⟨An, e364, Ag, Ah, Ai, Aj, Ak⟩ := at_T46 HR1.out Aa p364 q364
   cases e364
   replace p364 := eq_true p364
   replace q364 := eq_true q364
   go_wp2
   repeat (go_quiet (fail); try go_wp2)
   go_roundg k1
   case measure => have := HK1.out; omega
   case rel => exact ⟨(wrap64 (Aa + 1)), (by first | rfl | (simp; done) | (simp [*]; done)), H', ⟨by have := HK1.out; omega⟩, by repeat (first | exact Drawn0.refl _ | apply Drawn0.step)⟩
def garnerlaw21_RelayGets.f (k : Nat) (l0 : List Int) : Option (Bool) := if (l0.length : Int) > 3000 then ((garnerlaw21_awake.f).bind fun t365 => (some t365)) else ((some (([] : List Int) : List Int)).bind fun y366 => (if y366.length + l0.length < 140737488355328 then ((relay_Get.f k (y366 ++ l0)).bind fun bt372 => ((garnerref21_Get.f k l0).bind fun bt377 => (if bt372.1 = bt377.1 then ((garnerref21_Hops.f k bt372.2.1 bt377.2.1).bind fun t383 => (if t383 = true then (if ((bt372.2.2 == 0) == bt377.2.2) = true then (if ((bt372.2.2 == 2) == (!bt377.2.2)) = true then ((garnerlaw21_awake.f).bind fun t384 => (some t384)) else (some false)) else (some false)) else (some false))) else (some false)))) else (none)))
theorem garnerlaw21_RelayGets.mono : ∀ a0 k, LeO (garnerlaw21_RelayGets.f k a0) (garnerlaw21_RelayGets.f (k + 1) a0) := by
 intro a0 k
 unfold garnerlaw21_RelayGets.f
 repeat' first
   | (with_reducible exact garnerref21_Get.mono _ _)
   | (with_reducible exact garnerref21_Hops.mono _ _ _)
   | (with_reducible exact relay_Get.mono _ _)
   | (with_reducible exact LeO.refl _)
   | (with_reducible exact LeO.none _)
   | (with_reducible refine LeO.ite ?_ ?_)
   | (with_reducible refine LeO.bind ?_ (fun _ => ?_))
   | exact garnerref21_Get.mono _ _
   | exact garnerref21_Hops.mono _ _ _
   | exact relay_Get.mono _ _
   | exact LeO.none _
   | refine LeO.ite ?_ ?_
   | refine LeO.bind ?_ (fun _ => ?_)
set_option maxHeartbeats 8000000 in
set_option maxRecDepth 100000 in
theorem garnerlaw21_RelayGets.calls (k : Nat) (A0 : Option Addr) (c0 : Nat) (l0 : List Int) (r : Bool) (w : World) (hr0 : Kd.C (Kd.int .u8) w A0 l0.length l0) (hc0 : l0.length ≤ c0) (h : garnerlaw21_RelayGets.f k l0 = some r) :
  Calls Try.prog 3 #[.slice A0 l0.length c0] w fun e w' => e = .returned (.bool r) ∧ Below w.heap.size w w' := by
 have hu29 := Try.underlying29
 have HR0 := Am hr0
 have HC0 := Am hc0
 clear hr0 hc0
 have HB := Am (Below.refl w.heap.size w)
 have H : (if (l0.length : Int) > 3000 then ((garnerlaw21_awake.f).bind fun t365 => (some t365)) else ((some (([] : List Int) : List Int)).bind fun y366 => (if y366.length + l0.length < 140737488355328 then ((relay_Get.f k (y366 ++ l0)).bind fun bt372 => ((garnerref21_Get.f k l0).bind fun bt377 => (if bt372.1 = bt377.1 then ((garnerref21_Hops.f k bt372.2.1 bt377.2.1).bind fun t383 => (if t383 = true then (if ((bt372.2.2 == 0) == bt377.2.2) = true then (if ((bt372.2.2 == 2) == (!bt377.2.2)) = true then ((garnerlaw21_awake.f).bind fun t384 => (some t384)) else (some false)) else (some false)) else (some false))) else (some false)))) else (none)))) = some r := h
 clear h
 by_cases c2 : (l0.length : Int) > 3000
 ·rw [if_pos c2] at H
  have c2b0 : decide (3000 < (l0.length : Int)) = true := decide_eq_true c2
  have c2b1 : decide (3000 < l0.length) = true := decide_eq_true (by omega)
  clear c2
  replace H := Option.bind_eq_some_iff.mp H
  obtain ⟨t365, A30, H⟩ := H
  replace H : (some t365) = some r := H
  have A3 := Am A30
  clear A30
  obtain rfl := Option.some.inj H
  go_enter Try.func3, Try.ntmps3
  go_wp2_with (first | ((with_reducible refine gate_callee (f := 5) rfl ?_); refine goesL_ (some 11) rfl rfl Try.func5 (by kernel_rfl) rfl #[] rfl pL ?_; (with_reducible refine (garnerlaw21_awake.calls  t365 _ A3.out).mono ?_); rintro e w4 ⟨rfl, hb⟩; refine ⟨_, rfl, ?_⟩; replace HB := Am (below_step (pB HB.out) hb); (try clear hb); (try clear hb2); (try clear hk); (try clear hi)))
  go_ret
  exact ⟨pX, pB HB.out⟩
 rw [if_neg c2] at H
 have c2b0 : decide (3000 < (l0.length : Int)) = false := decide_eq_false c2
 have c2b1 : decide (3000 < l0.length) = false := decide_eq_false (by omega)
 clear c2
 obtain ⟨y366, hy366⟩ : ∃ y_ : List Int, y_ = (([] : List Int)) := ⟨_, rfl⟩
 replace H : (if y366.length + l0.length < 140737488355328 then ((relay_Get.f k (y366 ++ l0)).bind fun bt372 => ((garnerref21_Get.f k l0).bind fun bt377 => (if bt372.1 = bt377.1 then ((garnerref21_Hops.f k bt372.2.1 bt377.2.1).bind fun t383 => (if t383 = true then (if ((bt372.2.2 == 0) == bt377.2.2) = true then (if ((bt372.2.2 == 2) == (!bt377.2.2)) = true then ((garnerlaw21_awake.f).bind fun t384 => (some t384)) else (some false)) else (some false)) else (some false))) else (some false)))) else (none)) = some r := by first | (rw [hy366]; with_reducible exact H) | (have H2_ := (Option.bind_some _ _).symm.trans H; rw [hy366]; with_reducible exact H2_) | (have H2_ := (Option.bind_some _ _).symm.trans H; with_reducible exact H2_) | with_reducible exact H | (rw [hy366]; exact H) | exact H
 have Ny366 := Am hy366
 clear hy366
 by_cases c5 : y366.length + l0.length < 140737488355328
 rotate_left
 ·rw [if_neg c5] at H
  exact absurd H (by simp)
 rw [if_pos c5] at H
 have LMc5 := Am c5
 clear c5
 obtain ⟨y369, hy369⟩ : ∃ y_ : List Int, y_ = (y366 ++ l0) := ⟨_, rfl⟩
 replace H : ((relay_Get.f k y369).bind fun bt372 => ((garnerref21_Get.f k l0).bind fun bt377 => (if bt372.1 = bt377.1 then ((garnerref21_Hops.f k bt372.2.1 bt377.2.1).bind fun t383 => (if t383 = true then (if ((bt372.2.2 == 0) == bt377.2.2) = true then (if ((bt372.2.2 == 2) == (!bt377.2.2)) = true then ((garnerlaw21_awake.f).bind fun t384 => (some t384)) else (some false)) else (some false)) else (some false))) else (some false)))) = some r := by first | (rw [hy369]; with_reducible exact H) | (have H2_ := (Option.bind_some _ _).symm.trans H; rw [hy369]; with_reducible exact H2_) | (have H2_ := (Option.bind_some _ _).symm.trans H; with_reducible exact H2_) | with_reducible exact H | (rw [hy369]; exact H) | exact H
 have Ny369 := Am hy369
 clear hy369
 replace H := Option.bind_eq_some_iff.mp H
 obtain ⟨⟨t372, t373, t374⟩, A60, H⟩ := H
 replace H : ((garnerref21_Get.f k l0).bind fun bt377 => (if t372 = bt377.1 then ((garnerref21_Hops.f k t373 bt377.2.1).bind fun t383 => (if t383 = true then (if ((t374 == 0) == bt377.2.2) = true then (if ((t374 == 2) == (!bt377.2.2)) = true then ((garnerlaw21_awake.f).bind fun t384 => (some t384)) else (some false)) else (some false)) else (some false))) else (some false))) = some r := H
 have A6 := Am A60
 clear A60
 replace H := Option.bind_eq_some_iff.mp H
 obtain ⟨⟨t377, t378, t381⟩, A70, H⟩ := H
 replace H : (if t372 = t377 then ((garnerref21_Hops.f k t373 t378).bind fun t383 => (if t383 = true then (if ((t374 == 0) == t381) = true then (if ((t374 == 2) == (!t381)) = true then ((garnerlaw21_awake.f).bind fun t384 => (some t384)) else (some false)) else (some false)) else (some false))) else (some false)) = some r := H
 have A7 := Am A70
 clear A70
 by_cases c8 : t372 = t377
 rotate_left
 ·rw [if_neg c8] at H
  have c8b0 : (t372 == t377) = false := beq_eq_false_iff_ne.mpr c8
  have c8b1 : (t372 != t377) = true := bne_iff_ne.mpr c8
  obtain rfl := Option.some.inj H
  go_enter Try.func3, Try.ntmps3
  go_wp2_with (first | ((with_reducible refine gate_dst (N := 13) rfl ?_); refine Kd.R_lit (Kd.int .u8) _ 5 ?hg (N := 13) ?hd (xs := ([] : List Int)) (inner := []) (ok := fun _ => True) (okp := fun _ => True) ?hr ?hp (fun _ hk => hk) trivial (Below.refl _ _) (Nat.le_refl _) (by simp) ?_; (case hd => rfl); (case hg => rfl); (case hr => first | (go_simp; done) | (go_simp; rfl)); (case hp => exact (Reps.none _ _)); intro v367 w55 ho56 hb hg_ hnew_; clear hg_ hnew_; (first | rw [← Ny366.out] at ho56 | (simp only [Int.reduceToNat] at ho56; rw [← Ny366.out] at ho56)); have Ah := Am (Kd.R_lower ho56 (below_size (pB HB.out))); replace HB := Am (below_step (pB HB.out) hb); clear hb ho56) | ((with_reducible refine gate_builtin (b := .append) (xs := #[.tmp 13, .tmp 14]) rfl ?_); at_builtin; refine Kd.R_append_rows (Kd.int .u8) (w0 := w) w.heap.size rfl (.tmp 13) (.tmp 14) 22 5 (.int .u8 0) 1 rfl Try.underlying22 info5 rfl (by decide) (by omega) v367 y366 l0 _ _ _ (fun _ => True) (fun _ => False) rfl rfl ?aO ?aR (fun _ _ h => h) (fun _ h => h.elim) ?aF ?aB ?aS ?aL ?_; (case aR => exact pC (Kd.C_below HR0.out HB.out)); (case aB => exact (pB HB.out)); (case aF => exact (fun _ _ => trivial)); (case aO => exact (pR Ah.out)); (case aS => exact (below_size (pB HB.out))); (case aL => have := LMc5.out; omega); intro v370 w57 ho hb hg hat; rw [← Ny369.out] at ho; replace HB := Am (hb); have Aa := Am (ho); clear Ah ho hb hg hat; obtain ⟨Bs, Bt, Bu⟩ := Kd.R_slice Aa.out; subst Bu) | ((with_reducible refine gate_callee (f := 6) rfl ?_); refine goesL_ (some 16) rfl rfl Try.func6 (by kernel_rfl) rfl #[.slice Bs y369.length Bt] rfl pL ?_; (with_reducible refine (relay_Get.calls k _ _ y369 t372 t373 t374 _ ?Ad ?Ae A6.out).mono ?_); (case Ad => exact pC (Kd.R_reads' Aa.out).2.2); (case Ae => exact (Kd.R_reads' Aa.out).2.1); rintro e w59 ⟨v375, rfl, ho0, hb⟩; refine ⟨_, rfl, ?_⟩; replace Aa := bRa Aa hb; have Ab := Am (Kd.R_lower ho0 (below_size (pB HB.out))); replace HB := Am (below_step (pB HB.out) hb); (try clear hb); (try clear hb2); (try clear hk); (try clear hi); (try clear ho0)) | ((with_reducible refine gate_callee (f := 7) rfl ?_); refine goesL_ (some 22) rfl rfl Try.func7 (by kernel_rfl) rfl #[.slice A0 l0.length c0] rfl pL ?_; (with_reducible refine (garnerref21_Get.calls k _ _ l0 t377 t378 t381 _ ?Ad ?Ae A7.out).mono ?_); (case Ad => exact pC (Kd.C_below HR0.out HB.out)); (case Ae => exact HC0.out); rintro e w60 ⟨v379, rfl, ho0, hb⟩; refine ⟨_, rfl, ?_⟩; replace Aa := bRa Aa hb; have Ac := Am (Kd.R_lower (Kd.R_new' ho0 (Kd.R_lt (pR Ab.out))) (below_size (pB HB.out))); replace Ab := Am (Kd.R_elder' (pR Ab.out) (Kd.R_base ho0) hb); replace HB := Am (below_step (pB HB.out) hb); (try clear hb); (try clear hb2); (try clear hk); (try clear hi); (try clear ho0)) | ((with_reducible refine gate_dst (N := 6) rfl ?_); refine box_event ?hg (N := 6) ?hd (cs := #[.int .i64 0, .slice none 0 0]) (t := 29) ?hr ?_; (case hd => rfl); (case hg => rfl); (case hr => first | (go_simp; done) | (go_simp; rfl)); intro Ag hg w61 hbox hb; replace Aa := bRa Aa hb; replace Ab := bRa Ab hb; replace Ac := bRa Ac hb; have Af := Am (hbox); have Aj := Am ((by rw [hg]; exact (below_size (pB HB.out)) : w.heap.size ≤ Ag)); replace HB := Am (below_step (pB HB.out) hb); have Ai := Aj; clear hb hbox hg; obtain ⟨_, _⟩ := bc2 Af.out; obtain ⟨_, _⟩ := bf2 Af.out; obtain ⟨Ao63, co63, Bv⟩ := Kd.R_slice Ac.out; subst Bv))
  go_ret
  exact ⟨pX, pE HB.out Ai.out⟩
 rw [if_pos c8] at H
 have c8b0 : (t372 == t377) = true := beq_iff_eq.mpr c8
 have c8b1 : (t372 != t377) = false := bne_eq_false_iff_eq.mpr c8
 clear c8
 replace H := Option.bind_eq_some_iff.mp H
 obtain ⟨t383, A90, H⟩ := H
 replace H : (if t383 = true then (if ((t374 == 0) == t381) = true then (if ((t374 == 2) == (!t381)) = true then ((garnerlaw21_awake.f).bind fun t384 => (some t384)) else (some false)) else (some false)) else (some false)) = some r := H
 have A9 := Am A90
 clear A90
 by_cases c10 : t383 = true
 rotate_left
 ·replace c10 := Bool.eq_false_iff.mpr c10
  subst c10
  have H1 : (some false) = some r := by rw [if_neg (show ¬ (false = true) by decide)] at H; exact H
  clear H
  have H := H1
  clear H1
  obtain rfl := Option.some.inj H
  go_enter Try.func3, Try.ntmps3
  go_wp2_with (first | ((with_reducible refine gate_dst (N := 13) rfl ?_); refine Kd.R_lit (Kd.int .u8) _ 5 ?hg (N := 13) ?hd (xs := ([] : List Int)) (inner := []) (ok := fun _ => True) (okp := fun _ => True) ?hr ?hp (fun _ hk => hk) trivial (Below.refl _ _) (Nat.le_refl _) (by simp) ?_; (case hd => rfl); (case hg => rfl); (case hr => first | (go_simp; done) | (go_simp; rfl)); (case hp => exact (Reps.none _ _)); intro v367 w45 ho46 hb hg_ hnew_; clear hg_ hnew_; (first | rw [← Ny366.out] at ho46 | (simp only [Int.reduceToNat] at ho46; rw [← Ny366.out] at ho46)); have Ah := Am (Kd.R_lower ho46 (below_size (pB HB.out))); replace HB := Am (below_step (pB HB.out) hb); clear hb ho46) | ((with_reducible refine gate_builtin (b := .append) (xs := #[.tmp 13, .tmp 14]) rfl ?_); at_builtin; refine Kd.R_append_rows (Kd.int .u8) (w0 := w) w.heap.size rfl (.tmp 13) (.tmp 14) 22 5 (.int .u8 0) 1 rfl Try.underlying22 info5 rfl (by decide) (by omega) v367 y366 l0 _ _ _ (fun _ => True) (fun _ => False) rfl rfl ?aO ?aR (fun _ _ h => h) (fun _ h => h.elim) ?aF ?aB ?aS ?aL ?_; (case aR => exact pC (Kd.C_below HR0.out HB.out)); (case aB => exact (pB HB.out)); (case aF => exact (fun _ _ => trivial)); (case aO => exact (pR Ah.out)); (case aS => exact (below_size (pB HB.out))); (case aL => have := LMc5.out; omega); intro v370 w47 ho hb hg hat; rw [← Ny369.out] at ho; replace HB := Am (hb); have Aa := Am (ho); clear Ah ho hb hg hat; obtain ⟨Bl, Bm, Bn⟩ := Kd.R_slice Aa.out; subst Bn) | ((with_reducible refine gate_callee (f := 6) rfl ?_); refine goesL_ (some 16) rfl rfl Try.func6 (by kernel_rfl) rfl #[.slice Bl y369.length Bm] rfl pL ?_; (with_reducible refine (relay_Get.calls k _ _ y369 t372 t373 t374 _ ?Ad ?Ae A6.out).mono ?_); (case Ad => exact pC (Kd.R_reads' Aa.out).2.2); (case Ae => exact (Kd.R_reads' Aa.out).2.1); rintro e w49 ⟨v375, rfl, ho0, hb⟩; refine ⟨_, rfl, ?_⟩; replace Aa := bRa Aa hb; have Ab := Am (Kd.R_lower ho0 (below_size (pB HB.out))); replace HB := Am (below_step (pB HB.out) hb); (try clear hb); (try clear hb2); (try clear hk); (try clear hi); (try clear ho0)) | ((with_reducible refine gate_callee (f := 7) rfl ?_); refine goesL_ (some 22) rfl rfl Try.func7 (by kernel_rfl) rfl #[.slice A0 l0.length c0] rfl pL ?_; (with_reducible refine (garnerref21_Get.calls k _ _ l0 t377 t378 t381 _ ?Ad ?Ae A7.out).mono ?_); (case Ad => exact pC (Kd.C_below HR0.out HB.out)); (case Ae => exact HC0.out); rintro e w50 ⟨v379, rfl, ho0, hb⟩; refine ⟨_, rfl, ?_⟩; replace Aa := bRa Aa hb; have Ac := Am (Kd.R_lower (Kd.R_new' ho0 (Kd.R_lt (pR Ab.out))) (below_size (pB HB.out))); replace Ab := Am (Kd.R_elder' (pR Ab.out) (Kd.R_base ho0) hb); replace HB := Am (below_step (pB HB.out) hb); (try clear hb); (try clear hb2); (try clear hk); (try clear hi); (try clear ho0)) | ((with_reducible refine gate_dst (N := 6) rfl ?_); refine box_event ?hg (N := 6) ?hd (cs := #[.int .i64 0, .slice none 0 0]) (t := 29) ?hr ?_; (case hd => rfl); (case hg => rfl); (case hr => first | (go_simp; done) | (go_simp; rfl)); intro Ag hg w51 hbox hb; replace Aa := bRa Aa hb; replace Ab := bRa Ab hb; replace Ac := bRa Ac hb; have Af := Am (hbox); have Aj := Am ((by rw [hg]; exact (below_size (pB HB.out)) : w.heap.size ≤ Ag)); replace HB := Am (below_step (pB HB.out) hb); have Ai := Aj; clear hb hbox hg; obtain ⟨_, _⟩ := bc2 Af.out; obtain ⟨_, _⟩ := bf2 Af.out; obtain ⟨Bo, At, Bp⟩ := Kd.R_slice Ac.out; subst Bp; obtain ⟨Bq, Au, Br⟩ := Kd.R_slice Ab.out; subst Br) | (go_at_call 8; (with_reducible refine (garnerref21_Hops.calls k _ _ t373 _ _ t378 false _ ?Ad ?Ae ?Ak ?Al A9.out).mono ?_); (case Ad => refine (Kd.R_reads' (e := 46) (base := w.heap.size) (ok := fun k_ => (True ∧ some k_ ≠ (.slice Bo t378.length At : Value).ownBlock)) (n := t373.length) (c := Au) ?_).2.2; exact (by (with_reducible repeat (first | apply Kd.R_alloc | apply Kd.R_drewN | apply Kd.R_drew)); exact (Kd.R_mono (Rf2 (g := Ag) (Kd.R_types Ab.out Af.out (by decide)) (fun _ hk => hk.2)) (fun _ h_ => h_.1)))); (case Ae => exact (Kd.R_reads' Ab.out).2.1); (case Ak => refine (Kd.R_reads' (e := 46) (base := w.heap.size) (ok := fun k_ => (True ∧ some k_ ≠ (.slice Bq t373.length Au : Value).ownBlock)) (n := t378.length) (c := At) ?_).2.2; exact (by (with_reducible repeat (first | apply Kd.R_alloc | apply Kd.R_drewN | apply Kd.R_drew)); exact (Kd.R_mono (Rf2 (g := Ag) (Kd.R_types Ac.out Af.out (by decide)) (fun _ hk => hk.2)) (fun _ h_ => h_.1)))); (case Al => exact (Kd.R_reads' Ac.out).2.1); rintro e w' ⟨rfl, ⟨nd, rfl⟩⟩))
  go_ret
  exact ⟨pX, pE HB.out Ai.out⟩
 subst c10
 have H1 : (if ((t374 == 0) == t381) = true then (if ((t374 == 2) == (!t381)) = true then ((garnerlaw21_awake.f).bind fun t384 => (some t384)) else (some false)) else (some false)) = some r := by rw [if_pos rfl] at H; exact H
 clear H
 have H := H1
 clear H1
 by_cases c11 : ((t374 == 0) == t381) = true
 rotate_left
 ·rw [if_neg c11] at H
  have c11b0 : ((t374 == 0) == t381) = false := by simpa using c11
  (try (have c11b1 : decide ((t374 == 0) = t381) = false := by simpa using c11))
  (try (have c11b2 : ((t374 == 0) == t381) = false := by simpa using c11))
  (try (have c11b3 : ¬ ((t374 == 0) = t381) := by simpa using c11))
  clear c11
  obtain rfl := Option.some.inj H
  go_enter Try.func3, Try.ntmps3
  go_wp2_with (first | ((with_reducible refine gate_dst (N := 13) rfl ?_); refine Kd.R_lit (Kd.int .u8) _ 5 ?hg (N := 13) ?hd (xs := ([] : List Int)) (inner := []) (ok := fun _ => True) (okp := fun _ => True) ?hr ?hp (fun _ hk => hk) trivial (Below.refl _ _) (Nat.le_refl _) (by simp) ?_; (case hd => rfl); (case hg => rfl); (case hr => first | (go_simp; done) | (go_simp; rfl)); (case hp => exact (Reps.none _ _)); intro v367 w35 ho36 hb hg_ hnew_; clear hg_ hnew_; (first | rw [← Ny366.out] at ho36 | (simp only [Int.reduceToNat] at ho36; rw [← Ny366.out] at ho36)); have Ah := Am (Kd.R_lower ho36 (below_size (pB HB.out))); replace HB := Am (below_step (pB HB.out) hb); clear hb ho36) | ((with_reducible refine gate_builtin (b := .append) (xs := #[.tmp 13, .tmp 14]) rfl ?_); at_builtin; refine Kd.R_append_rows (Kd.int .u8) (w0 := w) w.heap.size rfl (.tmp 13) (.tmp 14) 22 5 (.int .u8 0) 1 rfl Try.underlying22 info5 rfl (by decide) (by omega) v367 y366 l0 _ _ _ (fun _ => True) (fun _ => False) rfl rfl ?aO ?aR (fun _ _ h => h) (fun _ h => h.elim) ?aF ?aB ?aS ?aL ?_; (case aR => exact pC (Kd.C_below HR0.out HB.out)); (case aB => exact (pB HB.out)); (case aF => exact (fun _ _ => trivial)); (case aO => exact (pR Ah.out)); (case aS => exact (below_size (pB HB.out))); (case aL => have := LMc5.out; omega); intro v370 w37 ho hb hg hat; rw [← Ny369.out] at ho; replace HB := Am (hb); have Aa := Am (ho); clear Ah ho hb hg hat; obtain ⟨Be, Bf, Bg⟩ := Kd.R_slice Aa.out; subst Bg) | ((with_reducible refine gate_callee (f := 6) rfl ?_); refine goesL_ (some 16) rfl rfl Try.func6 (by kernel_rfl) rfl #[.slice Be y369.length Bf] rfl pL ?_; (with_reducible refine (relay_Get.calls k _ _ y369 t372 t373 t374 _ ?Ad ?Ae A6.out).mono ?_); (case Ad => exact pC (Kd.R_reads' Aa.out).2.2); (case Ae => exact (Kd.R_reads' Aa.out).2.1); rintro e w39 ⟨v375, rfl, ho0, hb⟩; refine ⟨_, rfl, ?_⟩; replace Aa := bRa Aa hb; have Ab := Am (Kd.R_lower ho0 (below_size (pB HB.out))); replace HB := Am (below_step (pB HB.out) hb); (try clear hb); (try clear hb2); (try clear hk); (try clear hi); (try clear ho0)) | ((with_reducible refine gate_callee (f := 7) rfl ?_); refine goesL_ (some 22) rfl rfl Try.func7 (by kernel_rfl) rfl #[.slice A0 l0.length c0] rfl pL ?_; (with_reducible refine (garnerref21_Get.calls k _ _ l0 t377 t378 t381 _ ?Ad ?Ae A7.out).mono ?_); (case Ad => exact pC (Kd.C_below HR0.out HB.out)); (case Ae => exact HC0.out); rintro e w40 ⟨v379, rfl, ho0, hb⟩; refine ⟨_, rfl, ?_⟩; replace Aa := bRa Aa hb; have Ac := Am (Kd.R_lower (Kd.R_new' ho0 (Kd.R_lt (pR Ab.out))) (below_size (pB HB.out))); replace Ab := Am (Kd.R_elder' (pR Ab.out) (Kd.R_base ho0) hb); replace HB := Am (below_step (pB HB.out) hb); (try clear hb); (try clear hb2); (try clear hk); (try clear hi); (try clear ho0)) | ((with_reducible refine gate_dst (N := 6) rfl ?_); refine box_event ?hg (N := 6) ?hd (cs := #[.int .i64 0, .slice none 0 0]) (t := 29) ?hr ?_; (case hd => rfl); (case hg => rfl); (case hr => first | (go_simp; done) | (go_simp; rfl)); intro Ag hg w41 hbox hb; replace Aa := bRa Aa hb; replace Ab := bRa Ab hb; replace Ac := bRa Ac hb; have Af := Am (hbox); have Aj := Am ((by rw [hg]; exact (below_size (pB HB.out)) : w.heap.size ≤ Ag)); replace HB := Am (below_step (pB HB.out) hb); have Ai := Aj; clear hb hbox hg; obtain ⟨_, _⟩ := bc2 Af.out; obtain ⟨_, _⟩ := bf2 Af.out; obtain ⟨Bh, Ar, Bi⟩ := Kd.R_slice Ac.out; subst Bi; obtain ⟨Bj, As, Bk⟩ := Kd.R_slice Ab.out; subst Bk) | (go_at_call 8; (with_reducible refine (garnerref21_Hops.calls k _ _ t373 _ _ t378 true _ ?Ad ?Ae ?Ak ?Al A9.out).mono ?_); (case Ad => refine (Kd.R_reads' (e := 46) (base := w.heap.size) (ok := fun k_ => (True ∧ some k_ ≠ (.slice Bh t378.length Ar : Value).ownBlock)) (n := t373.length) (c := As) ?_).2.2; exact (by (with_reducible repeat (first | apply Kd.R_alloc | apply Kd.R_drewN | apply Kd.R_drew)); exact (Kd.R_mono (Rf2 (g := Ag) (Kd.R_types Ab.out Af.out (by decide)) (fun _ hk => hk.2)) (fun _ h_ => h_.1)))); (case Ae => exact (Kd.R_reads' Ab.out).2.1); (case Ak => refine (Kd.R_reads' (e := 46) (base := w.heap.size) (ok := fun k_ => (True ∧ some k_ ≠ (.slice Bj t373.length As : Value).ownBlock)) (n := t378.length) (c := Ar) ?_).2.2; exact (by (with_reducible repeat (first | apply Kd.R_alloc | apply Kd.R_drewN | apply Kd.R_drew)); exact (Kd.R_mono (Rf2 (g := Ag) (Kd.R_types Ac.out Af.out (by decide)) (fun _ hk => hk.2)) (fun _ h_ => h_.1)))); (case Al => exact (Kd.R_reads' Ac.out).2.1); rintro e w' ⟨rfl, ⟨nd, rfl⟩⟩))
  go_ret
  exact ⟨pX, pE HB.out Ai.out⟩
 rw [if_pos c11] at H
 have c11b0 : ((t374 == 0) == t381) = true := c11
 (try (have c11b1 : decide ((t374 == 0) = t381) = true := by simpa using c11))
 (try (have c11b2 : ((t374 == 0) == t381) = true := by simpa using c11))
 clear c11
 by_cases c12 : ((t374 == 2) == (!t381)) = true
 rotate_left
 ·rw [if_neg c12] at H
  have c12b0 : ((t374 == 2) == (!t381)) = false := by simpa using c12
  (try (have c12b1 : decide ((t374 == 2) = (!t381)) = false := by simpa using c12))
  (try (have c12b2 : ((t374 == 2) == (!t381)) = false := by simpa using c12))
  (try (have c12b3 : ¬ ((t374 == 2) = (!t381)) := by simpa using c12))
  clear c12
  obtain rfl := Option.some.inj H
  go_enter Try.func3, Try.ntmps3
  go_wp2_with (first | ((with_reducible refine gate_dst (N := 13) rfl ?_); refine Kd.R_lit (Kd.int .u8) _ 5 ?hg (N := 13) ?hd (xs := ([] : List Int)) (inner := []) (ok := fun _ => True) (okp := fun _ => True) ?hr ?hp (fun _ hk => hk) trivial (Below.refl _ _) (Nat.le_refl _) (by simp) ?_; (case hd => rfl); (case hg => rfl); (case hr => first | (go_simp; done) | (go_simp; rfl)); (case hp => exact (Reps.none _ _)); intro v367 w25 ho26 hb hg_ hnew_; clear hg_ hnew_; (first | rw [← Ny366.out] at ho26 | (simp only [Int.reduceToNat] at ho26; rw [← Ny366.out] at ho26)); have Ah := Am (Kd.R_lower ho26 (below_size (pB HB.out))); replace HB := Am (below_step (pB HB.out) hb); clear hb ho26) | ((with_reducible refine gate_builtin (b := .append) (xs := #[.tmp 13, .tmp 14]) rfl ?_); at_builtin; refine Kd.R_append_rows (Kd.int .u8) (w0 := w) w.heap.size rfl (.tmp 13) (.tmp 14) 22 5 (.int .u8 0) 1 rfl Try.underlying22 info5 rfl (by decide) (by omega) v367 y366 l0 _ _ _ (fun _ => True) (fun _ => False) rfl rfl ?aO ?aR (fun _ _ h => h) (fun _ h => h.elim) ?aF ?aB ?aS ?aL ?_; (case aR => exact pC (Kd.C_below HR0.out HB.out)); (case aB => exact (pB HB.out)); (case aF => exact (fun _ _ => trivial)); (case aO => exact (pR Ah.out)); (case aS => exact (below_size (pB HB.out))); (case aL => have := LMc5.out; omega); intro v370 w27 ho hb hg hat; rw [← Ny369.out] at ho; replace HB := Am (hb); have Aa := Am (ho); clear Ah ho hb hg hat; obtain ⟨A4, A5, A8⟩ := Kd.R_slice Aa.out; subst A8) | ((with_reducible refine gate_callee (f := 6) rfl ?_); refine goesL_ (some 16) rfl rfl Try.func6 (by kernel_rfl) rfl #[.slice A4 y369.length A5] rfl pL ?_; (with_reducible refine (relay_Get.calls k _ _ y369 t372 t373 t374 _ ?Ad ?Ae A6.out).mono ?_); (case Ad => exact pC (Kd.R_reads' Aa.out).2.2); (case Ae => exact (Kd.R_reads' Aa.out).2.1); rintro e w29 ⟨v375, rfl, ho0, hb⟩; refine ⟨_, rfl, ?_⟩; replace Aa := bRa Aa hb; have Ab := Am (Kd.R_lower ho0 (below_size (pB HB.out))); replace HB := Am (below_step (pB HB.out) hb); (try clear hb); (try clear hb2); (try clear hk); (try clear hi); (try clear ho0)) | ((with_reducible refine gate_callee (f := 7) rfl ?_); refine goesL_ (some 22) rfl rfl Try.func7 (by kernel_rfl) rfl #[.slice A0 l0.length c0] rfl pL ?_; (with_reducible refine (garnerref21_Get.calls k _ _ l0 t377 t378 t381 _ ?Ad ?Ae A7.out).mono ?_); (case Ad => exact pC (Kd.C_below HR0.out HB.out)); (case Ae => exact HC0.out); rintro e w30 ⟨v379, rfl, ho0, hb⟩; refine ⟨_, rfl, ?_⟩; replace Aa := bRa Aa hb; have Ac := Am (Kd.R_lower (Kd.R_new' ho0 (Kd.R_lt (pR Ab.out))) (below_size (pB HB.out))); replace Ab := Am (Kd.R_elder' (pR Ab.out) (Kd.R_base ho0) hb); replace HB := Am (below_step (pB HB.out) hb); (try clear hb); (try clear hb2); (try clear hk); (try clear hi); (try clear ho0)) | ((with_reducible refine gate_dst (N := 6) rfl ?_); refine box_event ?hg (N := 6) ?hd (cs := #[.int .i64 0, .slice none 0 0]) (t := 29) ?hr ?_; (case hd => rfl); (case hg => rfl); (case hr => first | (go_simp; done) | (go_simp; rfl)); intro Ag hg w31 hbox hb; replace Aa := bRa Aa hb; replace Ab := bRa Ab hb; replace Ac := bRa Ac hb; have Af := Am (hbox); have Aj := Am ((by rw [hg]; exact (below_size (pB HB.out)) : w.heap.size ≤ Ag)); replace HB := Am (below_step (pB HB.out) hb); have Ai := Aj; clear hb hbox hg; obtain ⟨_, _⟩ := bc2 Af.out; obtain ⟨_, _⟩ := bf2 Af.out; obtain ⟨Ba, Ap, Bb⟩ := Kd.R_slice Ac.out; subst Bb; obtain ⟨Bc, Aq, Bd⟩ := Kd.R_slice Ab.out; subst Bd) | (go_at_call 8; (with_reducible refine (garnerref21_Hops.calls k _ _ t373 _ _ t378 true _ ?Ad ?Ae ?Ak ?Al A9.out).mono ?_); (case Ad => refine (Kd.R_reads' (e := 46) (base := w.heap.size) (ok := fun k_ => (True ∧ some k_ ≠ (.slice Ba t378.length Ap : Value).ownBlock)) (n := t373.length) (c := Aq) ?_).2.2; exact (by (with_reducible repeat (first | apply Kd.R_alloc | apply Kd.R_drewN | apply Kd.R_drew)); exact (Kd.R_mono (Rf2 (g := Ag) (Kd.R_types Ab.out Af.out (by decide)) (fun _ hk => hk.2)) (fun _ h_ => h_.1)))); (case Ae => exact (Kd.R_reads' Ab.out).2.1); (case Ak => refine (Kd.R_reads' (e := 46) (base := w.heap.size) (ok := fun k_ => (True ∧ some k_ ≠ (.slice Bc t373.length Aq : Value).ownBlock)) (n := t378.length) (c := Ap) ?_).2.2; exact (by (with_reducible repeat (first | apply Kd.R_alloc | apply Kd.R_drewN | apply Kd.R_drew)); exact (Kd.R_mono (Rf2 (g := Ag) (Kd.R_types Ac.out Af.out (by decide)) (fun _ hk => hk.2)) (fun _ h_ => h_.1)))); (case Al => exact (Kd.R_reads' Ac.out).2.1); rintro e w' ⟨rfl, ⟨nd, rfl⟩⟩))
  go_ret
  exact ⟨pX, pE HB.out Ai.out⟩
 rw [if_pos c12] at H
 have c12b0 : ((t374 == 2) == (!t381)) = true := c12
 (try (have c12b1 : decide ((t374 == 2) = (!t381)) = true := by simpa using c12))
 (try (have c12b2 : ((t374 == 2) == (!t381)) = true := by simpa using c12))
 clear c12
 replace H := Option.bind_eq_some_iff.mp H
 obtain ⟨t384, A130, H⟩ := H
 replace H : (some t384) = some r := H
 have A13 := Am A130
 clear A130
 obtain rfl := Option.some.inj H
 go_enter Try.func3, Try.ntmps3
 go_wp2_with (first | ((with_reducible refine gate_dst (N := 13) rfl ?_); refine Kd.R_lit (Kd.int .u8) _ 5 ?hg (N := 13) ?hd (xs := ([] : List Int)) (inner := []) (ok := fun _ => True) (okp := fun _ => True) ?hr ?hp (fun _ hk => hk) trivial (Below.refl _ _) (Nat.le_refl _) (by simp) ?_; (case hd => rfl); (case hg => rfl); (case hr => first | (go_simp; done) | (go_simp; rfl)); (case hp => exact (Reps.none _ _)); intro v367 w14 ho15 hb hg_ hnew_; clear hg_ hnew_; (first | rw [← Ny366.out] at ho15 | (simp only [Int.reduceToNat] at ho15; rw [← Ny366.out] at ho15)); have Ah := Am (Kd.R_lower ho15 (below_size (pB HB.out))); replace HB := Am (below_step (pB HB.out) hb); clear hb ho15) | ((with_reducible refine gate_builtin (b := .append) (xs := #[.tmp 13, .tmp 14]) rfl ?_); at_builtin; refine Kd.R_append_rows (Kd.int .u8) (w0 := w) w.heap.size rfl (.tmp 13) (.tmp 14) 22 5 (.int .u8 0) 1 rfl Try.underlying22 info5 rfl (by decide) (by omega) v367 y366 l0 _ _ _ (fun _ => True) (fun _ => False) rfl rfl ?aO ?aR (fun _ _ h => h) (fun _ h => h.elim) ?aF ?aB ?aS ?aL ?_; (case aR => exact pC (Kd.C_below HR0.out HB.out)); (case aB => exact (pB HB.out)); (case aF => exact (fun _ _ => trivial)); (case aO => exact (pR Ah.out)); (case aS => exact (below_size (pB HB.out))); (case aL => have := LMc5.out; omega); intro v370 w16 ho hb hg hat; rw [← Ny369.out] at ho; replace HB := Am (hb); have Aa := Am (ho); clear Ah ho hb hg hat; obtain ⟨Av, Aw, Ax⟩ := Kd.R_slice Aa.out; subst Ax) | ((with_reducible refine gate_callee (f := 6) rfl ?_); refine goesL_ (some 16) rfl rfl Try.func6 (by kernel_rfl) rfl #[.slice Av y369.length Aw] rfl pL ?_; (with_reducible refine (relay_Get.calls k _ _ y369 t372 t373 t374 _ ?Ad ?Ae A6.out).mono ?_); (case Ad => exact pC (Kd.R_reads' Aa.out).2.2); (case Ae => exact (Kd.R_reads' Aa.out).2.1); rintro e w18 ⟨v375, rfl, ho0, hb⟩; refine ⟨_, rfl, ?_⟩; replace Aa := bRa Aa hb; have Ab := Am (Kd.R_lower ho0 (below_size (pB HB.out))); replace HB := Am (below_step (pB HB.out) hb); (try clear hb); (try clear hb2); (try clear hk); (try clear hi); (try clear ho0)) | ((with_reducible refine gate_callee (f := 7) rfl ?_); refine goesL_ (some 22) rfl rfl Try.func7 (by kernel_rfl) rfl #[.slice A0 l0.length c0] rfl pL ?_; (with_reducible refine (garnerref21_Get.calls k _ _ l0 t377 t378 t381 _ ?Ad ?Ae A7.out).mono ?_); (case Ad => exact pC (Kd.C_below HR0.out HB.out)); (case Ae => exact HC0.out); rintro e w19 ⟨v379, rfl, ho0, hb⟩; refine ⟨_, rfl, ?_⟩; replace Aa := bRa Aa hb; have Ac := Am (Kd.R_lower (Kd.R_new' ho0 (Kd.R_lt (pR Ab.out))) (below_size (pB HB.out))); replace Ab := Am (Kd.R_elder' (pR Ab.out) (Kd.R_base ho0) hb); replace HB := Am (below_step (pB HB.out) hb); (try clear hb); (try clear hb2); (try clear hk); (try clear hi); (try clear ho0)) | ((with_reducible refine gate_dst (N := 6) rfl ?_); refine box_event ?hg (N := 6) ?hd (cs := #[.int .i64 0, .slice none 0 0]) (t := 29) ?hr ?_; (case hd => rfl); (case hg => rfl); (case hr => first | (go_simp; done) | (go_simp; rfl)); intro Ag hg w20 hbox hb; replace Aa := bRa Aa hb; replace Ab := bRa Ab hb; replace Ac := bRa Ac hb; have Af := Am (hbox); have Aj := Am ((by rw [hg]; exact (below_size (pB HB.out)) : w.heap.size ≤ Ag)); replace HB := Am (below_step (pB HB.out) hb); have Ai := Aj; clear hb hbox hg; obtain ⟨_, _⟩ := bc2 Af.out; obtain ⟨_, _⟩ := bf2 Af.out; obtain ⟨Ay, An, Az⟩ := Kd.R_slice Ac.out; subst Az; obtain ⟨A1, Ao, A2⟩ := Kd.R_slice Ab.out; subst A2) | (go_at_call 8; (with_reducible refine (garnerref21_Hops.calls k _ _ t373 _ _ t378 true _ ?Ad ?Ae ?Ak ?Al A9.out).mono ?_); (case Ad => refine (Kd.R_reads' (e := 46) (base := w.heap.size) (ok := fun k_ => (True ∧ some k_ ≠ (.slice Ay t378.length An : Value).ownBlock)) (n := t373.length) (c := Ao) ?_).2.2; exact (by (with_reducible repeat (first | apply Kd.R_alloc | apply Kd.R_drewN | apply Kd.R_drew)); exact (Kd.R_mono (Rf2 (g := Ag) (Kd.R_types Ab.out Af.out (by decide)) (fun _ hk => hk.2)) (fun _ h_ => h_.1)))); (case Ae => exact (Kd.R_reads' Ab.out).2.1); (case Ak => refine (Kd.R_reads' (e := 46) (base := w.heap.size) (ok := fun k_ => (True ∧ some k_ ≠ (.slice A1 t373.length Ao : Value).ownBlock)) (n := t378.length) (c := An) ?_).2.2; exact (by (with_reducible repeat (first | apply Kd.R_alloc | apply Kd.R_drewN | apply Kd.R_drew)); exact (Kd.R_mono (Rf2 (g := Ag) (Kd.R_types Ac.out Af.out (by decide)) (fun _ hk => hk.2)) (fun _ h_ => h_.1)))); (case Al => exact (Kd.R_reads' Ac.out).2.1); rintro e w' ⟨rfl, ⟨nd, rfl⟩⟩) | (go_at_call 5; (with_reducible refine (garnerlaw21_awake.calls  t384 _ A13.out).mono ?_); rintro e w24 ⟨rfl, hb⟩; replace Aa := Am (Kd.R_below (by (with_reducible repeat (first | apply Kd.R_alloc | apply Kd.R_drewN | apply Kd.R_drew)); exact (Kd.R_mono (Rf2 (g := Ag) (Kd.R_types Aa.out Af.out (by decide)) (fun _ hk => hk.2)) (fun _ h_ => h_.1))) hb); replace Ab := Am (Kd.R_below (by (with_reducible repeat (first | apply Kd.R_alloc | apply Kd.R_drewN | apply Kd.R_drew)); exact (Kd.R_mono (Rf2 (g := Ag) (Kd.R_types Ab.out Af.out (by decide)) (fun _ hk => hk.2)) (fun _ h_ => h_.1))) hb); replace Ac := Am (Kd.R_below (by (with_reducible repeat (first | apply Kd.R_alloc | apply Kd.R_drewN | apply Kd.R_drew)); exact (Kd.R_mono (Rf2 (g := Ag) (Kd.R_types Ac.out Af.out (by decide)) (fun _ hk => hk.2)) (fun _ h_ => h_.1))) hb); replace Af := Am (blk_below (g := Ag) (blk_drewN (bp2 Af.out) _) hb); replace HB := Am (below_step (pE HB.out Ai.out) hb); (try clear hb); (try clear hb2); (try clear hk); (try clear hi)))
 go_ret
 exact ⟨pX, pE HB.out Ai.out⟩
/-- THE ONE PURE STATEMENT of garnerlaw21_RelayGets: yours. -/
def garnerlaw21_RelayGets.Pure : Prop := ∀ (l0 : List Int), l0.length ≤ maxLen → l0.length * 1 ≤ 140737488351232 → (∀ x ∈ l0, (Lit.int .u8 x).wf = true) → ∃ k, garnerlaw21_RelayGets.f k l0 = some true
theorem garnerlaw21_RelayGets.walk (P : garnerlaw21_RelayGets.Pure) (a0 : Option Addr) (len0 cap0 : Nat) (z0 : List Int) (w : World) (w0 : (a0 = none ∧ len0 = 0 ∧ cap0 = 0 ∧ z0 = []) ∨ ∃ x, a0 = some x ∧ len0 ≤ cap0 ∧ cap0 ≤ maxLen ∧ z0.length = cap0 ∧ (∀ i, i < z0.length → w.cell? (x.add i) = some (.int .u8 (z0.getD i 0))) ∧ ∀ n ∈ z0, (Lit.int .u8 n).wf = true) (y0 : len0 * 1 ≤ 140737488351232) :
  Calls Try.prog 3 #[.slice a0 len0 cap0] w fun e w' => e = .returned (.bool true) ∧ Below w.heap.size w w' := by
 obtain ⟨l0, rfl, hr0, hm0, hw0, hc0⟩ := ReadsInt.ofRowC w0
 obtain ⟨k, h⟩ := P l0 hm0 y0 hw0
 refine (garnerlaw21_RelayGets.calls k _ _ l0 true w (Kd.C_of_reads (d := (0 : Int)) (h1 := fun _ => rfl) hr0) hc0 h).mono ?_
 rintro e w' ⟨rfl, hd⟩
 exact ⟨rfl, hd⟩
end Go.Proofs.Ytjebpaahpehfnaa.PRelayGets
