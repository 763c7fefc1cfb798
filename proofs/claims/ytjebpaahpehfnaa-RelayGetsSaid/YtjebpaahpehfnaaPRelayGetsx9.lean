/- What the law reaches, as plain Lean functions, and that the machine's calls answer just that. -/
import Derived.Test.YtjebpaahpehfnaaPRelayGetsx0
namespace Go.Proofs.Ytjebpaahpehfnaa.PRelayGets
open Go.RowKit Go.Proofs.YtjebpaahpehfnaaW.PrintWords Go.Proofs.YtjebpaahpehfnaaW.PrintLast Go.Proofs.YtjebpaahpehfnaaW.PrintMore
attribute [local go_sem] max2_int min2_int max_two min_two max_three min_three max_four min_four
set_option linter.unusedVariables false
set_option linter.unusedSimpArgs false
attribute [local go_sem] wrap64_l1 wrap64_l2 wrap64_l3 wrap64_l4 wrap64_l5
def garnerref02_same.l0 : Nat → List Int → List Int → Int → Option (Bool)
 | 0, _, _, _ => none
 | k + 1, x0, x1, x5 => if x5 < (x0.length : Int) then (if 0 ≤ x5 then (if x5 < (x1.length : Int) then (if (rd x0 x5) = (rd x1 x5) then (garnerref02_same.l0 k x0 x1 (wrap64 (x5 + 1))) else (some false)) else (none)) else (none)) else (some true)
def garnerref02_same.f (k : Nat) (l0 : List Int) (l1 : List Int) : Option (Bool) := if (l0.length : Int) = (l1.length : Int) then (garnerref02_same.l0 k l0 l1 0) else (some false)
theorem garnerref02_same.mono_l : ∀ k, (∀ y0 y1 y2, LeO (garnerref02_same.l0 k y0 y1 y2) (garnerref02_same.l0 (k + 1) y0 y1 y2))
 | 0 => fun _ _ _ r h => by simp [garnerref02_same.l0] at h
 | k + 1 => by
  have ih0 := garnerref02_same.mono_l k
  ·intro y0 y1 y2
   unfold garnerref02_same.l0
   repeat' first
   | (with_reducible exact ih0 _ _ _)
   | (with_reducible exact LeO.refl _)
   | (with_reducible exact LeO.none _)
   | (with_reducible refine LeO.ite ?_ ?_)
   | (with_reducible refine LeO.bind ?_ (fun _ => ?_))
   | exact ih0 _ _ _
   | exact LeO.none _
   | refine LeO.ite ?_ ?_
   | refine LeO.bind ?_ (fun _ => ?_)
theorem garnerref02_same.mono : ∀ a0 a1 k, LeO (garnerref02_same.f k a0 a1) (garnerref02_same.f (k + 1) a0 a1) := by
 intro a0 a1 k
 have ih0 := garnerref02_same.mono_l k
 unfold garnerref02_same.f
 repeat' first
   | (with_reducible exact ih0 _ _ _)
   | (with_reducible exact LeO.refl _)
   | (with_reducible exact LeO.none _)
   | (with_reducible refine LeO.ite ?_ ?_)
   | (with_reducible refine LeO.bind ?_ (fun _ => ?_))
   | exact ih0 _ _ _
   | exact LeO.none _
   | refine LeO.ite ?_ ?_
   | refine LeO.bind ?_ (fun _ => ?_)
set_option maxHeartbeats 8000000 in
set_option maxRecDepth 100000 in
theorem garnerref02_same.calls (k : Nat) (A0 : Option Addr) (c0 : Nat) (l0 : List Int) (A1 : Option Addr) (c1 : Nat) (l1 : List Int) (r : Bool) (w : World) (hr0 : Kd.C (Kd.int .u8) w A0 l0.length l0) (hc0 : l0.length ≤ c0) (hr1 : Kd.C (Kd.int .u8) w A1 l1.length l1) (hc1 : l1.length ≤ c1) (h : garnerref02_same.f k l0 l1 = some r) :
  Calls Try.prog 28 #[.slice A0 l0.length c0, .slice A1 l1.length c1] w fun e w' => e = .returned (.bool r) ∧ Drawn0 w w' := by
 have HR0 := Am hr0
 have HC0 := Am hc0
 clear hr0 hc0
 have HR1 := Am hr1
 have HC1 := Am hc1
 clear hr1 hc1
 have H : (if (l0.length : Int) = (l1.length : Int) then (garnerref02_same.l0 k l0 l1 0) else (some false)) = some r := h
 clear h
 by_cases c3 : (l0.length : Int) = (l1.length : Int)
 rotate_left
 ·rw [if_neg c3] at H
  have c3b0 : ((l0.length : Int) == (l1.length : Int)) = false := beq_eq_false_iff_ne.mpr c3
  have c3b1 : ((l0.length : Int) != (l1.length : Int)) = true := bne_iff_ne.mpr c3
  have c3b2 : (l0.length == l1.length) = false := by first | simpa using c3 | (simp at c3 ⊢; omega)
  obtain rfl := Option.some.inj H
  go_enter Try.func28, Try.ntmps28
  go_wp2
  repeat (go_quiet (fail); try go_wp2)
  go_ret
  exact ⟨by first | rfl | (simp; done) | (simp [*]; done), by repeat (first | exact Drawn0.refl _ | apply Drawn0.step)⟩
 rw [if_pos c3] at H
 have c3b0 : ((l0.length : Int) == (l1.length : Int)) = true := beq_iff_eq.mpr c3
 have c3b1 : ((l0.length : Int) != (l1.length : Int)) = false := bne_eq_false_iff_eq.mpr c3
 have c3b2 : (l0.length == l1.length) = true := by first | simpa using c3 | (simp at c3 ⊢; omega)
 clear c3
 have H' := Am H
 clear H
 go_enter Try.func28, Try.ntmps28
 go_wp2
 repeat (go_quiet (fail); try go_wp2)
 go_loopg [5] k (fun kq v5 w' => ∃ (Aa : Int), v5 = .int .i64 Aa ∧ Aside0 (garnerref02_same.l0 kq l0 l1 Aa = some r) ∧ Aside0 (kq ≤ k) ∧ Drawn0 w w')
 case atStart => exact ⟨(0), (by first | rfl | (simp; done) | (simp [*]; done)), H', ⟨Nat.le_refl _⟩, by repeat (first | exact Drawn0.refl _ | apply Drawn0.step)⟩
 case round =>
  clear H'
  try clear c1
  try clear c2
  try clear p2
  try clear c3
  try clear c3b0
  try clear c3b1
  try clear c3b2
  obtain ⟨Aa, rfl, HA, HK1, ⟨m1, rfl⟩⟩ := hrel
  cases gk with
  | zero => exact absurd HA.out (by simp [garnerref02_same.l0])
  | succ k1 =>
   have H := HA.out
   clear HA
   simp only [garnerref02_same.l0] at H
   by_cases c4 : Aa < (l0.length : Int)
   rotate_left
   ·rw [if_neg c4] at H
    have c4b0 : decide (Aa < (l0.length : Int)) = false := decide_eq_false c4
    clear c4
    obtain rfl := Option.some.inj H
    go_wp2
    repeat (go_quiet (fail); try go_wp2)
    go_ret
    exact ⟨by first | rfl | (simp; done) | (simp [*]; done), by repeat (first | exact Drawn0.refl _ | apply Drawn0.step)⟩
   rw [if_pos c4] at H
   have c4b0 : decide (Aa < (l0.length : Int)) = true := decide_eq_true c4
   clear c4
   by_cases c5 : 0 ≤ Aa
   rotate_left
   ·rw [if_neg c5] at H
    exact absurd H (by simp)
   rw [if_pos c5] at H
   have c5b0 : decide (0 ≤ Aa) = true := decide_eq_true c5
   clear c5
   by_cases c6 : Aa < (l1.length : Int)
   rotate_left
   ·rw [if_neg c6] at H
    exact absurd H (by simp)
   rw [if_pos c6] at H
   have c6b0 : decide (Aa < (l1.length : Int)) = true := decide_eq_true c6
   clear c6
   by_cases c7 : (rd l0 Aa) = (rd l1 Aa)
   rotate_left
   ·rw [if_neg c7] at H
    have c7b0 : ((rd l0 Aa) == (rd l1 Aa)) = false := beq_eq_false_iff_ne.mpr c7
    have c7b1 : ((rd l0 Aa) != (rd l1 Aa)) = true := bne_iff_ne.mpr c7
    obtain rfl := Option.some.inj H
    have p228 : 0 ≤ (Aa : Int) := of_decide_eq_true pS
    have q228 : Aa < (l0.length : Int) := of_decide_eq_true pS
    obtain ⟨Ad, e228, Ab⟩ := Kd.at_int HR0.out Aa p228 q228
    cases e228
    replace p228 := eq_true p228
    replace q228 := eq_true q228
    have p229 : 0 ≤ (Aa : Int) := of_decide_eq_true pS
    have q229 : Aa < (l1.length : Int) := of_decide_eq_true pS
    obtain ⟨Ae, e229, Ac⟩ := Kd.at_int HR1.out Aa p229 q229
    cases e229
    replace p229 := eq_true p229
    replace q229 := eq_true q229
    go_wp2
    repeat (go_quiet (fail); try go_wp2)
    go_ret
    exact ⟨by first | rfl | (simp; done) | (simp [*]; done), by repeat (first | exact Drawn0.refl _ | apply Drawn0.step)⟩
   rw [if_pos c7] at H
   have c7b0 : ((rd l0 Aa) == (rd l1 Aa)) = true := beq_iff_eq.mpr c7
   have c7b1 : ((rd l0 Aa) != (rd l1 Aa)) = false := bne_eq_false_iff_eq.mpr c7
   clear c7
   have H' := Am H
   clear H
   have p228 : 0 ≤ (Aa : Int) := of_decide_eq_true pS
   have q228 : Aa < (l0.length : Int) := of_decide_eq_true pS
   obtain ⟨Ad, e228, Ab⟩ := Kd.at_int HR0.out Aa p228 q228
   cases e228
   replace p228 := eq_true p228
   replace q228 := eq_true q228
   have p229 : 0 ≤ (Aa : Int) := of_decide_eq_true pS
   have q229 : Aa < (l1.length : Int) := of_decide_eq_true pS
   obtain ⟨Ae, e229, Ac⟩ := Kd.at_int HR1.out Aa p229 q229
   cases e229
   replace p229 := eq_true p229
   replace q229 := eq_true q229
   go_wp2
   repeat (go_quiet (fail); try go_wp2)
   go_roundg k1
   case measure => have := HK1.out; omega
   case rel => exact ⟨(wrap64 (Aa + 1)), (by first | rfl | (simp; done) | (simp [*]; done)), H', ⟨by have := HK1.out; omega⟩, by repeat (first | exact Drawn0.refl _ | apply Drawn0.step)⟩
def garnerref02_Bytes.f (k : Nat) (l0 : List Int) (l1 : List Int) : Option (Bool) := (garnerref02_same.f k l0 l1).bind fun t230 => (some t230)
theorem garnerref02_Bytes.mono : ∀ a0 a1 k, LeO (garnerref02_Bytes.f k a0 a1) (garnerref02_Bytes.f (k + 1) a0 a1) := by
 intro a0 a1 k
 unfold garnerref02_Bytes.f
 repeat' first
   | (with_reducible exact garnerref02_same.mono _ _ _)
   | (with_reducible exact LeO.refl _)
   | (with_reducible exact LeO.none _)
   | (with_reducible refine LeO.ite ?_ ?_)
   | (with_reducible refine LeO.bind ?_ (fun _ => ?_))
   | exact garnerref02_same.mono _ _ _
   | exact LeO.none _
   | refine LeO.ite ?_ ?_
   | refine LeO.bind ?_ (fun _ => ?_)
set_option maxHeartbeats 8000000 in
set_option maxRecDepth 100000 in
theorem garnerref02_Bytes.calls (k : Nat) (A0 : Option Addr) (c0 : Nat) (l0 : List Int) (A1 : Option Addr) (c1 : Nat) (l1 : List Int) (r : Bool) (w : World) (hr0 : Kd.C (Kd.int .u8) w A0 l0.length l0) (hc0 : l0.length ≤ c0) (hr1 : Kd.C (Kd.int .u8) w A1 l1.length l1) (hc1 : l1.length ≤ c1) (h : garnerref02_Bytes.f k l0 l1 = some r) :
  Calls Try.prog 11 #[.slice A0 l0.length c0, .slice A1 l1.length c1] w fun e w' => e = .returned (.bool r) ∧ Drawn0 w w' := by
 have HR0 := Am hr0
 have HC0 := Am hc0
 clear hr0 hc0
 have HR1 := Am hr1
 have HC1 := Am hc1
 clear hr1 hc1
 have H : ((garnerref02_same.f k l0 l1).bind fun t230 => (some t230)) = some r := h
 clear h
 replace H := Option.bind_eq_some_iff.mp H
 obtain ⟨t230, A30, H⟩ := H
 replace H : (some t230) = some r := H
 have A3 := Am A30
 clear A30
 obtain rfl := Option.some.inj H
 go_enter Try.func11, Try.ntmps11
 go_wp2_with (first | ((with_reducible refine gate_callee (f := 28) rfl ?_); refine goesL_ (some 7) rfl rfl Try.func28 (by kernel_rfl) rfl #[.slice A0 l0.length c0, .slice A1 l1.length c1] rfl pL ?_; (with_reducible refine (garnerref02_same.calls k _ _ l0 _ _ l1 t230 _ ?side1 ?side2 ?side3 ?side4 A3.out).mono ?_); (case side1 => repeat (first | exact HR0.out | (with_reducible refine Kd.C_alloc ?_ _) | (with_reducible refine Kd.C_drewN ?_ _) | (with_reducible refine Kd.C_drew ?_))); (case side2 => exact HC0.out); (case side3 => repeat (first | exact HR1.out | (with_reducible refine Kd.C_alloc ?_ _) | (with_reducible refine Kd.C_drewN ?_ _) | (with_reducible refine Kd.C_drew ?_))); (case side4 => exact HC1.out); rintro e w' ⟨rfl, ⟨nd, rfl⟩⟩; refine ⟨_, rfl, ?_⟩))
 go_ret
 exact ⟨by first | rfl | (simp; done) | (simp [*]; done), by repeat (first | exact Drawn0.refl _ | apply Drawn0.step)⟩
def garnerref02_One.f : Nat → Int → Option (List Int)
 | 0, _ => none
 | k + 1, a0 => if a0 < 128 then (some (([(a0) % 256] : List Int))) else ((some (([(((Int.tmod a0 128) % 256) + 128) % 256] : List Int) : List Int)).bind fun y234 => ((garnerref02_One.f k (IntKind.u64.wrap (Int.tdiv a0 128))).bind fun t237 => (if y234.length + t237.length < 140737488355328 then (some (y234 ++ t237)) else (none))))
theorem garnerref02_One.mono_l : ∀ k, (∀ y0, LeO (garnerref02_One.f k y0) (garnerref02_One.f (k + 1) y0))
 | 0 => fun _ r h => by simp [garnerref02_One.f] at h
 | k + 1 => by
  have ih0 := garnerref02_One.mono_l k
  ·intro y0
   unfold garnerref02_One.f
   repeat' first
   | (with_reducible exact ih0 _)
   | (with_reducible exact LeO.refl _)
   | (with_reducible exact LeO.none _)
   | (with_reducible refine LeO.ite ?_ ?_)
   | (with_reducible refine LeO.bind ?_ (fun _ => ?_))
   | exact ih0 _
   | exact LeO.none _
   | refine LeO.ite ?_ ?_
   | refine LeO.bind ?_ (fun _ => ?_)
theorem garnerref02_One.mono : ∀ a0 k, LeO (garnerref02_One.f k a0) (garnerref02_One.f (k + 1) a0) := by
 intro a0 k
 have ih0 := garnerref02_One.mono_l k
 exact ih0 a0
set_option maxHeartbeats 8000000 in
set_option maxRecDepth 100000 in
theorem garnerref02_One.calls (k : Nat) : ∀ (a0 : Int) (r : List Int) (w : World) (h : garnerref02_One.f k a0 = some r),
  Calls Try.prog 30 #[.int .u64 a0] w fun e w' => ∃ v0_ : Value, e = .returned (v0_) ∧ Kd.R (Kd.int .u8) 5 w' w.heap.size (fun _ => True) v0_ r ∧ Below w.heap.size w w' := by
 induction k using Nat.strongRecOn with
 | _ k ih =>
 intro a0 r w h
 cases k with
 | zero => exact absurd h (by simp [garnerref02_One.f])
 | succ k =>
 simp only [garnerref02_One.f] at h
 have HB := Am (Below.refl w.heap.size w)
 have H : (if a0 < 128 then (some (([(a0) % 256] : List Int))) else ((some (([(((Int.tmod a0 128) % 256) + 128) % 256] : List Int) : List Int)).bind fun y234 => ((garnerref02_One.f k (IntKind.u64.wrap (Int.tdiv a0 128))).bind fun t237 => (if y234.length + t237.length < 140737488355328 then (some (y234 ++ t237)) else (none))))) = some r := h
 clear h
 by_cases c2 : a0 < 128
 ·rw [if_pos c2] at H
  have c2b0 : decide (a0 < 128) = true := decide_eq_true c2
  clear c2
  obtain ⟨y231, hy231⟩ : ∃ y_ : List Int, y_ = (([(a0) % 256] : List Int)) := ⟨_, rfl⟩
  replace H : (some y231) = some r := by first | (rw [hy231]; with_reducible exact H) | (have H2_ := (Option.bind_some _ _).symm.trans H; rw [hy231]; with_reducible exact H2_) | (have H2_ := (Option.bind_some _ _).symm.trans H; with_reducible exact H2_) | with_reducible exact H | (rw [hy231]; exact H) | exact H
  have Ny231 := Am hy231
  clear hy231
  obtain rfl := Option.some.inj H
  go_enter Try.func30, Try.ntmps30
  go_wp2_with (first | ((with_reducible refine gate_dst (N := 7) rfl ?_); refine Kd.R_lit (Kd.int .u8) _ 5 ?hg (N := 7) ?hd (xs := ([(a0) % 256] : List Int)) (inner := [.int .u8 ((a0) % 256)]) (ok := fun _ => True) (okp := fun _ => True) ?hr ?hp (fun _ hk => hk) trivial (Below.refl _ _) (Nat.le_refl _) (by simp) ?_; (case hd => rfl); (case hg => rfl); (case hr => first | (go_simp; done) | (go_simp; rfl)); (case hp => exact (Reps.one (show Kd.M (Kd.int .u8) _ _ _ ((a0) % 256) [.int .u8 ((a0) % 256)] from rfl) (Reps.none _ _))); intro v232 w3 ho4 hb hg_ hnew_; clear hg_ hnew_; (first | rw [← Ny231.out] at ho4 | (simp only [Int.reduceToNat] at ho4; rw [← Ny231.out] at ho4)); have Ac := Am (Kd.R_lower ho4 (below_size (pB HB.out))); replace HB := Am (below_step (pB HB.out) hb); clear hb ho4))
  go_ret
  exact ⟨_, pX, by (with_reducible repeat (first | apply Kd.R_alloc | apply Kd.R_drewN | apply Kd.R_drew)); exact Ac.out, pB HB.out⟩
 rw [if_neg c2] at H
 have c2b0 : decide (a0 < 128) = false := decide_eq_false c2
 clear c2
 obtain ⟨y234, hy234⟩ : ∃ y_ : List Int, y_ = (([(((Int.tmod a0 128) % 256) + 128) % 256] : List Int)) := ⟨_, rfl⟩
 replace H : ((garnerref02_One.f k (IntKind.u64.wrap (Int.tdiv a0 128))).bind fun t237 => (if y234.length + t237.length < 140737488355328 then (some (y234 ++ t237)) else (none))) = some r := by first | (rw [hy234]; with_reducible exact H) | (have H2_ := (Option.bind_some _ _).symm.trans H; rw [hy234]; with_reducible exact H2_) | (have H2_ := (Option.bind_some _ _).symm.trans H; with_reducible exact H2_) | with_reducible exact H | (rw [hy234]; exact H) | exact H
 have Ny234 := Am hy234
 clear hy234
 replace H := Option.bind_eq_some_iff.mp H
 obtain ⟨t237, A50, H⟩ := H
 replace H : (if y234.length + t237.length < 140737488355328 then (some (y234 ++ t237)) else (none)) = some r := H
 have A5 := Am A50
 clear A50
 by_cases c6 : y234.length + t237.length < 140737488355328
 rotate_left
 ·rw [if_neg c6] at H
  exact absurd H (by simp)
 rw [if_pos c6] at H
 have LMc6 := Am c6
 clear c6
 obtain ⟨y240, hy240⟩ : ∃ y_ : List Int, y_ = (y234 ++ t237) := ⟨_, rfl⟩
 replace H : (some y240) = some r := by first | (rw [hy240]; with_reducible exact H) | (have H2_ := (Option.bind_some _ _).symm.trans H; rw [hy240]; with_reducible exact H2_) | (have H2_ := (Option.bind_some _ _).symm.trans H; with_reducible exact H2_) | with_reducible exact H | (rw [hy240]; exact H) | exact H
 have Ny240 := Am hy240
 clear hy240
 obtain rfl := Option.some.inj H
 go_enter Try.func30, Try.ntmps30
 go_wp2_with (first | ((with_reducible refine gate_dst (N := 12) rfl ?_); refine Kd.R_lit (Kd.int .u8) _ 5 ?hg (N := 12) ?hd (xs := ([(((Int.tmod a0 128) % 256) + 128) % 256] : List Int)) (inner := [.int .u8 ((((Int.tmod a0 128) % 256) + 128) % 256)]) (ok := fun _ => True) (okp := fun _ => True) ?hr ?hp (fun _ hk => hk) trivial (Below.refl _ _) (Nat.le_refl _) (by simp) ?_; (case hd => rfl); (case hg => rfl); (case hr => first | (go_simp; done) | (go_simp; rfl)); (case hp => exact (Reps.one (show Kd.M (Kd.int .u8) _ _ _ ((((Int.tmod a0 128) % 256) + 128) % 256) [.int .u8 ((((Int.tmod a0 128) % 256) + 128) % 256)] from rfl) (Reps.none _ _))); intro v235 w7 ho8 hb hg_ hnew_; clear hg_ hnew_; (first | rw [← Ny234.out] at ho8 | (simp only [Int.reduceToNat] at ho8; rw [← Ny234.out] at ho8)); have Aa := Am (Kd.R_lower ho8 (below_size (pB HB.out))); replace HB := Am (below_step (pB HB.out) hb); clear hb ho8) | ((with_reducible refine gate_callee (f := 30) rfl ?_); refine goesL_ (some 15) rfl rfl Try.func30 (by kernel_rfl) rfl #[.int .u64 (IntKind.u64.wrap (Int.tdiv a0 128))] rfl pL ?_; (with_reducible refine (ih k (by omega) (IntKind.u64.wrap (Int.tdiv a0 128)) t237 _ A5.out).mono ?_); rintro e w9 ⟨v238, rfl, ho0, hb⟩; refine ⟨_, rfl, ?_⟩; have Ab := Am (Kd.R_lower (Kd.R_new' ho0 (Kd.R_lt (pR Aa.out))) (below_size (pB HB.out))); replace Aa := Am (Kd.R_elder' (pR Aa.out) (Kd.R_base ho0) hb); replace HB := Am (below_step (pB HB.out) hb); (try clear hb); (try clear hb2); (try clear hk); (try clear hi); (try clear ho0); obtain ⟨Ae, Af, Ag⟩ := Kd.R_slice Ab.out; subst Ag) | ((with_reducible refine gate_builtin (b := .append) (xs := #[.tmp 12, .tmp 15]) rfl ?_); at_builtin; refine Kd.R_append_rows (Kd.int .u8) (w0 := w) w.heap.size rfl (.tmp 12) (.tmp 15) 22 5 (.int .u8 0) 1 rfl Try.underlying22 info5 rfl (by decide) (by omega) v235 y234 t237 _ _ _ (fun k_ => some k_ ≠ (.slice Ae t237.length Af : Value).ownBlock) (fun _ => False) rfl rfl ?aO ?aR (fun _ _ h => h) (fun _ h => h.elim) ?aF ?aB ?aS ?aL ?_; (case aR => exact pC (Kd.R_reads' Ab.out).2.2); (case aB => exact (pB HB.out)); (case aF => exact (fun k_ hk => Kd.fresh' (Kd.R_lt (pR Ab.out)) k_ hk)); (case aO => exact (by (with_reducible repeat (first | apply Kd.R_alloc | apply Kd.R_drewN | apply Kd.R_drew)); exact Kd.R_mono Aa.out (fun _ hk => hk.2))); (case aS => exact (below_size (pB HB.out))); (case aL => have := LMc6.out; omega); intro v241 w10 ho hb hg hat; rw [← Ny240.out] at ho; replace Ab := Am (Kd.R_after (ok := (fun _ => True)) (pR Ab.out) hg hat); replace HB := Am (hb); have Ad := Am (ho); clear Aa ho hb hg hat))
 go_ret
 exact ⟨_, pX, by (with_reducible repeat (first | apply Kd.R_alloc | apply Kd.R_drewN | apply Kd.R_drew)); exact Kd.R_mono Ad.out (fun _ hk => trivial), pB HB.out⟩
def garnerref02_value.l0 : Nat → List Int → Int → Int → Option (Int)
 | 0, _, _, _ => none
 | k + 1, x0, x3, x4 => if x4 ≥ 0 then (if 0 ≤ x4 then (if x4 < (x0.length : Int) then (garnerref02_value.l0 k x0 (IntKind.u64.wrap ((IntKind.u64.wrap (x3 * 128)) + (IntKind.u64.wrap (Int.tmod (rd x0 x4) 128)))) (wrap64 (x4 - 1))) else (none)) else (none)) else (some x3)
def garnerref02_value.f (k : Nat) (l0 : List Int) : Option (Int) := garnerref02_value.l0 k l0 0 (wrap64 ((l0.length : Int) - 1))
theorem garnerref02_value.mono_l : ∀ k, (∀ y0 y1 y2, LeO (garnerref02_value.l0 k y0 y1 y2) (garnerref02_value.l0 (k + 1) y0 y1 y2))
 | 0 => fun _ _ _ r h => by simp [garnerref02_value.l0] at h
 | k + 1 => by
  have ih0 := garnerref02_value.mono_l k
  ·intro y0 y1 y2
   unfold garnerref02_value.l0
   repeat' first
   | (with_reducible exact ih0 _ _ _)
   | (with_reducible exact LeO.refl _)
   | (with_reducible exact LeO.none _)
   | (with_reducible refine LeO.ite ?_ ?_)
   | (with_reducible refine LeO.bind ?_ (fun _ => ?_))
   | exact ih0 _ _ _
   | exact LeO.none _
   | refine LeO.ite ?_ ?_
   | refine LeO.bind ?_ (fun _ => ?_)
theorem garnerref02_value.mono : ∀ a0 k, LeO (garnerref02_value.f k a0) (garnerref02_value.f (k + 1) a0) := by
 intro a0 k
 have ih0 := garnerref02_value.mono_l k
 unfold garnerref02_value.f
 repeat' first
   | (with_reducible exact ih0 _ _ _)
   | (with_reducible exact LeO.refl _)
   | (with_reducible exact LeO.none _)
   | (with_reducible refine LeO.ite ?_ ?_)
   | (with_reducible refine LeO.bind ?_ (fun _ => ?_))
   | exact ih0 _ _ _
   | exact LeO.none _
   | refine LeO.ite ?_ ?_
   | refine LeO.bind ?_ (fun _ => ?_)
set_option maxHeartbeats 8000000 in
set_option maxRecDepth 100000 in
theorem garnerref02_value.calls (k : Nat) (A0 : Option Addr) (c0 : Nat) (l0 : List Int) (r : Int) (w : World) (hr0 : Kd.C (Kd.int .u8) w A0 l0.length l0) (hc0 : l0.length ≤ c0) (h : garnerref02_value.f k l0 = some r) :
  Calls Try.prog 42 #[.slice A0 l0.length c0] w fun e w' => e = .returned (.int .u64 r) ∧ Drawn0 w w' := by
 have HR0 := Am hr0
 have HC0 := Am hc0
 clear hr0 hc0
 have H : (garnerref02_value.l0 k l0 0 (wrap64 ((l0.length : Int) - 1))) = some r := h
 clear h
 have H' := Am H
 clear H
 go_enter Try.func42, Try.ntmps42
 go_wp2
 go_loopg [3, 4] k (fun kq v3 v4 w' => ∃ (Ab : Int) (Aa : Int), v3 = .int .u64 Ab ∧ v4 = .int .i64 Aa ∧ Aside0 (garnerref02_value.l0 kq l0 Ab Aa = some r) ∧ Aside0 (kq ≤ k) ∧ Drawn0 w w')
 case atStart => exact ⟨(0), (wrap64 ((l0.length : Int) - 1)), (by first | rfl | (simp; done) | (simp [*]; done)), (by first | rfl | (simp; done) | (simp [*]; done)), H', ⟨Nat.le_refl _⟩, by repeat (first | exact Drawn0.refl _ | apply Drawn0.step)⟩
 case round =>
  clear H'
  obtain ⟨Ab, Aa, rfl, rfl, HA, HK1, ⟨m1, rfl⟩⟩ := hrel
  cases gk with
  | zero => exact absurd HA.out (by simp [garnerref02_value.l0])
  | succ k1 =>
   have H := HA.out
   clear HA
   simp only [garnerref02_value.l0] at H
   by_cases c2 : Aa ≥ 0
   rotate_left
   ·rw [if_neg c2] at H
    have c2b0 : decide (0 ≤ Aa) = false := decide_eq_false c2
    clear c2
    obtain rfl := Option.some.inj H
    go_wp2
    go_ret
    exact ⟨by first | rfl | (simp; done) | (simp [*]; done), by repeat (first | exact Drawn0.refl _ | apply Drawn0.step)⟩
   rw [if_pos c2] at H
   have c2b0 : decide (0 ≤ Aa) = true := decide_eq_true c2
   clear c2
   by_cases c3 : 0 ≤ Aa
   rotate_left
   ·rw [if_neg c3] at H
    exact absurd H (by simp)
   rw [if_pos c3] at H
   have c3b0 : decide (0 ≤ Aa) = true := decide_eq_true c3
   clear c3
   by_cases c4 : Aa < (l0.length : Int)
   rotate_left
   ·rw [if_neg c4] at H
    exact absurd H (by simp)
   rw [if_pos c4] at H
   have c4b0 : decide (Aa < (l0.length : Int)) = true := decide_eq_true c4
   clear c4
   have H' := Am H
   clear H
   have p243 : 0 ≤ (Aa : Int) := of_decide_eq_true pS
   have q243 : Aa < (l0.length : Int) := of_decide_eq_true pS
   obtain ⟨ad243, e243, hx243_0⟩ := Kd.at_int HR0.out Aa p243 q243
   cases e243
   replace p243 := eq_true p243
   replace q243 := eq_true q243
   go_wp2
   go_roundg k1
   case measure => have := HK1.out; omega
   case rel => exact ⟨(IntKind.u64.wrap ((IntKind.u64.wrap (Ab * 128)) + (IntKind.u64.wrap (Int.tmod (rd l0 Aa) 128)))), (wrap64 (Aa - 1)), (by first | rfl | (simp; done) | (simp [*]; done)), (by first | rfl | (simp; done) | (simp [*]; done)), H', ⟨by have := HK1.out; omega⟩, by repeat (first | exact Drawn0.refl _ | apply Drawn0.step)⟩
mutual
def garnerref02_Get.l0 : Nat → List Int → Int → Option (Int × Int)
 | 0, _, _ => none
 | k + 1, x0, x4 => if x4 ≤ (x0.length : Int) then (garnerref02_Get.j1 k x0 x4 (decide (x4 ≤ 10))) else (garnerref02_Get.j1 k x0 x4 false)
def garnerref02_Get.j1 : Nat → List Int → Int → Bool → Option (Int × Int)
 | 0, _, _, _ => none
 | k + 1, x0, x4, x13 => if x13 = true then (if 0 ≤ (wrap64 (x4 - 1)) then (if (wrap64 (x4 - 1)) < (x0.length : Int) then (if (rd x0 (wrap64 (x4 - 1))) < 128 then (if 0 ≤ x4 then (if x4 ≤ (x0.length : Int) then ((garnerref02_value.f k (x0.take (x4 : Int).toNat)).bind fun t246 => ((garnerref02_One.f k t246).bind fun t247 => ((garnerref02_same.f k t247 (x0.take (x4 : Int).toNat)).bind fun t251 => (if t251 = true then (some (t246, x4)) else (some (0, 0)))))) else (none)) else (none)) else (garnerref02_Get.l0 k x0 (wrap64 (x4 + 1)))) else (none)) else (none)) else (some (0, 0))
end
def garnerref02_Get.f (k : Nat) (l0 : List Int) : Option (Int × Int) := garnerref02_Get.l0 k l0 1
theorem garnerref02_Get.mono_l : ∀ k, (∀ y0 y1, LeO (garnerref02_Get.l0 k y0 y1) (garnerref02_Get.l0 (k + 1) y0 y1)) ∧ (∀ y0 y1 y2, LeO (garnerref02_Get.j1 k y0 y1 y2) (garnerref02_Get.j1 (k + 1) y0 y1 y2))
 | 0 => ⟨fun _ _ r h => by simp [garnerref02_Get.l0] at h, fun _ _ _ r h => by simp [garnerref02_Get.j1] at h⟩
 | k + 1 => by
  obtain ⟨ih0, ih1⟩ := garnerref02_Get.mono_l k
  refine ⟨?_, ?_⟩
  ·intro y0 y1
   unfold garnerref02_Get.l0
   repeat' first
   | (with_reducible exact ih0 _ _)
   | (with_reducible exact ih1 _ _ _)
   | (with_reducible exact garnerref02_One.mono _ _)
   | (with_reducible exact garnerref02_same.mono _ _ _)
   | (with_reducible exact garnerref02_value.mono _ _)
   | (with_reducible exact LeO.refl _)
   | (with_reducible exact LeO.none _)
   | (with_reducible refine LeO.ite ?_ ?_)
   | (with_reducible refine LeO.bind ?_ (fun _ => ?_))
   | exact ih0 _ _
   | exact ih1 _ _ _
   | exact garnerref02_One.mono _ _
   | exact garnerref02_same.mono _ _ _
   | exact garnerref02_value.mono _ _
   | exact LeO.none _
   | refine LeO.ite ?_ ?_
   | refine LeO.bind ?_ (fun _ => ?_)
  ·intro y0 y1 y2
   unfold garnerref02_Get.j1
   repeat' first
   | (with_reducible exact ih0 _ _)
   | (with_reducible exact ih1 _ _ _)
   | (with_reducible exact garnerref02_One.mono _ _)
   | (with_reducible exact garnerref02_same.mono _ _ _)
   | (with_reducible exact garnerref02_value.mono _ _)
   | (with_reducible exact LeO.refl _)
   | (with_reducible exact LeO.none _)
   | (with_reducible refine LeO.ite ?_ ?_)
   | (with_reducible refine LeO.bind ?_ (fun _ => ?_))
   | exact ih0 _ _
   | exact ih1 _ _ _
   | exact garnerref02_One.mono _ _
   | exact garnerref02_same.mono _ _ _
   | exact garnerref02_value.mono _ _
   | exact LeO.none _
   | refine LeO.ite ?_ ?_
   | refine LeO.bind ?_ (fun _ => ?_)
theorem garnerref02_Get.mono : ∀ a0 k, LeO (garnerref02_Get.f k a0) (garnerref02_Get.f (k + 1) a0) := by
 intro a0 k
 obtain ⟨ih0, ih1⟩ := garnerref02_Get.mono_l k
 unfold garnerref02_Get.f
 repeat' first
   | (with_reducible exact ih0 _ _)
   | (with_reducible exact ih1 _ _ _)
   | (with_reducible exact garnerref02_One.mono _ _)
   | (with_reducible exact garnerref02_same.mono _ _ _)
   | (with_reducible exact garnerref02_value.mono _ _)
   | (with_reducible exact LeO.refl _)
   | (with_reducible exact LeO.none _)
   | (with_reducible refine LeO.ite ?_ ?_)
   | (with_reducible refine LeO.bind ?_ (fun _ => ?_))
   | exact ih0 _ _
   | exact ih1 _ _ _
   | exact garnerref02_One.mono _ _
   | exact garnerref02_same.mono _ _ _
   | exact garnerref02_value.mono _ _
   | exact LeO.none _
   | refine LeO.ite ?_ ?_
   | refine LeO.bind ?_ (fun _ => ?_)
set_option maxHeartbeats 8000000 in
set_option maxRecDepth 100000 in
theorem garnerref02_Get.calls (k : Nat) (A0 : Option Addr) (c0 : Nat) (l0 : List Int) (r1 : Int) (r2 : Int) (w : World) (hr0 : Kd.C (Kd.int .u8) w A0 l0.length l0) (hc0 : l0.length ≤ c0) (h : garnerref02_Get.f k l0 = some (r1, r2)) :
  Calls Try.prog 22 #[.slice A0 l0.length c0] w fun e w' => e = .returned (.tuple #[.int .u64 r1, .int .i64 r2]) ∧ Below w.heap.size w w' := by
 have HR0 := Am hr0
 have HC0 := Am hc0
 clear hr0 hc0
 have HB := Am (Below.refl w.heap.size w)
 have H : (garnerref02_Get.l0 k l0 1) = some (r1, r2) := h
 clear h
 have H' := Am H
 clear H
 go_enter Try.func22, Try.ntmps22
 go_wp2
 go_loopg [4] k (fun kq v4 w' => ∃ (Aa : Int), v4 = .int .i64 Aa ∧ Aside0 (garnerref02_Get.l0 kq l0 Aa = some (r1, r2)) ∧ Aside0 (kq ≤ k) ∧ Aside0 (Below w.heap.size w w'))
 case atStart => exact ⟨(1), (by first | rfl | (simp; done) | (simp [*]; done)), H', ⟨Nat.le_refl _⟩, ⟨pB HB.out⟩⟩
 case round =>
  clear H'
  obtain ⟨Aa, rfl, HA, HK1, HB⟩ := hrel
  cases gk with
  | zero => exact absurd HA.out (by simp [garnerref02_Get.l0])
  | succ k1 =>
   have H := HA.out
   clear HA
   simp only [garnerref02_Get.l0] at H
   have HC2 := Am H
   clear H
   go_upto_region 2 with (fail)
   go_cut [13] (fun v13 wc => ∃ (kq : Nat) (Ag : Bool), v13 = .bool Ag ∧ Aside0 (garnerref02_Get.j1 kq l0 Aa Ag = some (r1, r2)) ∧ Aside0 (kq ≤ k1) ∧ Aside0 (Below w.heap.size w wc))
   case first =>
    have H := HC2.out
    clear HC2
    by_cases c3 : Aa ≤ (l0.length : Int)
    ·rw [if_pos c3] at H
     have c3b0 : decide (Aa ≤ (l0.length : Int)) = true := decide_eq_true c3
     clear c3
     (first | rw [c3b0] | (simp only [i64_w, i32_w]; rw [c3b0]) | skip)
     have H' := Am H
     clear H
     go_wp2
     go_meet
     case rel => exact ⟨_, (decide (Aa ≤ 10)), (by first | rfl | (simp; done) | (simp [*]; done)), H', ⟨by have := HK1.out; first | omega | exact Nat.le_refl _⟩, ⟨pB HB.out⟩⟩
    rw [if_neg c3] at H
    have c3b0 : decide (Aa ≤ (l0.length : Int)) = false := decide_eq_false c3
    clear c3
    (first | rw [c3b0] | (simp only [i64_w, i32_w]; rw [c3b0]) | skip)
    have H' := Am H
    clear H
    go_wp2
    go_meet
    case rel => exact ⟨_, (false), (by first | rfl | (simp; done) | (simp [*]; done)), H', ⟨by have := HK1.out; first | omega | exact Nat.le_refl _⟩, ⟨pB HB.out⟩⟩
   case rest =>
    clear HC2
    try clear c2
    try clear p2
    try clear c3
    try clear c3b0
    obtain ⟨kq, Ag, rfl, HA, HJ1, HB⟩ := hcut
    cases kq with
    | zero => exact absurd HA.out (by simp [garnerref02_Get.j1])
    | succ kj1 =>
     have H := HA.out
     clear HA
     simp only [garnerref02_Get.j1] at H
     by_cases c4 : Ag = true
     rotate_left
     ·replace c4 := Bool.eq_false_iff.mpr c4
      subst c4
      have H1 : (some (0, 0)) = some (r1, r2) := by rw [if_neg (show ¬ (false = true) by decide)] at H; exact H
      clear H
      have H := H1
      clear H1
      simp only [Option.some.injEq, Prod.mk.injEq] at H
      obtain ⟨rfl, rfl⟩ := H
      go_wp2
      go_ret2
      exact ⟨pX, pB HB.out⟩
     subst c4
     have H1 : (if 0 ≤ (wrap64 (Aa - 1)) then (if (wrap64 (Aa - 1)) < (l0.length : Int) then (if (rd l0 (wrap64 (Aa - 1))) < 128 then (if 0 ≤ Aa then (if Aa ≤ (l0.length : Int) then ((garnerref02_value.f kj1 (l0.take (Aa : Int).toNat)).bind fun t246 => ((garnerref02_One.f kj1 t246).bind fun t247 => ((garnerref02_same.f kj1 t247 (l0.take (Aa : Int).toNat)).bind fun t251 => (if t251 = true then (some (t246, Aa)) else (some (0, 0)))))) else (none)) else (none)) else (garnerref02_Get.l0 kj1 l0 (wrap64 (Aa + 1)))) else (none)) else (none)) = some (r1, r2) := by rw [if_pos rfl] at H; exact H
     clear H
     have H := H1
     clear H1
     obtain ⟨ji5, hji5⟩ : ∃ j_ : Int, (wrap64 (Aa - 1)) = j_ := ⟨_, rfl⟩
     replace H : (if 0 ≤ (ji5) then (if (ji5) < (l0.length : Int) then (if (rd l0 (ji5)) < 128 then (if 0 ≤ Aa then (if Aa ≤ (l0.length : Int) then ((garnerref02_value.f kj1 (l0.take (Aa : Int).toNat)).bind fun t246 => ((garnerref02_One.f kj1 t246).bind fun t247 => ((garnerref02_same.f kj1 t247 (l0.take (Aa : Int).toNat)).bind fun t251 => (if t251 = true then (some (t246, Aa)) else (some (0, 0)))))) else (none)) else (none)) else (garnerref02_Get.l0 kj1 l0 (wrap64 (Aa + 1)))) else (none)) else (none)) = some (r1, r2) := by first | (rw [hji5] at H; exact H) | (simp only [hji5] at H ⊢; exact H)
     have hji5w : (IntKind.i64.wrap (Aa - 1)) = ji5 := (i64_w _).trans hji5
     by_cases c6 : 0 ≤ (ji5)
     rotate_left
     ·rw [if_neg c6] at H
      exact absurd H (by simp)
     rw [if_pos c6] at H
     have c6b0 : decide (0 ≤ (ji5)) = true := decide_eq_true c6
     clear c6
     by_cases c7 : (ji5) < (l0.length : Int)
     rotate_left
     ·rw [if_neg c7] at H
      exact absurd H (by simp)
     rw [if_pos c7] at H
     have c7b0 : decide ((ji5) < (l0.length : Int)) = true := decide_eq_true c7
     clear c7
     by_cases c8 : (rd l0 (ji5)) < 128
     rotate_left
     ·rw [if_neg c8] at H
      have c8b0 : decide ((rd l0 (ji5)) < 128) = false := decide_eq_false c8
      clear c8
      have H' := Am H
      clear H
      have p244 : 0 ≤ ((ji5) : Int) := of_decide_eq_true pS
      have q244 : (ji5) < (l0.length : Int) := of_decide_eq_true pS
      obtain ⟨Ac, e244, Ab⟩ := Kd.at_int HR0.out (ji5) p244 q244
      cases e244
      replace Ab := cU HB.out Ab
      replace p244 := eq_true p244
      replace q244 := eq_true q244
      go_wp2
      go_roundg kj1
      case measure => have := HK1.out; have := HJ1.out; omega
      case rel => exact ⟨(wrap64 (Aa + 1)), (by first | rfl | (simp; done) | (simp [*]; done)), H', ⟨by have := HK1.out; have := HJ1.out; omega⟩, ⟨pB HB.out⟩⟩
     rw [if_pos c8] at H
     have c8b0 : decide ((rd l0 (ji5)) < 128) = true := decide_eq_true c8
     clear c8
     by_cases c9 : 0 ≤ Aa
     rotate_left
     ·rw [if_neg c9] at H
      exact absurd H (by simp)
     rw [if_pos c9] at H
     have c9b0 := eq_true c9
     have c9b1 : decide (0 ≤ Aa) = true := decide_eq_true c9
     clear c9
     by_cases c10 : Aa ≤ (l0.length : Int)
     rotate_left
     ·rw [if_neg c10] at H
      exact absurd H (by simp)
     rw [if_pos c10] at H
     have c10b0 := eq_true c10
     have c10b1 : decide (Aa ≤ (l0.length : Int)) = true := decide_eq_true c10
     clear c10
     replace H := Option.bind_eq_some_iff.mp H
     obtain ⟨t246, A110, H⟩ := H
     replace H : ((garnerref02_One.f kj1 t246).bind fun t247 => ((garnerref02_same.f kj1 t247 (l0.take (Aa : Int).toNat)).bind fun t251 => (if t251 = true then (some (t246, Aa)) else (some (0, 0))))) = some (r1, r2) := H
     have A11 := Am A110
     clear A110
     replace H := Option.bind_eq_some_iff.mp H
     obtain ⟨t247, A120, H⟩ := H
     replace H : ((garnerref02_same.f kj1 t247 (l0.take (Aa : Int).toNat)).bind fun t251 => (if t251 = true then (some (t246, Aa)) else (some (0, 0)))) = some (r1, r2) := H
     have A12 := Am A120
     clear A120
     have c13b0 := eq_true (of_decide_eq_true pS : 0 ≤ Aa)
     have c14b0 := eq_true (of_decide_eq_true pS : Aa ≤ (l0.length : Int))
     replace H := Option.bind_eq_some_iff.mp H
     obtain ⟨t251, A150, H⟩ := H
     replace H : (if t251 = true then (some (t246, Aa)) else (some (0, 0))) = some (r1, r2) := H
     have A15 := Am A150
     clear A150
     by_cases c16 : t251 = true
     ·subst c16
      have H1 : (some (t246, Aa)) = some (r1, r2) := by rw [if_pos rfl] at H; exact H
      clear H
      have H := H1
      clear H1
      simp only [Option.some.injEq, Prod.mk.injEq] at H
      obtain ⟨rfl, rfl⟩ := H
      have p244 : 0 ≤ ((ji5) : Int) := of_decide_eq_true pS
      have q244 : (ji5) < (l0.length : Int) := of_decide_eq_true pS
      obtain ⟨Ac, e244, Ab⟩ := Kd.at_int HR0.out (ji5) p244 q244
      cases e244
      replace Ab := cU HB.out Ab
      replace p244 := eq_true p244
      replace q244 := eq_true q244
      obtain ⟨i017, hi017, _, Aj, _⟩ := info_parts info5
      obtain ⟨hcut17, hA17, Ao⟩ := print_take_of (P := Try.prog) (Value.int .u8) 0 22 5 .i64 Try.underlying22 hi017 Aj (some Ac) c0 l0 Aa (of_decide_eq_true pS) (of_decide_eq_true pS) HC0.out
      have HR245 := Am (Kd.C_of_reads (h1 := fun _ => rfl) (hA17 _ (Kd.reads_of_C HR0.out)))
      have HC245 := Am Ao
      clear hA17 Ao hi017 Aj
      try go_wp2_with (first | ((with_reducible refine gate_callee (f := 42) rfl ?_); refine goesL_ (some 25) rfl rfl Try.func42 (by kernel_rfl) rfl #[.slice (some Ac) (l0.take (Aa : Int).toNat).length c0] rfl (by (try simp only [List.map_toArray, List.map_cons, List.map_nil]); first | done | (rw [show (l0.take (Aa : Int).toNat).length = Aa.toNat from (by rw [List.length_take]; have h_ : (Aa : Int) ≤ (l0.length : Int) := of_decide_eq_true pS; omega)] <;> rfl) | rfl | (simp only [List.length_drop, List.length_take]; rfl)) ?_; (with_reducible refine (garnerref02_value.calls kj1 _ _ (l0.take (Aa : Int).toNat) t246 _ ?Ad ?Ae A11.out).mono ?_); (case Ad => exact pC (Kd.C_below HR245.out HB.out)); (case Ae => exact HC245.out); rintro e w' ⟨rfl, ⟨nd, rfl⟩⟩; refine ⟨_, rfl, ?_⟩))
      (try (rw [drewN_self wc]; generalize hq_ : World.drewN wc _ = wc; replace HB : Aside0 (Below w.heap.size w wc) := ⟨by rw [← hq_]; exact (pB HB.out)⟩; clear hq_))
      replace HB := bDa HB
      obtain ⟨i019, hi019, _, Ak, _⟩ := info_parts info5
      obtain ⟨hcut19, hA19, Ap⟩ := print_take_of (P := Try.prog) (Value.int .u8) 0 22 5 .i64 Try.underlying22 hi019 Ak (some Ac) c0 l0 Aa (of_decide_eq_true pS) (of_decide_eq_true pS) HC0.out
      have HR250 := Am (Kd.C_of_reads (h1 := fun _ => rfl) (hA19 _ (Kd.reads_of_C HR0.out)))
      have HC250 := Am Ap
      clear hA19 Ap hi019 Ak
      refine start_ (n := 6) (S := fun w' => True) (ds := []) #[false, false, false, false, false, false] (by kernel_rfl) rfl rfl trivial (fun hHeld => ?_)
      generalize wc.drew = w18 at HB HR250 hHeld ⊢
      refine pure_ (i := 0) (N := some 26) (v := ?_) (a' := ?_) (bw 6 1) rfl rfl (by kernel_rfl) (fun _ _ _ h => h) (Or.inl ⟨by rfl, ?_⟩) ?_ ?_
      rotate_left
      ·intro w'
       go_simp
       with_reducible rfl
      rotate_left
      ·simp only [Act.put, List.setIfInBounds_toArray, List.set_cons_zero, List.set_cons_succ, i64_w, i32_w]
       rfl
      refine pure_ (i := 2) (N := some 28) (v := ?_) (a' := ?_) (bw 6 5) rfl rfl (by kernel_rfl) (fun _ _ _ h => h) (Or.inl ⟨by rfl, ?_⟩) ?_ ?_
      rotate_left
      ·intro w'
       go_simp
       with_reducible rfl
      rotate_left
      ·simp only [Act.put, List.setIfInBounds_toArray, List.set_cons_zero, List.set_cons_succ, i64_w, i32_w]
       rfl
      refine pure_ (i := 3) (N := some 29) (v := ?_) (a' := ?_) (bw 6 13) rfl rfl (by kernel_rfl) (fun _ _ _ h => h) (Or.inl ⟨by rfl, ?_⟩) ?_ ?_
      rotate_left
      ·intro w'
       go_simp
       with_reducible rfl
      rotate_left
      ·simp only [Act.put, List.setIfInBounds_toArray, List.set_cons_zero, List.set_cons_succ, i64_w, i32_w]
       rfl
      refine pure_ (i := 4) (N := some 30) (v := ?_) (a' := ?_) (bw 6 29) rfl rfl (by kernel_rfl) (fun _ _ _ h => h) (Or.inl ⟨by rfl, ?_⟩) ?_ ?_
      rotate_left
      ·intro w'
       go_simp
       with_reducible rfl
      rotate_left
      ·simp only [Act.put, List.setIfInBounds_toArray, List.set_cons_zero, List.set_cons_succ, i64_w, i32_w]
       rfl
      refine one_ (i := 1) (N := some 27) (bw 6 31) rfl rfl (by kernel_rfl) (by decide) (fun K hK => ?_)
      refine goes_ Try.func30 (by kernel_rfl) rfl #[.int .u64 t246] (by rfl) rfl rfl pL ?_
      with_reducible refine (garnerref02_One.calls kj1 t246 t247 _ A12.out).mono ?_
      rintro e w20 ⟨v248, rfl, ho0, hb⟩
      refine ⟨_, rfl, ?_⟩
      have Af := Am (Kd.R_lower ho0 (below_size (pB HB.out)))
      replace HB := Am (below_step (pB HB.out) hb)
      (try clear hb)
      (try clear hb2)
      (try clear hk)
      (try clear hi)
      (try clear ho0)
      obtain ⟨Au, Av, Aq⟩ := Kd.R_slice Af.out
      (first | subst Aq | (injection Aq with f1_ f2_ f3_; have f4_ := f1_.symm; have f5_ := f3_.symm; clear f1_ f2_ f3_; subst f4_; subst f5_))
      refine hK.out _ _ trivial (fun hHeld => ?_)
      clear hK K
      refine norm_ (a' := ?_) ?_ ?_
      rotate_left
      ·show Act.put _ (some 27) _ = _
       simp only [Act.put, List.setIfInBounds_toArray, List.set_cons_zero, List.set_cons_succ, i64_w, i32_w]
       rfl
      refine one_ (i := 5) (N := some 31) (bw 6 63) rfl rfl (by kernel_rfl) (by decide) (fun K hK => ?_)
      refine goes_ Try.func28 (by kernel_rfl) rfl #[.slice Au t247.length Av, .slice (some Ac) (l0.take (Aa : Int).toNat).length c0] (by rfl) rfl rfl (by (try simp only [List.map_toArray, List.map_cons, List.map_nil]); first | done | (rw [show (l0.take (Aa : Int).toNat).length = Aa.toNat from (by rw [List.length_take]; have h_ : (Aa : Int) ≤ (l0.length : Int) := of_decide_eq_true pS; omega)] <;> rfl) | rfl | (simp only [List.length_drop, List.length_take]; rfl)) ?_
      with_reducible refine (garnerref02_same.calls kj1 _ _ t247 _ _ (l0.take (Aa : Int).toNat) true _ ?Ad ?Ae ?Ah ?Ai A15.out).mono ?_
      (case Ad => exact pC (Kd.R_reads' Af.out).2.2)
      (case Ae => exact (Kd.R_reads' Af.out).2.1)
      (case Ah => exact pC (Kd.C_below HR250.out HB.out))
      (case Ai => exact HC250.out)
      rintro e w' ⟨rfl, ⟨nd, rfl⟩⟩
      refine ⟨_, rfl, ?_⟩
      refine hK.out _ _ trivial (fun hHeld => ?_)
      clear hK K
      refine norm_ (a' := ?_) ?_ ?_
      rotate_left
      ·show Act.put _ (some 31) _ = _
       simp only [Act.put, List.setIfInBounds_toArray, List.set_cons_zero, List.set_cons_succ, i64_w, i32_w]
       rfl
      refine done_ (by kernel_rfl) ?_
      try go_wp2
      go_ret2
      exact ⟨by first | rfl | (simp [errW_none, errW_some] <;> rfl) | (simp only [← hji5]; first | rfl | (simp [errW_none, errW_some] <;> rfl)) | (simp [*, errW_none, errW_some] <;> rfl), pB HB.out⟩
     replace c16 := Bool.eq_false_iff.mpr c16
     subst c16
     have H1 : (some (0, 0)) = some (r1, r2) := by rw [if_neg (show ¬ (false = true) by decide)] at H; exact H
     clear H
     have H := H1
     clear H1
     simp only [Option.some.injEq, Prod.mk.injEq] at H
     obtain ⟨rfl, rfl⟩ := H
     have p244 : 0 ≤ ((ji5) : Int) := of_decide_eq_true pS
     have q244 : (ji5) < (l0.length : Int) := of_decide_eq_true pS
     obtain ⟨Ac, e244, Ab⟩ := Kd.at_int HR0.out (ji5) p244 q244
     cases e244
     replace Ab := cU HB.out Ab
     replace p244 := eq_true p244
     replace q244 := eq_true q244
     obtain ⟨i022, hi022, _, Al, _⟩ := info_parts info5
     obtain ⟨hcut22, hA22, Ar⟩ := print_take_of (P := Try.prog) (Value.int .u8) 0 22 5 .i64 Try.underlying22 hi022 Al (some Ac) c0 l0 Aa (of_decide_eq_true pS) (of_decide_eq_true pS) HC0.out
     have HR245 := Am (Kd.C_of_reads (h1 := fun _ => rfl) (hA22 _ (Kd.reads_of_C HR0.out)))
     have HC245 := Am Ar
     clear hA22 Ar hi022 Al
     try go_wp2_with (first | ((with_reducible refine gate_callee (f := 42) rfl ?_); refine goesL_ (some 25) rfl rfl Try.func42 (by kernel_rfl) rfl #[.slice (some Ac) (l0.take (Aa : Int).toNat).length c0] rfl (by (try simp only [List.map_toArray, List.map_cons, List.map_nil]); first | done | (rw [show (l0.take (Aa : Int).toNat).length = Aa.toNat from (by rw [List.length_take]; have h_ : (Aa : Int) ≤ (l0.length : Int) := of_decide_eq_true pS; omega)] <;> rfl) | rfl | (simp only [List.length_drop, List.length_take]; rfl)) ?_; (with_reducible refine (garnerref02_value.calls kj1 _ _ (l0.take (Aa : Int).toNat) t246 _ ?Ad ?Ae A11.out).mono ?_); (case Ad => exact pC (Kd.C_below HR245.out HB.out)); (case Ae => exact HC245.out); rintro e w' ⟨rfl, ⟨nd, rfl⟩⟩; refine ⟨_, rfl, ?_⟩))
     (try (rw [drewN_self wc]; generalize hq_ : World.drewN wc _ = wc; replace HB : Aside0 (Below w.heap.size w wc) := ⟨by rw [← hq_]; exact (pB HB.out)⟩; clear hq_))
     replace HB := bDa HB
     obtain ⟨i024, hi024, _, An, _⟩ := info_parts info5
     obtain ⟨hcut24, hA24, As⟩ := print_take_of (P := Try.prog) (Value.int .u8) 0 22 5 .i64 Try.underlying22 hi024 An (some Ac) c0 l0 Aa (of_decide_eq_true pS) (of_decide_eq_true pS) HC0.out
     have HR250 := Am (Kd.C_of_reads (h1 := fun _ => rfl) (hA24 _ (Kd.reads_of_C HR0.out)))
     have HC250 := Am As
     clear hA24 As hi024 An
     refine start_ (n := 6) (S := fun w' => True) (ds := []) #[false, false, false, false, false, false] (by kernel_rfl) rfl rfl trivial (fun hHeld => ?_)
     generalize wc.drew = w23 at HB HR250 hHeld ⊢
     refine pure_ (i := 0) (N := some 26) (v := ?_) (a' := ?_) (bw 6 1) rfl rfl (by kernel_rfl) (fun _ _ _ h => h) (Or.inl ⟨by rfl, ?_⟩) ?_ ?_
     rotate_left
     ·intro w'
      go_simp
      with_reducible rfl
     rotate_left
     ·simp only [Act.put, List.setIfInBounds_toArray, List.set_cons_zero, List.set_cons_succ, i64_w, i32_w]
      rfl
     refine pure_ (i := 2) (N := some 28) (v := ?_) (a' := ?_) (bw 6 5) rfl rfl (by kernel_rfl) (fun _ _ _ h => h) (Or.inl ⟨by rfl, ?_⟩) ?_ ?_
     rotate_left
     ·intro w'
      go_simp
      with_reducible rfl
     rotate_left
     ·simp only [Act.put, List.setIfInBounds_toArray, List.set_cons_zero, List.set_cons_succ, i64_w, i32_w]
      rfl
     refine pure_ (i := 3) (N := some 29) (v := ?_) (a' := ?_) (bw 6 13) rfl rfl (by kernel_rfl) (fun _ _ _ h => h) (Or.inl ⟨by rfl, ?_⟩) ?_ ?_
     rotate_left
     ·intro w'
      go_simp
      with_reducible rfl
     rotate_left
     ·simp only [Act.put, List.setIfInBounds_toArray, List.set_cons_zero, List.set_cons_succ, i64_w, i32_w]
      rfl
     refine pure_ (i := 4) (N := some 30) (v := ?_) (a' := ?_) (bw 6 29) rfl rfl (by kernel_rfl) (fun _ _ _ h => h) (Or.inl ⟨by rfl, ?_⟩) ?_ ?_
     rotate_left
     ·intro w'
      go_simp
      with_reducible rfl
     rotate_left
     ·simp only [Act.put, List.setIfInBounds_toArray, List.set_cons_zero, List.set_cons_succ, i64_w, i32_w]
      rfl
     refine one_ (i := 1) (N := some 27) (bw 6 31) rfl rfl (by kernel_rfl) (by decide) (fun K hK => ?_)
     refine goes_ Try.func30 (by kernel_rfl) rfl #[.int .u64 t246] (by rfl) rfl rfl pL ?_
     with_reducible refine (garnerref02_One.calls kj1 t246 t247 _ A12.out).mono ?_
     rintro e w25 ⟨v248, rfl, ho0, hb⟩
     refine ⟨_, rfl, ?_⟩
     have Af := Am (Kd.R_lower ho0 (below_size (pB HB.out)))
     replace HB := Am (below_step (pB HB.out) hb)
     (try clear hb)
     (try clear hb2)
     (try clear hk)
     (try clear hi)
     (try clear ho0)
     obtain ⟨Aw, Ax, At⟩ := Kd.R_slice Af.out
     (first | subst At | (injection At with f1_ f2_ f3_; have f4_ := f1_.symm; have f5_ := f3_.symm; clear f1_ f2_ f3_; subst f4_; subst f5_))
     refine hK.out _ _ trivial (fun hHeld => ?_)
     clear hK K
     refine norm_ (a' := ?_) ?_ ?_
     rotate_left
     ·show Act.put _ (some 27) _ = _
      simp only [Act.put, List.setIfInBounds_toArray, List.set_cons_zero, List.set_cons_succ, i64_w, i32_w]
      rfl
     refine one_ (i := 5) (N := some 31) (bw 6 63) rfl rfl (by kernel_rfl) (by decide) (fun K hK => ?_)
     refine goes_ Try.func28 (by kernel_rfl) rfl #[.slice Aw t247.length Ax, .slice (some Ac) (l0.take (Aa : Int).toNat).length c0] (by rfl) rfl rfl (by (try simp only [List.map_toArray, List.map_cons, List.map_nil]); first | done | (rw [show (l0.take (Aa : Int).toNat).length = Aa.toNat from (by rw [List.length_take]; have h_ : (Aa : Int) ≤ (l0.length : Int) := of_decide_eq_true pS; omega)] <;> rfl) | rfl | (simp only [List.length_drop, List.length_take]; rfl)) ?_
     with_reducible refine (garnerref02_same.calls kj1 _ _ t247 _ _ (l0.take (Aa : Int).toNat) false _ ?Ad ?Ae ?Ah ?Ai A15.out).mono ?_
     (case Ad => exact pC (Kd.R_reads' Af.out).2.2)
     (case Ae => exact (Kd.R_reads' Af.out).2.1)
     (case Ah => exact pC (Kd.C_below HR250.out HB.out))
     (case Ai => exact HC250.out)
     rintro e w' ⟨rfl, ⟨nd, rfl⟩⟩
     refine ⟨_, rfl, ?_⟩
     refine hK.out _ _ trivial (fun hHeld => ?_)
     clear hK K
     refine norm_ (a' := ?_) ?_ ?_
     rotate_left
     ·show Act.put _ (some 31) _ = _
      simp only [Act.put, List.setIfInBounds_toArray, List.set_cons_zero, List.set_cons_succ, i64_w, i32_w]
      rfl
     refine done_ (by kernel_rfl) ?_
     try go_wp2
     go_ret2
     exact ⟨by first | rfl | (simp [errW_none, errW_some] <;> rfl) | (simp only [← hji5]; first | rfl | (simp [errW_none, errW_some] <;> rfl)) | (simp [*, errW_none, errW_some] <;> rfl), pB HB.out⟩
def garnerref01_bit.l0 : Nat → Int → Int → Int → Option (Int)
 | 0, _, _, _ => none
 | k + 1, x0, x1, x5 => if x5 < x1 then (garnerref01_bit.l0 k ((Int.tdiv x0 2) % 4294967296) x1 (wrap64 (x5 + 1))) else (some (wrap64 (Int.tmod x0 2)))
def garnerref01_bit.f (k : Nat) (a0 : Int) (a1 : Int) : Option (Int) := garnerref01_bit.l0 k a0 a1 0
theorem garnerref01_bit.mono_l : ∀ k, (∀ y0 y1 y2, LeO (garnerref01_bit.l0 k y0 y1 y2) (garnerref01_bit.l0 (k + 1) y0 y1 y2))
 | 0 => fun _ _ _ r h => by simp [garnerref01_bit.l0] at h
 | k + 1 => by
  have ih0 := garnerref01_bit.mono_l k
  ·intro y0 y1 y2
   unfold garnerref01_bit.l0
   repeat' first
   | (with_reducible exact ih0 _ _ _)
   | (with_reducible exact LeO.refl _)
   | (with_reducible exact LeO.none _)
   | (with_reducible refine LeO.ite ?_ ?_)
   | (with_reducible refine LeO.bind ?_ (fun _ => ?_))
   | exact ih0 _ _ _
   | exact LeO.none _
   | refine LeO.ite ?_ ?_
   | refine LeO.bind ?_ (fun _ => ?_)
theorem garnerref01_bit.mono : ∀ a0 a1 k, LeO (garnerref01_bit.f k a0 a1) (garnerref01_bit.f (k + 1) a0 a1) := by
 intro a0 a1 k
 have ih0 := garnerref01_bit.mono_l k
 unfold garnerref01_bit.f
 repeat' first
   | (with_reducible exact ih0 _ _ _)
   | (with_reducible exact LeO.refl _)
   | (with_reducible exact LeO.none _)
   | (with_reducible refine LeO.ite ?_ ?_)
   | (with_reducible refine LeO.bind ?_ (fun _ => ?_))
   | exact ih0 _ _ _
   | exact LeO.none _
   | refine LeO.ite ?_ ?_
   | refine LeO.bind ?_ (fun _ => ?_)
set_option maxHeartbeats 8000000 in
set_option maxRecDepth 100000 in
theorem garnerref01_bit.calls (k : Nat) (a0 : Int) (a1 : Int) (r : Int) (w : World) (h : garnerref01_bit.f k a0 a1 = some r) :
  Calls Try.prog 58 #[.int .u32 a0, .int .i64 a1] w fun e w' => e = .returned (.int .i64 r) ∧ Drawn0 w w' := by
 have H : (garnerref01_bit.l0 k a0 a1 0) = some r := h
 clear h
 have H' := Am H
 clear H
 go_enter Try.func58, Try.ntmps58
 go_wp2
 go_loopg [0, 5] k (fun kq v0 v5 w' => ∃ (x0_1 : Int) (x5_1 : Int), v0 = .int .u32 x0_1 ∧ v5 = .int .i64 x5_1 ∧ Aside0 (garnerref01_bit.l0 kq x0_1 a1 x5_1 = some r) ∧ Aside0 (kq ≤ k) ∧ Drawn0 w w')
 case atStart => exact ⟨(a0), (0), (by first | rfl | (simp; done) | (simp [*]; done)), (by first | rfl | (simp; done) | (simp [*]; done)), H', ⟨Nat.le_refl _⟩, by repeat (first | exact Drawn0.refl _ | apply Drawn0.step)⟩
 case round =>
  clear H'
  try clear p2
  obtain ⟨x0_1, x5_1, rfl, rfl, HA, HK1, ⟨m1, rfl⟩⟩ := hrel
  cases gk with
  | zero => exact absurd HA.out (by simp [garnerref01_bit.l0])
  | succ k1 =>
   have H := HA.out
   clear HA
   simp only [garnerref01_bit.l0] at H
   by_cases c3 : x5_1 < a1
   rotate_left
   ·rw [if_neg c3] at H
    have c3b0 : decide (x5_1 < a1) = false := decide_eq_false c3
    clear c3
    obtain rfl := Option.some.inj H
    go_wp2
    go_ret
    exact ⟨by first | rfl | (simp; done) | (simp [*]; done), by repeat (first | exact Drawn0.refl _ | apply Drawn0.step)⟩
   rw [if_pos c3] at H
   have c3b0 : decide (x5_1 < a1) = true := decide_eq_true c3
   clear c3
   have H' := Am H
   clear H
   go_wp2
   go_roundg k1
   case measure => have := HK1.out; omega
   case rel => exact ⟨((Int.tdiv x0_1 2) % 4294967296), (wrap64 (x5_1 + 1)), (by first | rfl | (simp; done) | (simp [*]; done)), (by first | rfl | (simp; done) | (simp [*]; done)), H', ⟨by have := HK1.out; omega⟩, by repeat (first | exact Drawn0.refl _ | apply Drawn0.step)⟩
end Go.Proofs.Ytjebpaahpehfnaa.PRelayGets
