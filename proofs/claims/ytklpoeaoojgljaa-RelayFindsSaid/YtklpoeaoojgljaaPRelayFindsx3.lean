/- What the law reaches, as plain Lean functions, and that the machine's calls answer just that. -/
import Derived.Test.YtklpoeaoojgljaaPRelayFindsx0
namespace Go.Proofs.Ytklpoeaoojgljaa.PRelayFinds
open Go.RowKit Go.Proofs.YtklpoeaoojgljaaW.PrintWords Go.Proofs.YtklpoeaoojgljaaW.PrintLast Go.Proofs.YtklpoeaoojgljaaW.PrintMore
set_option linter.unusedVariables false
set_option linter.unusedSimpArgs false
section
attribute [local go_sem] max2_int min2_int max_two min_two max_three min_three max_four min_four
attribute [local go_sem] wrap64_l1 wrap64_l2 wrap64_l3 wrap64_l4 wrap64_l5
mutual
def garnerlaw21_light.l0 : Nat → List (S50) → Int → Option (Bool)
 | 0, _, _ => none
 | k + 1, x0, x3 => if x3 < (x0.length : Int) then (garnerlaw21_light.j1 k x0 x3 (decide (x3 ≤ 30))) else (garnerlaw21_light.j1 k x0 x3 false)
def garnerlaw21_light.j1 : Nat → List (S50) → Int → Bool → Option (Bool)
 | 0, _, _, _ => none
 | k + 1, x0, x3, x11 => if x11 = true then (if 0 ≤ x3 then (if x3 < (x0.length : Int) then (if (((rd_T50 x0 x3).f1.f1).length : Int) > 40 then (some false) else (garnerlaw21_light.l0 k x0 (wrap64 (x3 + 1)))) else (none)) else (none)) else (some (decide ((x0.length : Int) ≤ 30)))
end
def garnerlaw21_light.f (k : Nat) (l0 : List (S50)) : Option (Bool) := garnerlaw21_light.l0 k l0 0
theorem garnerlaw21_light.mono_l : ∀ k, (∀ y0 y1, LeO (garnerlaw21_light.l0 k y0 y1) (garnerlaw21_light.l0 (k + 1) y0 y1)) ∧ (∀ y0 y1 y2, LeO (garnerlaw21_light.j1 k y0 y1 y2) (garnerlaw21_light.j1 (k + 1) y0 y1 y2))
 | 0 => ⟨fun _ _ r h => by simp [garnerlaw21_light.l0] at h, fun _ _ _ r h => by simp [garnerlaw21_light.j1] at h⟩
 | k + 1 => by
  obtain ⟨ih0, ih1⟩ := garnerlaw21_light.mono_l k
  refine ⟨?_, ?_⟩
  ·intro y0 y1
   unfold garnerlaw21_light.l0
   repeat' first
   | (with_reducible exact ih0 _ _)
   | (with_reducible exact ih1 _ _ _)
   | (with_reducible exact LeO.refl _)
   | (with_reducible exact LeO.none _)
   | (with_reducible refine LeO.ite ?_ ?_)
   | (with_reducible refine LeO.bind ?_ (fun _ => ?_))
   | exact ih0 _ _
   | exact ih1 _ _ _
   | exact LeO.none _
   | refine LeO.ite ?_ ?_
   | refine LeO.bind ?_ (fun _ => ?_)
  ·intro y0 y1 y2
   unfold garnerlaw21_light.j1
   repeat' first
   | (with_reducible exact ih0 _ _)
   | (with_reducible exact ih1 _ _ _)
   | (with_reducible exact LeO.refl _)
   | (with_reducible exact LeO.none _)
   | (with_reducible refine LeO.ite ?_ ?_)
   | (with_reducible refine LeO.bind ?_ (fun _ => ?_))
   | exact ih0 _ _
   | exact ih1 _ _ _
   | exact LeO.none _
   | refine LeO.ite ?_ ?_
   | refine LeO.bind ?_ (fun _ => ?_)
theorem garnerlaw21_light.mono : ∀ a0 k, LeO (garnerlaw21_light.f k a0) (garnerlaw21_light.f (k + 1) a0) := by
 intro a0 k
 obtain ⟨ih0, ih1⟩ := garnerlaw21_light.mono_l k
 unfold garnerlaw21_light.f
 repeat' first
   | (with_reducible exact ih0 _ _)
   | (with_reducible exact ih1 _ _ _)
   | (with_reducible exact LeO.refl _)
   | (with_reducible exact LeO.none _)
   | (with_reducible refine LeO.ite ?_ ?_)
   | (with_reducible refine LeO.bind ?_ (fun _ => ?_))
   | exact ih0 _ _
   | exact ih1 _ _ _
   | exact LeO.none _
   | refine LeO.ite ?_ ?_
   | refine LeO.bind ?_ (fun _ => ?_)
set_option maxHeartbeats 8000000 in
set_option maxRecDepth 100000 in
theorem garnerlaw21_light.calls (k : Nat) (A0 : Option Addr) (c0 : Nat) (l0 : List (S50)) (r : Bool) (w : World) (hr0 : Kd.C k50 w A0 l0.length l0) (hc0 : l0.length ≤ c0) (h : garnerlaw21_light.f k l0 = some r) :
  Calls Try.prog 5 #[.slice A0 l0.length c0] w fun e w' => e = .returned (.bool r) ∧ Drawn0 w w' := by
 have HR0 := Am hr0
 have HC0 := Am hc0
 clear hr0 hc0
 have H : (garnerlaw21_light.l0 k l0 0) = some r := h
 clear h
 have H' := Am H
 clear H
 go_enter Try.func5, Try.ntmps5
 go_wp2
 go_loopg [3] k (fun kq v3 w' => ∃ (Aa : Int), v3 = .int .i64 Aa ∧ Aside0 (garnerlaw21_light.l0 kq l0 Aa = some r) ∧ Aside0 (kq ≤ k) ∧ Drawn0 w w')
 case atStart => exact ⟨(0), (by first | rfl | (simp; done) | (simp [*]; done)), H', ⟨Nat.le_refl _⟩, by repeat (first | exact Drawn0.refl _ | apply Drawn0.step)⟩
 case round =>
  clear H'
  obtain ⟨Aa, rfl, HA, HK1, ⟨m1, rfl⟩⟩ := hrel
  cases gk with
  | zero => exact absurd HA.out (by simp [garnerlaw21_light.l0])
  | succ k1 =>
   have H := HA.out
   clear HA
   simp only [garnerlaw21_light.l0] at H
   have HC2 := Am H
   clear H
   go_upto_region 2 with (fail)
   go_cut [11] (fun v11 wc => ∃ (kq : Nat) (Ad : Bool), v11 = .bool Ad ∧ Aside0 (garnerlaw21_light.j1 kq l0 Aa Ad = some r) ∧ Aside0 (kq ≤ k1) ∧ Drawn0 w wc)
   case first =>
    have H := HC2.out
    clear HC2
    by_cases c3 : Aa < (l0.length : Int)
    ·rw [if_pos c3] at H
     have c3b0 : decide (Aa < (l0.length : Int)) = true := decide_eq_true c3
     clear c3
     (first | rw [c3b0] | (simp only [i64_w, i32_w]; rw [c3b0]) | skip)
     have H' := Am H
     clear H
     go_wp2
     go_meet
     case rel => exact ⟨_, (decide (Aa ≤ 30)), (by first | rfl | (simp; done) | (simp [*]; done)), H', ⟨by have := HK1.out; first | omega | exact Nat.le_refl _⟩, by repeat (first | exact Drawn0.refl _ | apply Drawn0.step)⟩
    rw [if_neg c3] at H
    have c3b0 : decide (Aa < (l0.length : Int)) = false := decide_eq_false c3
    clear c3
    (first | rw [c3b0] | (simp only [i64_w, i32_w]; rw [c3b0]) | skip)
    have H' := Am H
    clear H
    go_wp2
    go_meet
    case rel => exact ⟨_, (false), (by first | rfl | (simp; done) | (simp [*]; done)), H', ⟨by have := HK1.out; first | omega | exact Nat.le_refl _⟩, by repeat (first | exact Drawn0.refl _ | apply Drawn0.step)⟩
   case rest =>
    clear HC2
    try clear p2
    try clear c3
    try clear c3b0
    obtain ⟨kq, Ad, rfl, HA, HJ1, ⟨mc1, rfl⟩⟩ := hcut
    cases kq with
    | zero => exact absurd HA.out (by simp [garnerlaw21_light.j1])
    | succ kj1 =>
     have H := HA.out
     clear HA
     simp only [garnerlaw21_light.j1] at H
     by_cases c4 : Ad = true
     rotate_left
     ·replace c4 := Bool.eq_false_iff.mpr c4
      subst c4
      have H1 : (some (decide ((l0.length : Int) ≤ 30))) = some r := by rw [if_neg (show ¬ (false = true) by decide)] at H; exact H
      clear H
      have H := H1
      clear H1
      obtain rfl := Option.some.inj H
      go_wp2
      go_ret
      exact ⟨by first | rfl | (simp; done) | (simp [*]; done), by repeat (first | exact Drawn0.refl _ | apply Drawn0.step)⟩
     subst c4
     have H1 : (if 0 ≤ Aa then (if Aa < (l0.length : Int) then (if (((rd_T50 l0 Aa).f1.f1).length : Int) > 40 then (some false) else (garnerlaw21_light.l0 kj1 l0 (wrap64 (Aa + 1)))) else (none)) else (none)) = some r := by rw [if_pos rfl] at H; exact H
     clear H
     have H := H1
     clear H1
     by_cases c5 : 0 ≤ Aa
     rotate_left
     ·rw [if_neg c5] at H
      exact absurd H (by simp)
     rw [if_pos c5] at H
     have c5b0 : decide (0 ≤ Aa) = true := decide_eq_true c5
     clear c5
     by_cases c6 : Aa < (l0.length : Int)
     rotate_left
     ·rw [if_neg c6] at H
      exact absurd H (by simp)
     rw [if_pos c6] at H
     have c6b0 : decide (Aa < (l0.length : Int)) = true := decide_eq_true c6
     clear c6
     by_cases c7 : (((rd_T50 l0 Aa).f1.f1).length : Int) > 40
     ·rw [if_pos c7] at H
      have c7b0 : decide (40 < (((rd_T50 l0 Aa).f1.f1).length : Int)) = true := decide_eq_true c7
      have c7b1 : decide (40 < ((rd_T50 l0 Aa).f1.f1).length) = true := decide_eq_true (by omega)
      clear c7
      obtain rfl := Option.some.inj H
      have p101 : 0 ≤ (Aa : Int) := of_decide_eq_true pS
      have q101 : Aa < (l0.length : Int) := of_decide_eq_true pS
      obtain ⟨Ak, Aj, c101_2, e101, Ae, Af, Ag, Ab, Ac⟩ := at_T50 HR0.out Aa p101 q101
      cases e101
      have Ah := Am Ac
      have Ai := Am Ab
      clear Ac Ab
      replace p101 := eq_true p101
      replace q101 := eq_true q101
      go_wp2
      go_ret
      exact ⟨by first | rfl | (simp; done) | (simp [*]; done), by repeat (first | exact Drawn0.refl _ | apply Drawn0.step)⟩
     rw [if_neg c7] at H
     have c7b0 : decide (40 < (((rd_T50 l0 Aa).f1.f1).length : Int)) = false := decide_eq_false c7
     have c7b1 : decide (40 < ((rd_T50 l0 Aa).f1.f1).length) = false := decide_eq_false (by omega)
     clear c7
     have H' := Am H
     clear H
     have p101 : 0 ≤ (Aa : Int) := of_decide_eq_true pS
     have q101 : Aa < (l0.length : Int) := of_decide_eq_true pS
     obtain ⟨Ak, Aj, c101_2, e101, Ae, Af, Ag, Ab, Ac⟩ := at_T50 HR0.out Aa p101 q101
     cases e101
     have Ah := Am Ac
     have Ai := Am Ab
     clear Ac Ab
     replace p101 := eq_true p101
     replace q101 := eq_true q101
     go_wp2
     go_roundg kj1
     case measure => have := HK1.out; have := HJ1.out; omega
     case rel => exact ⟨(wrap64 (Aa + 1)), (by first | rfl | (simp; done) | (simp [*]; done)), H', ⟨by have := HK1.out; have := HJ1.out; omega⟩, by repeat (first | exact Drawn0.refl _ | apply Drawn0.step)⟩
def garnerref04_May.f (a0_0 : Int) (a0_1 : Int) (a0_2 : Int) (a0_3 : Int) : Option (Bool) := if a0_0 ≥ 1 then (if a0_0 ≤ 2147483647 then (if a0_1 ≥ 0 then (if a0_1 ≤ 2147483647 then (if a0_2 ≥ 0 then (some (decide (a0_2 ≤ 4096))) else (some false)) else (some false)) else (some false)) else (some false)) else (some false)
set_option maxHeartbeats 8000000 in
set_option maxRecDepth 100000 in
theorem garnerref04_May.calls (a0_0 : Int) (a0_1 : Int) (a0_2 : Int) (a0_3 : Int) (r : Bool) (w : World) (h : garnerref04_May.f a0_0 a0_1 a0_2 a0_3 = some r) :
  Calls Try.prog 6 #[.agg #[.int .i64 a0_0, .int .i64 a0_1, .int .i64 a0_2, .int .u32 a0_3]] w fun e w' => e = .returned (.bool r) ∧ Below w.heap.size w w' := by
 have hu25 := Try.underlying25
 have HB := Am (Below.refl w.heap.size w)
 have H : (if a0_0 ≥ 1 then (if a0_0 ≤ 2147483647 then (if a0_1 ≥ 0 then (if a0_1 ≤ 2147483647 then (if a0_2 ≥ 0 then (some (decide (a0_2 ≤ 4096))) else (some false)) else (some false)) else (some false)) else (some false)) else (some false)) = some r := h
 clear h
 by_cases c2 : a0_0 ≥ 1
 rotate_left
 ·rw [if_neg c2] at H
  have c2b0 : decide (1 ≤ a0_0) = false := decide_eq_false c2
  clear c2
  obtain rfl := Option.some.inj H
  go_enter Try.func6, Try.ntmps6
  go_wp2_with (first | ((with_reducible refine gate_dst (N := 1) rfl ?_); refine box_event ?hg (N := 1) ?hd (cs := #[.int .i64 a0_0, .int .i64 a0_1, .int .i64 a0_2, .int .u32 a0_3]) (t := 25) ?hr ?_; (case hd => rfl); (case hg => rfl); (case hr => first | (go_simp; done) | (go_simp; rfl)); intro Ab hg w17 hbox hb; have Aa := Am (hbox); have Ac := Am ((by rw [hg]; exact (below_size (pB HB.out)) : w.heap.size ≤ Ab)); replace HB := Am (below_step (pB HB.out) hb); have Ad := Ac; clear hb hbox hg; obtain ⟨_, _, _, _⟩ := bc4 Aa.out; obtain ⟨_, _, _, _⟩ := bf4 Aa.out))
  go_ret
  exact ⟨pX, pE HB.out Ad.out⟩
 rw [if_pos c2] at H
 have c2b0 : decide (1 ≤ a0_0) = true := decide_eq_true c2
 clear c2
 by_cases c3 : a0_0 ≤ 2147483647
 rotate_left
 ·rw [if_neg c3] at H
  have c3b0 : decide (a0_0 ≤ 2147483647) = false := decide_eq_false c3
  clear c3
  obtain rfl := Option.some.inj H
  go_enter Try.func6, Try.ntmps6
  go_wp2_with (first | ((with_reducible refine gate_dst (N := 1) rfl ?_); refine box_event ?hg (N := 1) ?hd (cs := #[.int .i64 a0_0, .int .i64 a0_1, .int .i64 a0_2, .int .u32 a0_3]) (t := 25) ?hr ?_; (case hd => rfl); (case hg => rfl); (case hr => first | (go_simp; done) | (go_simp; rfl)); intro Ab hg w15 hbox hb; have Aa := Am (hbox); have Ac := Am ((by rw [hg]; exact (below_size (pB HB.out)) : w.heap.size ≤ Ab)); replace HB := Am (below_step (pB HB.out) hb); have Ad := Ac; clear hb hbox hg; obtain ⟨_, _, _, _⟩ := bc4 Aa.out; obtain ⟨_, _, _, _⟩ := bf4 Aa.out))
  go_ret
  exact ⟨pX, pE HB.out Ad.out⟩
 rw [if_pos c3] at H
 have c3b0 : decide (a0_0 ≤ 2147483647) = true := decide_eq_true c3
 clear c3
 by_cases c4 : a0_1 ≥ 0
 rotate_left
 ·rw [if_neg c4] at H
  have c4b0 : decide (0 ≤ a0_1) = false := decide_eq_false c4
  clear c4
  obtain rfl := Option.some.inj H
  go_enter Try.func6, Try.ntmps6
  go_wp2_with (first | ((with_reducible refine gate_dst (N := 1) rfl ?_); refine box_event ?hg (N := 1) ?hd (cs := #[.int .i64 a0_0, .int .i64 a0_1, .int .i64 a0_2, .int .u32 a0_3]) (t := 25) ?hr ?_; (case hd => rfl); (case hg => rfl); (case hr => first | (go_simp; done) | (go_simp; rfl)); intro Ab hg w13 hbox hb; have Aa := Am (hbox); have Ac := Am ((by rw [hg]; exact (below_size (pB HB.out)) : w.heap.size ≤ Ab)); replace HB := Am (below_step (pB HB.out) hb); have Ad := Ac; clear hb hbox hg; obtain ⟨_, _, _, _⟩ := bc4 Aa.out; obtain ⟨_, _, _, _⟩ := bf4 Aa.out))
  go_ret
  exact ⟨pX, pE HB.out Ad.out⟩
 rw [if_pos c4] at H
 have c4b0 : decide (0 ≤ a0_1) = true := decide_eq_true c4
 clear c4
 by_cases c5 : a0_1 ≤ 2147483647
 rotate_left
 ·rw [if_neg c5] at H
  have c5b0 : decide (a0_1 ≤ 2147483647) = false := decide_eq_false c5
  clear c5
  obtain rfl := Option.some.inj H
  go_enter Try.func6, Try.ntmps6
  go_wp2_with (first | ((with_reducible refine gate_dst (N := 1) rfl ?_); refine box_event ?hg (N := 1) ?hd (cs := #[.int .i64 a0_0, .int .i64 a0_1, .int .i64 a0_2, .int .u32 a0_3]) (t := 25) ?hr ?_; (case hd => rfl); (case hg => rfl); (case hr => first | (go_simp; done) | (go_simp; rfl)); intro Ab hg w11 hbox hb; have Aa := Am (hbox); have Ac := Am ((by rw [hg]; exact (below_size (pB HB.out)) : w.heap.size ≤ Ab)); replace HB := Am (below_step (pB HB.out) hb); have Ad := Ac; clear hb hbox hg; obtain ⟨_, _, _, _⟩ := bc4 Aa.out; obtain ⟨_, _, _, _⟩ := bf4 Aa.out))
  go_ret
  exact ⟨pX, pE HB.out Ad.out⟩
 rw [if_pos c5] at H
 have c5b0 : decide (a0_1 ≤ 2147483647) = true := decide_eq_true c5
 clear c5
 by_cases c6 : a0_2 ≥ 0
 ·rw [if_pos c6] at H
  have c6b0 : decide (0 ≤ a0_2) = true := decide_eq_true c6
  clear c6
  obtain rfl := Option.some.inj H
  go_enter Try.func6, Try.ntmps6
  go_wp2_with (first | ((with_reducible refine gate_dst (N := 1) rfl ?_); refine box_event ?hg (N := 1) ?hd (cs := #[.int .i64 a0_0, .int .i64 a0_1, .int .i64 a0_2, .int .u32 a0_3]) (t := 25) ?hr ?_; (case hd => rfl); (case hg => rfl); (case hr => first | (go_simp; done) | (go_simp; rfl)); intro Ab hg w7 hbox hb; have Aa := Am (hbox); have Ac := Am ((by rw [hg]; exact (below_size (pB HB.out)) : w.heap.size ≤ Ab)); replace HB := Am (below_step (pB HB.out) hb); have Ad := Ac; clear hb hbox hg; obtain ⟨_, _, _, _⟩ := bc4 Aa.out; obtain ⟨_, _, _, _⟩ := bf4 Aa.out))
  go_ret
  exact ⟨pX, pE HB.out Ad.out⟩
 rw [if_neg c6] at H
 have c6b0 : decide (0 ≤ a0_2) = false := decide_eq_false c6
 clear c6
 obtain rfl := Option.some.inj H
 go_enter Try.func6, Try.ntmps6
 go_wp2_with (first | ((with_reducible refine gate_dst (N := 1) rfl ?_); refine box_event ?hg (N := 1) ?hd (cs := #[.int .i64 a0_0, .int .i64 a0_1, .int .i64 a0_2, .int .u32 a0_3]) (t := 25) ?hr ?_; (case hd => rfl); (case hg => rfl); (case hr => first | (go_simp; done) | (go_simp; rfl)); intro Ab hg w9 hbox hb; have Aa := Am (hbox); have Ac := Am ((by rw [hg]; exact (below_size (pB HB.out)) : w.heap.size ≤ Ab)); replace HB := Am (below_step (pB HB.out) hb); have Ad := Ac; clear hb hbox hg; obtain ⟨_, _, _, _⟩ := bc4 Aa.out; obtain ⟨_, _, _, _⟩ := bf4 Aa.out))
 go_ret
 exact ⟨pX, pE HB.out Ad.out⟩
def point_Check.f (a0_0 : Int) (a0_1 : Int) (a0_2 : Int) (a0_3 : Int) : Option (Int) := if a0_0 < 1 then (some 1) else (if a0_0 > 2147483647 then (some 1) else (if a0_1 < 0 then (some 1) else (if a0_1 > 2147483647 then (some 1) else (if a0_2 < 0 then (some 1) else (if a0_2 > 4096 then (some 1) else (some 0))))))
set_option maxHeartbeats 8000000 in
set_option maxRecDepth 100000 in
theorem point_Check.calls (a0_0 : Int) (a0_1 : Int) (a0_2 : Int) (a0_3 : Int) (r : Int) (w : World) (h : point_Check.f a0_0 a0_1 a0_2 a0_3 = some r) :
  Calls Try.prog 20 #[.agg #[.int .i64 a0_0, .int .i64 a0_1, .int .i64 a0_2, .int .u32 a0_3]] w fun e w' => e = .returned (.int .i64 r) ∧ Below w.heap.size w w' := by
 have hu25 := Try.underlying25
 have HB := Am (Below.refl w.heap.size w)
 have H : (if a0_0 < 1 then (some 1) else (if a0_0 > 2147483647 then (some 1) else (if a0_1 < 0 then (some 1) else (if a0_1 > 2147483647 then (some 1) else (if a0_2 < 0 then (some 1) else (if a0_2 > 4096 then (some 1) else (some 0))))))) = some r := h
 clear h
 by_cases c2 : a0_0 < 1
 ·rw [if_pos c2] at H
  have c2b0 : decide (a0_0 < 1) = true := decide_eq_true c2
  clear c2
  obtain rfl := Option.some.inj H
  go_enter Try.func20, Try.ntmps20
  go_wp2_with (first | ((with_reducible refine gate_dst (N := 1) rfl ?_); refine box_event ?hg (N := 1) ?hd (cs := #[.int .i64 a0_0, .int .i64 a0_1, .int .i64 a0_2, .int .u32 a0_3]) (t := 25) ?hr ?_; (case hd => rfl); (case hg => rfl); (case hr => first | (go_simp; done) | (go_simp; rfl)); intro Ab hg w3 hbox hb; have Aa := Am (hbox); have Ac := Am ((by rw [hg]; exact (below_size (pB HB.out)) : w.heap.size ≤ Ab)); replace HB := Am (below_step (pB HB.out) hb); have Ad := Ac; clear hb hbox hg; obtain ⟨_, _, _, _⟩ := bc4 Aa.out; obtain ⟨_, _, _, _⟩ := bf4 Aa.out))
  go_ret
  exact ⟨pX, pE HB.out Ad.out⟩
 rw [if_neg c2] at H
 have c2b0 : decide (a0_0 < 1) = false := decide_eq_false c2
 clear c2
 by_cases c5 : a0_0 > 2147483647
 ·rw [if_pos c5] at H
  have c5b0 : decide (2147483647 < a0_0) = true := decide_eq_true c5
  clear c5
  obtain rfl := Option.some.inj H
  go_enter Try.func20, Try.ntmps20
  go_wp2_with (first | ((with_reducible refine gate_dst (N := 1) rfl ?_); refine box_event ?hg (N := 1) ?hd (cs := #[.int .i64 a0_0, .int .i64 a0_1, .int .i64 a0_2, .int .u32 a0_3]) (t := 25) ?hr ?_; (case hd => rfl); (case hg => rfl); (case hr => first | (go_simp; done) | (go_simp; rfl)); intro Ab hg w6 hbox hb; have Aa := Am (hbox); have Ac := Am ((by rw [hg]; exact (below_size (pB HB.out)) : w.heap.size ≤ Ab)); replace HB := Am (below_step (pB HB.out) hb); have Ad := Ac; clear hb hbox hg; obtain ⟨_, _, _, _⟩ := bc4 Aa.out; obtain ⟨_, _, _, _⟩ := bf4 Aa.out))
  go_ret
  exact ⟨pX, pE HB.out Ad.out⟩
 rw [if_neg c5] at H
 have c5b0 : decide (2147483647 < a0_0) = false := decide_eq_false c5
 clear c5
 by_cases c8 : a0_1 < 0
 ·rw [if_pos c8] at H
  have c8b0 : decide (a0_1 < 0) = true := decide_eq_true c8
  clear c8
  obtain rfl := Option.some.inj H
  go_enter Try.func20, Try.ntmps20
  go_wp2_with (first | ((with_reducible refine gate_dst (N := 1) rfl ?_); refine box_event ?hg (N := 1) ?hd (cs := #[.int .i64 a0_0, .int .i64 a0_1, .int .i64 a0_2, .int .u32 a0_3]) (t := 25) ?hr ?_; (case hd => rfl); (case hg => rfl); (case hr => first | (go_simp; done) | (go_simp; rfl)); intro Ab hg w9 hbox hb; have Aa := Am (hbox); have Ac := Am ((by rw [hg]; exact (below_size (pB HB.out)) : w.heap.size ≤ Ab)); replace HB := Am (below_step (pB HB.out) hb); have Ad := Ac; clear hb hbox hg; obtain ⟨_, _, _, _⟩ := bc4 Aa.out; obtain ⟨_, _, _, _⟩ := bf4 Aa.out))
  go_ret
  exact ⟨pX, pE HB.out Ad.out⟩
 rw [if_neg c8] at H
 have c8b0 : decide (a0_1 < 0) = false := decide_eq_false c8
 clear c8
 by_cases c11 : a0_1 > 2147483647
 ·rw [if_pos c11] at H
  have c11b0 : decide (2147483647 < a0_1) = true := decide_eq_true c11
  clear c11
  obtain rfl := Option.some.inj H
  go_enter Try.func20, Try.ntmps20
  go_wp2_with (first | ((with_reducible refine gate_dst (N := 1) rfl ?_); refine box_event ?hg (N := 1) ?hd (cs := #[.int .i64 a0_0, .int .i64 a0_1, .int .i64 a0_2, .int .u32 a0_3]) (t := 25) ?hr ?_; (case hd => rfl); (case hg => rfl); (case hr => first | (go_simp; done) | (go_simp; rfl)); intro Ab hg w12 hbox hb; have Aa := Am (hbox); have Ac := Am ((by rw [hg]; exact (below_size (pB HB.out)) : w.heap.size ≤ Ab)); replace HB := Am (below_step (pB HB.out) hb); have Ad := Ac; clear hb hbox hg; obtain ⟨_, _, _, _⟩ := bc4 Aa.out; obtain ⟨_, _, _, _⟩ := bf4 Aa.out))
  go_ret
  exact ⟨pX, pE HB.out Ad.out⟩
 rw [if_neg c11] at H
 have c11b0 : decide (2147483647 < a0_1) = false := decide_eq_false c11
 clear c11
 by_cases c14 : a0_2 < 0
 ·rw [if_pos c14] at H
  have c14b0 : decide (a0_2 < 0) = true := decide_eq_true c14
  clear c14
  obtain rfl := Option.some.inj H
  go_enter Try.func20, Try.ntmps20
  go_wp2_with (first | ((with_reducible refine gate_dst (N := 1) rfl ?_); refine box_event ?hg (N := 1) ?hd (cs := #[.int .i64 a0_0, .int .i64 a0_1, .int .i64 a0_2, .int .u32 a0_3]) (t := 25) ?hr ?_; (case hd => rfl); (case hg => rfl); (case hr => first | (go_simp; done) | (go_simp; rfl)); intro Ab hg w15 hbox hb; have Aa := Am (hbox); have Ac := Am ((by rw [hg]; exact (below_size (pB HB.out)) : w.heap.size ≤ Ab)); replace HB := Am (below_step (pB HB.out) hb); have Ad := Ac; clear hb hbox hg; obtain ⟨_, _, _, _⟩ := bc4 Aa.out; obtain ⟨_, _, _, _⟩ := bf4 Aa.out))
  go_ret
  exact ⟨pX, pE HB.out Ad.out⟩
 rw [if_neg c14] at H
 have c14b0 : decide (a0_2 < 0) = false := decide_eq_false c14
 clear c14
 by_cases c17 : a0_2 > 4096
 ·rw [if_pos c17] at H
  have c17b0 : decide (4096 < a0_2) = true := decide_eq_true c17
  clear c17
  obtain rfl := Option.some.inj H
  go_enter Try.func20, Try.ntmps20
  go_wp2_with (first | ((with_reducible refine gate_dst (N := 1) rfl ?_); refine box_event ?hg (N := 1) ?hd (cs := #[.int .i64 a0_0, .int .i64 a0_1, .int .i64 a0_2, .int .u32 a0_3]) (t := 25) ?hr ?_; (case hd => rfl); (case hg => rfl); (case hr => first | (go_simp; done) | (go_simp; rfl)); intro Ab hg w18 hbox hb; have Aa := Am (hbox); have Ac := Am ((by rw [hg]; exact (below_size (pB HB.out)) : w.heap.size ≤ Ab)); replace HB := Am (below_step (pB HB.out) hb); have Ad := Ac; clear hb hbox hg; obtain ⟨_, _, _, _⟩ := bc4 Aa.out; obtain ⟨_, _, _, _⟩ := bf4 Aa.out))
  go_ret
  exact ⟨pX, pE HB.out Ad.out⟩
 rw [if_neg c17] at H
 have c17b0 : decide (4096 < a0_2) = false := decide_eq_false c17
 clear c17
 obtain rfl := Option.some.inj H
 go_enter Try.func20, Try.ntmps20
 go_wp2_with (first | ((with_reducible refine gate_dst (N := 1) rfl ?_); refine box_event ?hg (N := 1) ?hd (cs := #[.int .i64 a0_0, .int .i64 a0_1, .int .i64 a0_2, .int .u32 a0_3]) (t := 25) ?hr ?_; (case hd => rfl); (case hg => rfl); (case hr => first | (go_simp; done) | (go_simp; rfl)); intro Ab hg w20 hbox hb; have Aa := Am (hbox); have Ac := Am ((by rw [hg]; exact (below_size (pB HB.out)) : w.heap.size ≤ Ab)); replace HB := Am (below_step (pB HB.out) hb); have Ad := Ac; clear hb hbox hg; obtain ⟨_, _, _, _⟩ := bc4 Aa.out; obtain ⟨_, _, _, _⟩ := bf4 Aa.out))
 go_ret
 exact ⟨pX, pE HB.out Ad.out⟩
mutual
def relay_may.j0 : Nat → Int → List (S37) → Bool → Option (Bool)
 | 0, _, _, _ => none
 | k + 1, x0, x1, x18 => if x18 = true then (some false) else (relay_may.l0 k x0 (-1) x1 (x1.length : Int) 0)
def relay_may.l0 : Nat → Int → Int → List (S37) → Int → Int → Option (Bool)
 | 0, _, _, _, _, _ => none
 | k + 1, x0, x5, x19, x20, x21 => if x21 < x20 then (if 0 ≤ x21 then (if x21 < (x19.length : Int) then (if ((rd_T37 x19 x21).f0) ≤ x5 then (some false) else (if ((rd_T37 x19 x21).f0) > 2147483647 then (some false) else ((point_Check.f ((rd_T37 x19 x21).f1.f0) ((rd_T37 x19 x21).f1.f1) ((rd_T37 x19 x21).f1.f2) ((rd_T37 x19 x21).f1.f3)).bind fun t106 => (if t106 = 0 then (if ((rd_T37 x19 x21).f1.f0) ≤ x0 then (some false) else (relay_may.l0 k x0 ((rd_T37 x19 x21).f0) x19 x20 (wrap64 (x21 + 1)))) else (some false))))) else (none)) else (none)) else (some true)
end
def relay_may.f (k : Nat) (a0 : Int) (l1 : List (S37)) : Option (Bool) := if a0 < 1 then (relay_may.j0 k a0 l1 true) else (if a0 > 2147483647 then (relay_may.j0 k a0 l1 true) else (relay_may.j0 k a0 l1 (decide ((l1.length : Int) > 16384))))
theorem relay_may.mono_l : ∀ k, (∀ y0 y1 y2, LeO (relay_may.j0 k y0 y1 y2) (relay_may.j0 (k + 1) y0 y1 y2)) ∧ (∀ y0 y1 y2 y3 y4, LeO (relay_may.l0 k y0 y1 y2 y3 y4) (relay_may.l0 (k + 1) y0 y1 y2 y3 y4))
 | 0 => ⟨fun _ _ _ r h => by simp [relay_may.j0] at h, fun _ _ _ _ _ r h => by simp [relay_may.l0] at h⟩
 | k + 1 => by
  obtain ⟨ih0, ih1⟩ := relay_may.mono_l k
  refine ⟨?_, ?_⟩
  ·intro y0 y1 y2
   unfold relay_may.j0
   repeat' first
   | (with_reducible exact ih0 _ _ _)
   | (with_reducible exact ih1 _ _ _ _ _)
   | (with_reducible exact LeO.refl _)
   | (with_reducible exact LeO.none _)
   | (with_reducible refine LeO.ite ?_ ?_)
   | (with_reducible refine LeO.bind ?_ (fun _ => ?_))
   | exact ih0 _ _ _
   | exact ih1 _ _ _ _ _
   | exact LeO.none _
   | refine LeO.ite ?_ ?_
   | refine LeO.bind ?_ (fun _ => ?_)
  ·intro y0 y1 y2 y3 y4
   unfold relay_may.l0
   repeat' first
   | (with_reducible exact ih0 _ _ _)
   | (with_reducible exact ih1 _ _ _ _ _)
   | (with_reducible exact LeO.refl _)
   | (with_reducible exact LeO.none _)
   | (with_reducible refine LeO.ite ?_ ?_)
   | (with_reducible refine LeO.bind ?_ (fun _ => ?_))
   | exact ih0 _ _ _
   | exact ih1 _ _ _ _ _
   | exact LeO.none _
   | refine LeO.ite ?_ ?_
   | refine LeO.bind ?_ (fun _ => ?_)
theorem relay_may.mono : ∀ a0 a1 k, LeO (relay_may.f k a0 a1) (relay_may.f (k + 1) a0 a1) := by
 intro a0 a1 k
 obtain ⟨ih0, ih1⟩ := relay_may.mono_l k
 unfold relay_may.f
 repeat' first
   | (with_reducible exact ih0 _ _ _)
   | (with_reducible exact ih1 _ _ _ _ _)
   | (with_reducible exact LeO.refl _)
   | (with_reducible exact LeO.none _)
   | (with_reducible refine LeO.ite ?_ ?_)
   | (with_reducible refine LeO.bind ?_ (fun _ => ?_))
   | exact ih0 _ _ _
   | exact ih1 _ _ _ _ _
   | exact LeO.none _
   | refine LeO.ite ?_ ?_
   | refine LeO.bind ?_ (fun _ => ?_)
set_option maxHeartbeats 8000000 in
set_option maxRecDepth 100000 in
theorem relay_may.calls (k : Nat) (a0 : Int) (A1 : Option Addr) (c1 : Nat) (l1 : List (S37)) (r : Bool) (w : World) (hr1 : Kd.C k37 w A1 l1.length l1) (hc1 : l1.length ≤ c1) (h : relay_may.f k a0 l1 = some r) :
  Calls Try.prog 24 #[.int .i64 a0, .slice A1 l1.length c1] w fun e w' => e = .returned (.bool r) ∧ Below w.heap.size w w' := by
 have hu37 := Try.underlying37
 have hu25 := Try.underlying25
 have HR1 := Am hr1
 have HC1 := Am hc1
 clear hr1 hc1
 have HB := Am (Below.refl w.heap.size w)
 have H : (if a0 < 1 then (relay_may.j0 k a0 l1 true) else (if a0 > 2147483647 then (relay_may.j0 k a0 l1 true) else (relay_may.j0 k a0 l1 (decide ((l1.length : Int) > 16384))))) = some r := h
 clear h
 have HC3 := Am H
 clear H
 go_enter Try.func24, Try.ntmps24
 go_upto_region 1 with (fail)
 go_cut [18] (fun v18 wc => ∃ (kq : Nat) (Ak : Bool), v18 = .bool Ak ∧ Aside0 (relay_may.j0 kq a0 l1 Ak = some r) ∧ Aside0 (kq ≤ k) ∧ Aside0 (Below w.heap.size w wc))
 case first =>
  have H := HC3.out
  clear HC3
  by_cases c4 : a0 < 1
  ·rw [if_pos c4] at H
   have c4b0 : decide (a0 < 1) = true := decide_eq_true c4
   clear c4
   (first | rw [c4b0] | (simp only [i64_w, i32_w]; rw [c4b0]) | skip)
   have H' := Am H
   clear H
   go_wp2
   go_meet
   case rel => exact ⟨_, (true), (by first | rfl | (simp; done) | (simp [*]; done)), H', ⟨by first | omega | exact Nat.le_refl _⟩, ⟨pB HB.out⟩⟩
  rw [if_neg c4] at H
  have c4b0 : decide (a0 < 1) = false := decide_eq_false c4
  clear c4
  (first | rw [c4b0] | (simp only [i64_w, i32_w]; rw [c4b0]) | skip)
  by_cases c5 : a0 > 2147483647
  ·rw [if_pos c5] at H
   have c5b0 : decide (2147483647 < a0) = true := decide_eq_true c5
   clear c5
   have H' := Am H
   clear H
   go_wp2
   go_meet
   case rel => exact ⟨_, (true), (by first | rfl | (simp; done) | (simp [*]; done)), H', ⟨by first | omega | exact Nat.le_refl _⟩, ⟨pB HB.out⟩⟩
  rw [if_neg c5] at H
  have c5b0 : decide (2147483647 < a0) = false := decide_eq_false c5
  clear c5
  have H' := Am H
  clear H
  go_wp2
  go_meet
  case rel => exact ⟨_, (decide ((l1.length : Int) > 16384)), (by first | rfl | (simp; done) | (simp [*]; done)), H', ⟨by first | omega | exact Nat.le_refl _⟩, ⟨pB HB.out⟩⟩
 case rest =>
  clear HC3
  try clear c1
  try clear c2
  try clear p2
  try clear c4
  try clear c4b0
  try clear c5
  try clear c5b0
  obtain ⟨kq, Ak, rfl, HA, HJ2, HB⟩ := hcut
  cases kq with
  | zero => exact absurd HA.out (by simp [relay_may.j0])
  | succ kj2 =>
   have H := HA.out
   clear HA
   simp only [relay_may.j0] at H
   by_cases c6 : Ak = true
   ·subst c6
    have H1 : (some false) = some r := by rw [if_pos rfl] at H; exact H
    clear H
    have H := H1
    clear H1
    obtain rfl := Option.some.inj H
    go_wp2
    go_ret
    exact ⟨pX, pB HB.out⟩
   replace c6 := Bool.eq_false_iff.mpr c6
   subst c6
   have H1 : (relay_may.l0 kj2 a0 (-1) l1 (l1.length : Int) 0) = some r := by rw [if_neg (show ¬ (false = true) by decide)] at H; exact H
   clear H
   have H := H1
   clear H1
   have H' := Am H
   clear H
   go_wp2
   go_loopg [5, 21] kj2 (fun kq v5 v21 w' => ∃ (An : Int) (Aa : Int), v5 = .int .i64 An ∧ v21 = .int .i64 Aa ∧ Aside0 (relay_may.l0 kq a0 An l1 (l1.length : Int) Aa = some r) ∧ Aside0 (kq ≤ kj2) ∧ Aside0 (Below w.heap.size w w'))
   case atStart => exact ⟨((-1)), (0), (by first | rfl | (simp; done) | (simp [*]; done)), (by first | rfl | (simp; done) | (simp [*]; done)), H', ⟨Nat.le_refl _⟩, ⟨pB HB.out⟩⟩
   case round =>
    clear H'
    try clear c1
    try clear c2
    try clear p2
    try clear c4
    try clear c4b0
    try clear c5
    try clear c5b0
    try clear c6
    try clear p2
    obtain ⟨An, Aa, rfl, rfl, HA, HK2, HB⟩ := hrel
    cases gk with
    | zero => exact absurd HA.out (by simp [relay_may.l0])
    | succ k2 =>
     have H := HA.out
     clear HA
     simp only [relay_may.l0] at H
     by_cases c7 : Aa < (l1.length : Int)
     rotate_left
     ·rw [if_neg c7] at H
      have c7b0 : decide (Aa < (l1.length : Int)) = false := decide_eq_false c7
      clear c7
      obtain rfl := Option.some.inj H
      go_wp2
      go_ret
      exact ⟨pX, pB HB.out⟩
     rw [if_pos c7] at H
     have c7b0 : decide (Aa < (l1.length : Int)) = true := decide_eq_true c7
     clear c7
     by_cases c8 : 0 ≤ Aa
     rotate_left
     ·rw [if_neg c8] at H
      exact absurd H (by simp)
     rw [if_pos c8] at H
     have c8b0 : decide (0 ≤ Aa) = true := decide_eq_true c8
     clear c8
     by_cases c9 : Aa < (l1.length : Int)
     rotate_left
     ·rw [if_neg c9] at H
      exact absurd H (by simp)
     rw [if_pos c9] at H
     have c9b0 : decide (Aa < (l1.length : Int)) = true := decide_eq_true c9
     clear c9
     by_cases c10 : ((rd_T37 l1 Aa).f0) ≤ An
     ·rw [if_pos c10] at H
      have c10b0 : decide (((rd_T37 l1 Aa).f0) ≤ An) = true := decide_eq_true c10
      clear c10
      obtain rfl := Option.some.inj H
      have p104 : 0 ≤ (Aa : Int) := of_decide_eq_true pS
      have q104 : Aa < (l1.length : Int) := of_decide_eq_true pS
      obtain ⟨Al, e104, Af, Ag, Ah, Ai, Aj⟩ := at_T37u HR1.out Aa p104 q104 HB.out
      cases e104
      replace p104 := eq_true p104
      replace q104 := eq_true q104
      go_wp2_with (first | ((with_reducible refine gate_dst (N := 7) rfl ?_); (try (refine gate_guard (by rfl) ?_; dsimp only)); refine box_event ?hg (N := 7) ?hd (cs := #[.int .i64 0, .int .i64 0, .int .i64 0, .int .i64 0, .int .u32 0]) (t := 37) ?hr ?_; (case hd => rfl); (case hg => rfl); (case hr => first | (go_simp; done) | (go_simp; rfl)); intro Ac hg w11 hbox hb; have Ab := Am (hbox); have Ae := Am ((by rw [hg]; exact (below_size (pB HB.out)) : w.heap.size ≤ Ac)); replace HB := Am (below_step (pB HB.out) hb); have Ad := Ae; clear hb hbox hg; obtain ⟨_, _, _, _, _⟩ := bc5 Ab.out; obtain ⟨_, _, _, _, _⟩ := bf5 Ab.out))
      go_ret
      exact ⟨pX, pE HB.out Ad.out⟩
     rw [if_neg c10] at H
     have c10b0 : decide (((rd_T37 l1 Aa).f0) ≤ An) = false := decide_eq_false c10
     clear c10
     by_cases c13 : ((rd_T37 l1 Aa).f0) > 2147483647
     ·rw [if_pos c13] at H
      have c13b0 : decide (2147483647 < ((rd_T37 l1 Aa).f0)) = true := decide_eq_true c13
      clear c13
      obtain rfl := Option.some.inj H
      have p104 : 0 ≤ (Aa : Int) := of_decide_eq_true pS
      have q104 : Aa < (l1.length : Int) := of_decide_eq_true pS
      obtain ⟨Al, e104, Af, Ag, Ah, Ai, Aj⟩ := at_T37u HR1.out Aa p104 q104 HB.out
      cases e104
      replace p104 := eq_true p104
      replace q104 := eq_true q104
      go_wp2_with (first | ((with_reducible refine gate_dst (N := 7) rfl ?_); (try (refine gate_guard (by rfl) ?_; dsimp only)); refine box_event ?hg (N := 7) ?hd (cs := #[.int .i64 0, .int .i64 0, .int .i64 0, .int .i64 0, .int .u32 0]) (t := 37) ?hr ?_; (case hd => rfl); (case hg => rfl); (case hr => first | (go_simp; done) | (go_simp; rfl)); intro Ac hg w14 hbox hb; have Ab := Am (hbox); have Ae := Am ((by rw [hg]; exact (below_size (pB HB.out)) : w.heap.size ≤ Ac)); replace HB := Am (below_step (pB HB.out) hb); have Ad := Ae; clear hb hbox hg; obtain ⟨_, _, _, _, _⟩ := bc5 Ab.out; obtain ⟨_, _, _, _, _⟩ := bf5 Ab.out))
      go_ret
      exact ⟨pX, pE HB.out Ad.out⟩
     rw [if_neg c13] at H
     have c13b0 : decide (2147483647 < ((rd_T37 l1 Aa).f0)) = false := decide_eq_false c13
     clear c13
     replace H := Option.bind_eq_some_iff.mp H
     obtain ⟨t106, A160, H⟩ := H
     replace H : (if t106 = 0 then (if ((rd_T37 l1 Aa).f1.f0) ≤ a0 then (some false) else (relay_may.l0 k2 a0 ((rd_T37 l1 Aa).f0) l1 (l1.length : Int) (wrap64 (Aa + 1)))) else (some false)) = some r := H
     have A16 := Am A160
     clear A160
     by_cases c17 : t106 = 0
     rotate_left
     ·rw [if_neg c17] at H
      have c17b0 : (t106 == 0) = false := beq_eq_false_iff_ne.mpr c17
      have c17b1 : (t106 != 0) = true := bne_iff_ne.mpr c17
      obtain rfl := Option.some.inj H
      have p104 : 0 ≤ (Aa : Int) := of_decide_eq_true pS
      have q104 : Aa < (l1.length : Int) := of_decide_eq_true pS
      obtain ⟨Al, e104, Af, Ag, Ah, Ai, Aj⟩ := at_T37u HR1.out Aa p104 q104 HB.out
      cases e104
      replace p104 := eq_true p104
      replace q104 := eq_true q104
      go_wp2_with (first | ((with_reducible refine gate_dst (N := 7) rfl ?_); (try (refine gate_guard (by rfl) ?_; dsimp only)); refine box_event ?hg (N := 7) ?hd (cs := #[.int .i64 0, .int .i64 0, .int .i64 0, .int .i64 0, .int .u32 0]) (t := 37) ?hr ?_; (case hd => rfl); (case hg => rfl); (case hr => first | (go_simp; done) | (go_simp; rfl)); intro Ac hg w27 hbox hb; have Ab := Am (hbox); have Ae := Am ((by rw [hg]; exact (below_size (pB HB.out)) : w.heap.size ≤ Ac)); replace HB := Am (below_step (pB HB.out) hb); have Ad := Ae; clear hb hbox hg; obtain ⟨_, _, _, _, _⟩ := bc5 Ab.out; obtain ⟨_, _, _, _, _⟩ := bf5 Ab.out) | (go_at_call 20; (with_reducible refine (point_Check.calls ((rd_T37 l1 Aa).f1.f0) ((rd_T37 l1 Aa).f1.f1) ((rd_T37 l1 Aa).f1.f2) ((rd_T37 l1 Aa).f1.f3) t106 _ A16.out).mono ?_); rintro e w29 ⟨rfl, hb⟩; replace Ab := Am (blk_below (g := Ac) (kX0 Ab.out) hb); replace HB := Am (below_step (pE HB.out Ad.out) hb); (try clear hb); (try clear hb2); (try clear hk); (try clear hi)))
      go_ret
      exact ⟨pX, pE HB.out Ad.out⟩
     rw [if_pos c17] at H
     have c17b0 : (t106 == 0) = true := beq_iff_eq.mpr c17
     have c17b1 : (t106 != 0) = false := bne_eq_false_iff_eq.mpr c17
     clear c17
     by_cases c18 : ((rd_T37 l1 Aa).f1.f0) ≤ a0
     ·rw [if_pos c18] at H
      have c18b0 : decide (((rd_T37 l1 Aa).f1.f0) ≤ a0) = true := decide_eq_true c18
      clear c18
      obtain rfl := Option.some.inj H
      have p104 : 0 ≤ (Aa : Int) := of_decide_eq_true pS
      have q104 : Aa < (l1.length : Int) := of_decide_eq_true pS
      obtain ⟨Al, e104, Af, Ag, Ah, Ai, Aj⟩ := at_T37u HR1.out Aa p104 q104 HB.out
      cases e104
      replace p104 := eq_true p104
      replace q104 := eq_true q104
      go_wp2_with (first | ((with_reducible refine gate_dst (N := 7) rfl ?_); (try (refine gate_guard (by rfl) ?_; dsimp only)); refine box_event ?hg (N := 7) ?hd (cs := #[.int .i64 0, .int .i64 0, .int .i64 0, .int .i64 0, .int .u32 0]) (t := 37) ?hr ?_; (case hd => rfl); (case hg => rfl); (case hr => first | (go_simp; done) | (go_simp; rfl)); intro Ac hg w19 hbox hb; have Ab := Am (hbox); have Ae := Am ((by rw [hg]; exact (below_size (pB HB.out)) : w.heap.size ≤ Ac)); replace HB := Am (below_step (pB HB.out) hb); have Ad := Ae; clear hb hbox hg; obtain ⟨_, _, _, _, _⟩ := bc5 Ab.out; obtain ⟨_, _, _, _, _⟩ := bf5 Ab.out) | (go_at_call 20; (with_reducible refine (point_Check.calls ((rd_T37 l1 Aa).f1.f0) ((rd_T37 l1 Aa).f1.f1) ((rd_T37 l1 Aa).f1.f2) ((rd_T37 l1 Aa).f1.f3) t106 _ A16.out).mono ?_); rintro e w21 ⟨rfl, hb⟩; replace Ab := Am (blk_below (g := Ac) (kX0 Ab.out) hb); replace HB := Am (below_step (pE HB.out Ad.out) hb); (try clear hb); (try clear hb2); (try clear hk); (try clear hi); obtain ⟨_, _, _, _, _⟩ := bc5 Ab.out; obtain ⟨_, _, _, _, _⟩ := bf5 Ab.out))
      go_ret
      exact ⟨pX, pE HB.out Ad.out⟩
     rw [if_neg c18] at H
     have c18b0 : decide (((rd_T37 l1 Aa).f1.f0) ≤ a0) = false := decide_eq_false c18
     clear c18
     have H' := Am H
     clear H
     have p104 : 0 ≤ (Aa : Int) := of_decide_eq_true pS
     have q104 : Aa < (l1.length : Int) := of_decide_eq_true pS
     obtain ⟨Al, e104, Af, Ag, Ah, Ai, Aj⟩ := at_T37u HR1.out Aa p104 q104 HB.out
     cases e104
     replace p104 := eq_true p104
     replace q104 := eq_true q104
     go_wp2_with (first | ((with_reducible refine gate_dst (N := 7) rfl ?_); (try (refine gate_guard (by rfl) ?_; dsimp only)); refine box_event ?hg (N := 7) ?hd (cs := #[.int .i64 0, .int .i64 0, .int .i64 0, .int .i64 0, .int .u32 0]) (t := 37) ?hr ?_; (case hd => rfl); (case hg => rfl); (case hr => first | (go_simp; done) | (go_simp; rfl)); intro Ac hg w23 hbox hb; have Ab := Am (hbox); have Ae := Am ((by rw [hg]; exact (below_size (pB HB.out)) : w.heap.size ≤ Ac)); replace HB := Am (below_step (pB HB.out) hb); have Ad := Ae; clear hb hbox hg; obtain ⟨_, _, _, _, _⟩ := bc5 Ab.out; obtain ⟨_, _, _, _, _⟩ := bf5 Ab.out) | (go_at_call 20; (with_reducible refine (point_Check.calls ((rd_T37 l1 Aa).f1.f0) ((rd_T37 l1 Aa).f1.f1) ((rd_T37 l1 Aa).f1.f2) ((rd_T37 l1 Aa).f1.f3) t106 _ A16.out).mono ?_); rintro e w25 ⟨rfl, hb⟩; replace Ab := Am (blk_below (g := Ac) (kX0 Ab.out) hb); replace HB := Am (below_step (pE HB.out Ad.out) hb); (try clear hb); (try clear hb2); (try clear hk); (try clear hi); obtain ⟨_, _, _, _, _⟩ := bc5 Ab.out; obtain ⟨_, _, _, _, _⟩ := bf5 Ab.out))
     go_roundg k2
     case measure => have := HJ2.out; have := HK2.out; omega
     case rel => exact ⟨((rd_T37 l1 Aa).f0), (wrap64 (Aa + 1)), (by first | rfl | (simp; done) | (simp [*]; done)), (by first | rfl | (simp; done) | (simp [*]; done)), H', ⟨by have := HJ2.out; have := HK2.out; omega⟩, ⟨pE HB.out Ad.out⟩⟩
def garnerref21_at.l0 : Nat → List (S35) → Int → Int → Option (Int)
 | 0, _, _, _ => none
 | k + 1, x0, x1, x5 => if x5 < (x0.length : Int) then (if 0 ≤ x5 then (if ((rd_T35 x0 x5).f0) = x1 then (some x5) else (garnerref21_at.l0 k x0 x1 (wrap64 (x5 + 1)))) else (none)) else (some (-1))
def garnerref21_at.f (k : Nat) (l0 : List (S35)) (a1 : Int) : Option (Int) := garnerref21_at.l0 k l0 a1 0
theorem garnerref21_at.mono_l : ∀ k, (∀ y0 y1 y2, LeO (garnerref21_at.l0 k y0 y1 y2) (garnerref21_at.l0 (k + 1) y0 y1 y2))
 | 0 => fun _ _ _ r h => by simp [garnerref21_at.l0] at h
 | k + 1 => by
  have ih0 := garnerref21_at.mono_l k
  ·intro y0 y1 y2
   unfold garnerref21_at.l0
   repeat' first
   | (with_reducible exact ih0 _ _ _)
   | (with_reducible exact LeO.refl _)
   | (with_reducible exact LeO.none _)
   | (with_reducible refine LeO.ite ?_ ?_)
   | (with_reducible refine LeO.bind ?_ (fun _ => ?_))
   | exact ih0 _ _ _
   | exact LeO.none _
   | refine LeO.ite ?_ ?_
   | refine LeO.bind ?_ (fun _ => ?_)
theorem garnerref21_at.mono : ∀ a0 a1 k, LeO (garnerref21_at.f k a0 a1) (garnerref21_at.f (k + 1) a0 a1) := by
 intro a0 a1 k
 have ih0 := garnerref21_at.mono_l k
 unfold garnerref21_at.f
 repeat' first
   | (with_reducible exact ih0 _ _ _)
   | (with_reducible exact LeO.refl _)
   | (with_reducible exact LeO.none _)
   | (with_reducible refine LeO.ite ?_ ?_)
   | (with_reducible refine LeO.bind ?_ (fun _ => ?_))
   | exact ih0 _ _ _
   | exact LeO.none _
   | refine LeO.ite ?_ ?_
   | refine LeO.bind ?_ (fun _ => ?_)
set_option maxHeartbeats 8000000 in
set_option maxRecDepth 100000 in
theorem garnerref21_at.calls (k : Nat) (A0 : Option Addr) (c0 : Nat) (l0 : List (S35)) (a1 : Int) (r : Int) (w : World) (hr0 : Kd.C k35 w A0 l0.length l0) (hc0 : l0.length ≤ c0) (h : garnerref21_at.f k l0 a1 = some r) :
  Calls Try.prog 23 #[.slice A0 l0.length c0, .int .i64 a1] w fun e w' => e = .returned (.int .i64 r) ∧ Drawn0 w w' := by
 have HR0 := Am hr0
 have HC0 := Am hc0
 clear hr0 hc0
 have H : (garnerref21_at.l0 k l0 a1 0) = some r := h
 clear h
 have H' := Am H
 clear H
 go_enter Try.func23, Try.ntmps23
 go_wp2
 go_loopg [5] k (fun kq v5 w' => ∃ (Aa : Int), v5 = .int .i64 Aa ∧ Aside0 (garnerref21_at.l0 kq l0 a1 Aa = some r) ∧ Aside0 (kq ≤ k) ∧ Drawn0 w w')
 case atStart => exact ⟨(0), (by first | rfl | (simp; done) | (simp [*]; done)), H', ⟨Nat.le_refl _⟩, by repeat (first | exact Drawn0.refl _ | apply Drawn0.step)⟩
 case round =>
  clear H'
  try clear c2
  try clear p2
  obtain ⟨Aa, rfl, HA, HK1, ⟨m1, rfl⟩⟩ := hrel
  cases gk with
  | zero => exact absurd HA.out (by simp [garnerref21_at.l0])
  | succ k1 =>
   have H := HA.out
   clear HA
   simp only [garnerref21_at.l0] at H
   by_cases c3 : Aa < (l0.length : Int)
   rotate_left
   ·rw [if_neg c3] at H
    have c3b0 : decide (Aa < (l0.length : Int)) = false := decide_eq_false c3
    clear c3
    obtain rfl := Option.some.inj H
    go_wp2
    go_ret
    exact ⟨by first | rfl | (simp; done) | (simp [*]; done), by repeat (first | exact Drawn0.refl _ | apply Drawn0.step)⟩
   rw [if_pos c3] at H
   have c3b0 : decide (Aa < (l0.length : Int)) = true := decide_eq_true c3
   clear c3
   by_cases c4 : 0 ≤ Aa
   rotate_left
   ·rw [if_neg c4] at H
    exact absurd H (by simp)
   rw [if_pos c4] at H
   have c4b0 : decide (0 ≤ Aa) = true := decide_eq_true c4
   clear c4
   by_cases c5 : ((rd_T35 l0 Aa).f0) = a1
   ·rw [if_pos c5] at H
    have c5b0 : (((rd_T35 l0 Aa).f0) == a1) = true := beq_iff_eq.mpr c5
    have c5b1 : (((rd_T35 l0 Aa).f0) != a1) = false := bne_eq_false_iff_eq.mpr c5
    clear c5
    obtain rfl := Option.some.inj H
    have p107 : 0 ≤ (Aa : Int) := of_decide_eq_true pS
    have q107 : Aa < (l0.length : Int) := of_decide_eq_true pS
    obtain ⟨Ai, Ah, c107_1, e107, Ad, Ae, Ab, Ac⟩ := at_T35 HR0.out Aa p107 q107
    cases e107
    have Af := Am Ac
    have Ag := Am Ab
    clear Ac Ab
    replace p107 := eq_true p107
    replace q107 := eq_true q107
    go_wp2
    go_ret
    exact ⟨by first | rfl | (simp; done) | (simp [*]; done), by repeat (first | exact Drawn0.refl _ | apply Drawn0.step)⟩
   rw [if_neg c5] at H
   have c5b0 : (((rd_T35 l0 Aa).f0) == a1) = false := beq_eq_false_iff_ne.mpr c5
   have c5b1 : (((rd_T35 l0 Aa).f0) != a1) = true := bne_iff_ne.mpr c5
   have H' := Am H
   clear H
   have p107 : 0 ≤ (Aa : Int) := of_decide_eq_true pS
   have q107 : Aa < (l0.length : Int) := of_decide_eq_true pS
   obtain ⟨Ai, Ah, c107_1, e107, Ad, Ae, Ab, Ac⟩ := at_T35 HR0.out Aa p107 q107
   cases e107
   have Af := Am Ac
   have Ag := Am Ab
   clear Ac Ab
   replace p107 := eq_true p107
   replace q107 := eq_true q107
   go_wp2
   go_roundg k1
   case measure => have := HK1.out; omega
   case rel => exact ⟨(wrap64 (Aa + 1)), (by first | rfl | (simp; done) | (simp [*]; done)), H', ⟨by have := HK1.out; omega⟩, by repeat (first | exact Drawn0.refl _ | apply Drawn0.step)⟩
end
section
attribute [local go_sem] max2_int min2_int max_two min_two max_three min_three max_four min_four
attribute [local go_sem] wrap64_l1 wrap64_l2 wrap64_l3 wrap64_l4 wrap64_l5
def garnerref21_Drop.f (k : Nat) (l0 : List (S35)) (a1 : Int) : Option ((List (S35)) × Bool) := (garnerref21_at.f k l0 a1).bind fun t108 => (if t108 < 0 then (some (l0, false)) else ((some (([] : List (S35)) : List (S35))).bind fun y109 => (if 0 ≤ t108 then (if t108 ≤ (l0.length : Int) then ((some (l0.take (t108 : Int).toNat : List (S35))).bind fun y112 => (if y109.length + y112.length < 4398046511104 then ((some (y109 ++ y112 : List (S35))).bind fun y117 => (if 0 ≤ (wrap64 (t108 + 1)) then (if (wrap64 (t108 + 1)) ≤ (l0.length : Int) then ((some (l0.drop ((wrap64 (t108 + 1)) : Int).toNat : List (S35))).bind fun y120 => (if y117.length + y120.length < 4398046511104 then (some ((y117 ++ y120), true)) else (none))) else (none)) else (none))) else (none))) else (none)) else (none))))
theorem garnerref21_Drop.mono : ∀ a0 a1 k, LeO (garnerref21_Drop.f k a0 a1) (garnerref21_Drop.f (k + 1) a0 a1) := by
 intro a0 a1 k
 unfold garnerref21_Drop.f
 repeat' first
   | (with_reducible exact garnerref21_at.mono _ _ _)
   | (with_reducible exact LeO.refl _)
   | (with_reducible exact LeO.none _)
   | (with_reducible refine LeO.ite ?_ ?_)
   | (with_reducible refine LeO.bind ?_ (fun _ => ?_))
   | exact garnerref21_at.mono _ _ _
   | exact LeO.none _
   | refine LeO.ite ?_ ?_
   | refine LeO.bind ?_ (fun _ => ?_)
def garnerref21_Drop.T4 : Bool × List (List Nat × List Nat) := (true, [([], []), ([], []), ([], []), ([1, 2], [1, 2]), ([0, 3], [0, 3]), ([], []), ([], []), ([6], [6]), ([5, 7], [5, 7]), ([4, 8, 4], [4, 8]), ([9, 9, 0, 1, 2, 3, 4, 5, 6, 7, 8, 9], [9]), ([10, 0, 1, 2, 3, 4, 5, 6, 7, 8, 9, 10], [])])
def garnerref21_Drop.B4 : List Nat := [0, 0, 0, 6, 15, 0, 0, 64, 224, 511, 1023, 2047]
theorem garnerref21_Drop.tab4 : rtab .any (opsOf Try.f16 4) = garnerref21_Drop.T4 := by kernel_rfl
theorem garnerref21_Drop.bits4 : waitsOk garnerref21_Drop.T4.2 garnerref21_Drop.B4 = true := by kernel_rfl
set_option maxHeartbeats 8000000 in
set_option maxRecDepth 100000 in
theorem garnerref21_Drop.calls (k : Nat) (P0_ : Nat → Prop) (A0 : Option Addr) (c0 : Nat) (l0 : List (S35)) (a1 : Int) (r1 : List (S35)) (r2 : Bool) (w : World) (hs0 : Kd.V k35 35 w w.heap.size (fun k_ => P0_ k_) (.slice A0 l0.length c0) l0) (h : garnerref21_Drop.f k l0 a1 = some (r1, r2)) :
  Calls Try.prog 16 #[.slice A0 l0.length c0, .int .i64 a1] w fun e w' => ∃ v0_ : Value, e = .returned (.tuple #[v0_, .bool r2]) ∧ Kd.V k35 35 w' w.heap.size (fun k_ => (P0_ k_ ∨ w.heap.size ≤ k_)) v0_ r1 ∧ Below w.heap.size w w' := by
 have Ad := Am (show Kd.V k35 35 w w.heap.size (fun k_ => (P0_ k_ ∨ w.heap.size ≤ k_)) (.slice A0 l0.length c0) l0 from Kd.V_mono hs0 (fun k_ hk => .inl hk))
 have HB := Am (Below.refl w.heap.size w)
 have H : ((garnerref21_at.f k l0 a1).bind fun t108 => (if t108 < 0 then (some (l0, false)) else ((some (([] : List (S35)) : List (S35))).bind fun y109 => (if 0 ≤ t108 then (if t108 ≤ (l0.length : Int) then ((some (l0.take (t108 : Int).toNat : List (S35))).bind fun y112 => (if y109.length + y112.length < 4398046511104 then ((some (y109 ++ y112 : List (S35))).bind fun y117 => (if 0 ≤ (wrap64 (t108 + 1)) then (if (wrap64 (t108 + 1)) ≤ (l0.length : Int) then ((some (l0.drop ((wrap64 (t108 + 1)) : Int).toNat : List (S35))).bind fun y120 => (if y117.length + y120.length < 4398046511104 then (some ((y117 ++ y120), true)) else (none))) else (none)) else (none))) else (none))) else (none)) else (none))))) = some (r1, r2) := h
 clear h
 replace H := Option.bind_eq_some_iff.mp H
 obtain ⟨t108, A30, H⟩ := H
 replace H : (if t108 < 0 then (some (l0, false)) else ((some (([] : List (S35)) : List (S35))).bind fun y109 => (if 0 ≤ t108 then (if t108 ≤ (l0.length : Int) then ((some (l0.take (t108 : Int).toNat : List (S35))).bind fun y112 => (if y109.length + y112.length < 4398046511104 then ((some (y109 ++ y112 : List (S35))).bind fun y117 => (if 0 ≤ (wrap64 (t108 + 1)) then (if (wrap64 (t108 + 1)) ≤ (l0.length : Int) then ((some (l0.drop ((wrap64 (t108 + 1)) : Int).toNat : List (S35))).bind fun y120 => (if y117.length + y120.length < 4398046511104 then (some ((y117 ++ y120), true)) else (none))) else (none)) else (none))) else (none))) else (none)) else (none)))) = some (r1, r2) := H
 have A3 := Am A30
 clear A30
 by_cases c4 : t108 < 0
 ·rw [if_pos c4] at H
  have c4b0 : decide (t108 < 0) = true := decide_eq_true c4
  clear c4
  simp only [Option.some.injEq, Prod.mk.injEq] at H
  obtain ⟨rfl, rfl⟩ := H
  go_enter Try.func16, Try.ntmps16
  go_wp2_with (first | ((with_reducible refine gate_callee (f := 23) rfl ?_); refine goesL_ (some 9) rfl rfl Try.func23 (by kernel_rfl) rfl #[.slice A0 l0.length c0, .int .i64 a1] rfl pL ?_; (with_reducible refine (garnerref21_at.calls k _ _ l0 a1 t108 _ ?Ag ?Ah A3.out).mono ?_); (case Ag => exact pC (Kd.V_reads' Ad.out).2.2); (case Ah => exact (Kd.V_reads' Ad.out).2.1); rintro e w' ⟨rfl, ⟨nd, rfl⟩⟩; refine ⟨_, rfl, ?_⟩))
  go_ret2
  exact ⟨_, pX, by (with_reducible repeat (first | apply Kd.V_alloc | apply Kd.V_drewN | apply Kd.V_drew)); exact Ad.out, pB HB.out⟩
 rw [if_neg c4] at H
 have c4b0 : decide (t108 < 0) = false := decide_eq_false c4
 clear c4
 obtain ⟨y109, hy109⟩ : ∃ y_ : List (S35), y_ = (([] : List (S35))) := ⟨_, rfl⟩
 replace H : (if 0 ≤ t108 then (if t108 ≤ (l0.length : Int) then ((some (l0.take (t108 : Int).toNat : List (S35))).bind fun y112 => (if y109.length + y112.length < 4398046511104 then ((some (y109 ++ y112 : List (S35))).bind fun y117 => (if 0 ≤ (wrap64 (t108 + 1)) then (if (wrap64 (t108 + 1)) ≤ (l0.length : Int) then ((some (l0.drop ((wrap64 (t108 + 1)) : Int).toNat : List (S35))).bind fun y120 => (if y117.length + y120.length < 4398046511104 then (some ((y117 ++ y120), true)) else (none))) else (none)) else (none))) else (none))) else (none)) else (none)) = some (r1, r2) := by first | (rw [hy109]; with_reducible exact H) | (have H2_ := (Option.bind_some _ _).symm.trans H; rw [hy109]; with_reducible exact H2_) | (have H2_ := (Option.bind_some _ _).symm.trans H; with_reducible exact H2_) | with_reducible exact H | (rw [hy109]; exact H) | exact H
 have Ny109 := Am hy109
 clear hy109
 by_cases c5 : 0 ≤ t108
 rotate_left
 ·rw [if_neg c5] at H
  exact absurd H (by simp)
 rw [if_pos c5] at H
 have c5b0 := eq_true c5
 have c5b1 : decide (0 ≤ t108) = true := decide_eq_true c5
 clear c5
 by_cases c6 : t108 ≤ (l0.length : Int)
 rotate_left
 ·rw [if_neg c6] at H
  exact absurd H (by simp)
 rw [if_pos c6] at H
 have c6b0 := eq_true c6
 have c6b1 : decide (t108 ≤ (l0.length : Int)) = true := decide_eq_true c6
 clear c6
 obtain ⟨y112, hy112⟩ : ∃ y_ : List (S35), y_ = (l0.take (t108 : Int).toNat) := ⟨_, rfl⟩
 replace H : (if y109.length + y112.length < 4398046511104 then ((some (y109 ++ y112 : List (S35))).bind fun y117 => (if 0 ≤ (wrap64 (t108 + 1)) then (if (wrap64 (t108 + 1)) ≤ (l0.length : Int) then ((some (l0.drop ((wrap64 (t108 + 1)) : Int).toNat : List (S35))).bind fun y120 => (if y117.length + y120.length < 4398046511104 then (some ((y117 ++ y120), true)) else (none))) else (none)) else (none))) else (none)) = some (r1, r2) := by first | (rw [hy112]; with_reducible exact H) | (have H2_ := (Option.bind_some _ _).symm.trans H; rw [hy112]; with_reducible exact H2_) | (have H2_ := (Option.bind_some _ _).symm.trans H; with_reducible exact H2_) | with_reducible exact H | (rw [hy112]; exact H) | exact H
 have Ny112 := Am hy112
 clear hy112
 by_cases c7 : y109.length + y112.length < 4398046511104
 rotate_left
 ·rw [if_neg c7] at H
  exact absurd H (by simp)
 rw [if_pos c7] at H
 have LMc7 := Am c7
 clear c7
 obtain ⟨y117, hy117⟩ : ∃ y_ : List (S35), y_ = (y109 ++ y112) := ⟨_, rfl⟩
 replace H : (if 0 ≤ (wrap64 (t108 + 1)) then (if (wrap64 (t108 + 1)) ≤ (l0.length : Int) then ((some (l0.drop ((wrap64 (t108 + 1)) : Int).toNat : List (S35))).bind fun y120 => (if y117.length + y120.length < 4398046511104 then (some ((y117 ++ y120), true)) else (none))) else (none)) else (none)) = some (r1, r2) := by first | (rw [hy117]; with_reducible exact H) | (have H2_ := (Option.bind_some _ _).symm.trans H; rw [hy117]; with_reducible exact H2_) | (have H2_ := (Option.bind_some _ _).symm.trans H; with_reducible exact H2_) | with_reducible exact H | (rw [hy117]; exact H) | exact H
 have Ny117 := Am hy117
 clear hy117
 obtain ⟨ji8, hji8⟩ : ∃ j_ : Int, (wrap64 (t108 + 1)) = j_ := ⟨_, rfl⟩
 replace H : (if 0 ≤ (ji8) then (if (ji8) ≤ (l0.length : Int) then ((some (l0.drop ((ji8) : Int).toNat : List (S35))).bind fun y120 => (if y117.length + y120.length < 4398046511104 then (some ((y117 ++ y120), true)) else (none))) else (none)) else (none)) = some (r1, r2) := by first | (rw [hji8] at H; exact H) | (simp only [hji8] at H ⊢; exact H)
 (try rw [hji8] at A3)
 have hji8w : (IntKind.i64.wrap (t108 + 1)) = ji8 := (i64_w _).trans hji8
 by_cases c9 : 0 ≤ (ji8)
 rotate_left
 ·rw [if_neg c9] at H
  exact absurd H (by simp)
 rw [if_pos c9] at H
 have c9b0 := eq_true c9
 have c9b1 : decide (0 ≤ (ji8)) = true := decide_eq_true c9
 clear c9
 by_cases c10 : (ji8) ≤ (l0.length : Int)
 rotate_left
 ·rw [if_neg c10] at H
  exact absurd H (by simp)
 rw [if_pos c10] at H
 have c10b0 := eq_true c10
 have c10b1 : decide ((ji8) ≤ (l0.length : Int)) = true := decide_eq_true c10
 clear c10
 obtain ⟨y120, hy120⟩ : ∃ y_ : List (S35), y_ = (l0.drop ((ji8) : Int).toNat) := ⟨_, rfl⟩
 replace H : (if y117.length + y120.length < 4398046511104 then (some ((y117 ++ y120), true)) else (none)) = some (r1, r2) := by first | (rw [hy120]; with_reducible exact H) | (have H2_ := (Option.bind_some _ _).symm.trans H; rw [hy120]; with_reducible exact H2_) | (have H2_ := (Option.bind_some _ _).symm.trans H; with_reducible exact H2_) | with_reducible exact H | (rw [hy120]; exact H) | exact H
 have Ny120 := Am hy120
 clear hy120
 by_cases c11 : y117.length + y120.length < 4398046511104
 rotate_left
 ·rw [if_neg c11] at H
  exact absurd H (by simp)
 rw [if_pos c11] at H
 have LMc11 := Am c11
 clear c11
 obtain ⟨y125, hy125⟩ : ∃ y_ : List (S35), y_ = (y117 ++ y120) := ⟨_, rfl⟩
 replace H : (some (y125, true)) = some (r1, r2) := by first | (rw [hy125]; with_reducible exact H) | (have H2_ := (Option.bind_some _ _).symm.trans H; rw [hy125]; with_reducible exact H2_) | (have H2_ := (Option.bind_some _ _).symm.trans H; with_reducible exact H2_) | with_reducible exact H | (rw [hy125]; exact H) | exact H
 have Ny125 := Am hy125
 clear hy125
 simp only [Option.some.injEq, Prod.mk.injEq] at H
 obtain ⟨rfl, rfl⟩ := H
 go_enter Try.func16, Try.ntmps16
 try go_wp2_with (first | ((with_reducible refine gate_callee (f := 23) rfl ?_); refine goesL_ (some 9) rfl rfl Try.func23 (by kernel_rfl) rfl #[.slice A0 l0.length c0, .int .i64 a1] rfl pL ?_; (with_reducible refine (garnerref21_at.calls k _ _ l0 a1 t108 _ ?Ag ?Ah A3.out).mono ?_); (case Ag => exact pC (Kd.V_reads' Ad.out).2.2); (case Ah => exact (Kd.V_reads' Ad.out).2.1); rintro e w' ⟨rfl, ⟨nd, rfl⟩⟩; refine ⟨_, rfl, ?_⟩))
 obtain ⟨wn, hwn⟩ : ∃ wn, wn = w.drewN nd := ⟨_, rfl⟩
 replace Ad : Aside0 (Kd.V k35 35 wn w.heap.size (fun k_ => P0_ k_ ∨ w.heap.size ≤ k_) (.slice A0 l0.length c0) l0) := ⟨by rw [hwn]; exact Kd.V_drewN Ad.out nd⟩
 replace HB : Aside0 (Below w.heap.size w wn) := ⟨by rw [hwn]; exact pB HB.out⟩
 rw [← hwn]
 clear hwn
 replace Ad := dVa Ad
 replace HB := bDa HB
 have q13 : (t108 : Int) ≤ ((l0.length : Int) : Int) := of_decide_eq_true pS
 obtain ⟨i013, hi013, _, Ar, _⟩ := info_parts info35
 have Ae : l0.length ≤ c0 := (Kd.V_reads' Ad.out).2.1
 have Ap : Kd.F k35 _ _ A0 l0.length l0 := (Kd.V_at (base := w.heap.size) Ad.out).2.2
 have An := cut_to (P := Try.prog) 30 35 .i64 Try.underlying30 hi013 A0 l0.length c0 t108 (of_decide_eq_true pS) q13 Ae
 have Al := Kd.F_take (m := (t108 : Int).toNat) Ap (by omega)
 have hy13 : y112.length = (t108 : Int).toNat := (by rw [Ny112.out, List.length_take]; omega)
 rw [← Ny112.out] at Al
 rw [← hy13] at An
 have Aa := Am (show Kd.V k35 35 _ w.heap.size _ (.slice A0 y112.length c0) y112 from Kd.V_mk (by omega) Al)
 have HC116 := Am (show y112.length ≤ c0 from by omega)
 clear Al Ap Ae hi013 Ar
 have KY13 := Am hy13
 clear hy13
 replace q13 := eq_true q13
 have q14 : ((ji8) : Int) ≤ ((l0.length : Int) : Int) := of_decide_eq_true pS
 obtain ⟨i014, hi014, _, Ai, _⟩ := info_parts info35
 have Ac : l0.length ≤ c0 := (Kd.V_reads' Ad.out).2.1
 have Aq : Kd.F k35 _ _ A0 l0.length l0 := (Kd.V_at (base := w.heap.size) Ad.out).2.2
 have q014 : (0 : Int) ≤ ((ji8) : Int) := of_decide_eq_true pS
 have Ao := cut_from (P := Try.prog) 30 35 .i64 Try.underlying30 hi014 2 Ai A0 l0.length c0 (ji8) q014 q14
 have Af := Kd.F_cut (m := ((ji8) : Int).toNat) (c := c0) Aq (by omega) Ac
 obtain ⟨A14, hA14⟩ : ∃ AX_, AX_ = (if c0 = ((ji8) : Int).toNat then A0 else (A0 : Option Addr).map (·.add (((ji8) : Int).toNat * 2))) := ⟨_, rfl⟩
 obtain ⟨c14, hc14⟩ : ∃ cX_, cX_ = c0 - ((ji8) : Int).toNat := ⟨_, rfl⟩
 have hy14 : y120.length = l0.length - ((ji8) : Int).toNat := (by rw [Ny120.out, List.length_drop] <;> omega)
 rw [show (l0).drop ((ji8) : Int).toNat = y120 from Ny120.out.symm] at Af
 replace Af : Kd.F k35 _ _ A14 y120.length y120 := (by rw [hA14]; exact Af)
 rw [← hy14, ← hA14, ← hc14] at Ao
 have Ab := Am (show Kd.V k35 35 _ w.heap.size _ (.slice A14 y120.length c14) y120 from Kd.V_mk (by rw [hy14, hc14]; exact Nat.sub_le_sub_right Ac _) Af)
 have HC124 := Am (show y120.length ≤ c14 from by rw [hy14, hc14]; exact Nat.sub_le_sub_right Ac _)
 clear Af Aq Ac hi014 Ai hc14
 have KY14 := Am hy14
 have KA14 := Am hA14
 clear hy14 hA14
 replace q14 := eq_true q14
 refine start_ (n := 12) (S := fun w' => True) (ds := []) #[false, false, false, false, false, false, false, false, false, false, false, false] (by kernel_rfl) rfl rfl trivial (fun hHeld => ?_); refine with_tabW garnerref21_Drop.tab4 garnerref21_Drop.bits4 (fun HT_ HW_ => ?_)
 generalize wn.drew = w12 at Ad HB Aa Ab hHeld ⊢
 refine pui 1 14 12 2 HT_ ?_
 refine pui 2 15 12 6 HT_ ?_
 refine pui 3 16 12 14 HT_ ?_
 refine pui 5 18 12 46 HT_ ?_
 refine pui 6 19 12 110 HT_ ?_
 refine pui 7 20 12 238 HT_ ?_
 refine pui 8 21 12 494 HT_ ?_
 refine onei 0 13 12 495 HT_ (fun K hK => ?_)
 refine Kd.N_lit_step k35 _ 35 ?hg (N' := 13) ?hd (xs := ([] : List (S35))) (inner := []) (ok := (fun k_ => (P0_ k_ ∨ w.heap.size ≤ k_))) (okp := (fun k_ => (P0_ k_ ∨ w.heap.size ≤ k_))) ?hr ?hp (fun _ hk => hk) ((show ∀ k_, w12.heap.size ≤ k_ → (fun k_ => (P0_ k_ ∨ w.heap.size ≤ k_)) k_ from fun k_ hk => (.inr (Nat.le_trans (below_size (pB HB.out)) hk))) _ (Nat.le_refl _)) (Below.refl _ _) (Nat.le_refl _) (by simp) ?_; (case hd => rfl); (case hg => rfl); (case hr => first | (go_simp; done) | (go_simp; rfl)); (case hp => exact (Reps.none _ _))
 intro v110 w15 ho16 hb hg_ hnew_
 clear hg_ hnew_
 (first | rw [← Ny109.out] at ho16 | (simp only [Int.reduceToNat] at ho16; rw [← Ny109.out] at ho16))
 replace Ad := Am (Kd.V_elder' (pV Ad.out) (Kd.N_base ho16) hb)
 replace Aa := Am (Kd.V_elder' (pV Aa.out) (Kd.N_base ho16) hb)
 replace Ab := Am (Kd.V_elder' (pV Ab.out) (Kd.N_base ho16) hb)
 have Aj := Am (Kd.N_lower ho16 (below_size (pB HB.out)))
 replace HB := Am (below_step (pB HB.out) hb)
 clear hb ho16
 refine hK.out _ _ trivial (fun hHeld => ?_)
 clear hK K
 refine norm_ (a' := ?_) ?_ ?_
 rotate_left
 ·show Act.put _ (some 13) _ = _
  simp only [Act.put, List.setIfInBounds_toArray, List.set_cons_zero, List.set_cons_succ, i64_w, i32_w]
  rfl
 refine onei 4 17 12 511 HT_ (fun K hK => ?_)
 refine Kd.N_append_rows_step k35 (w0 := w) w.heap.size (by rfl) (.tmp 13) (.tmp 16) 30 35 (.agg #[(.int .i64 0), (.slice none 0 0)]) 32 rfl Try.underlying30 info35 rfl (by decide) (by omega) v110 y109 y112 _ _ _ (fun k_ => (P0_ k_ ∨ w.heap.size ≤ k_)) (fun k_ => ((fun k_ => (P0_ k_ ∨ w.heap.size ≤ k_))) k_ ∧ some k_ ≠ (v110 : Value).ownBlock) rfl rfl ?aO ?aR (fun _ hk => hk) ?aF ?aB ?aS ?aL ?_
 (case aR => exact (by skip; exact Kd.V_F (Kd.V_mono (ok' := (fun k_ => ((fun k_ => (P0_ k_ ∨ w.heap.size ≤ k_))) k_ ∧ some k_ ≠ (v110 : Value).ownBlock)) (Aa.out) (fun k_ hk => ⟨hk.1, hk.2⟩))))
 (case aB => exact (pB HB.out))
 (case aF => exact (fun k_ hk => (.inr (Nat.le_trans (below_size (pB HB.out)) hk))))
 (case aO => exact (pN Aj.out))
 (case aS => exact (below_size (pB HB.out)))
 (case aL => have := LMc7.out; omega)
 intro v118 w17 ho hb hg hat
 rw [← Ny117.out] at ho
 replace Ad := Am (Kd.V_afterv (ok := (fun k_ => (P0_ k_ ∨ w.heap.size ≤ k_))) (pV Ad.out) hg hat)
 replace Aa := Am (Kd.V_afterv (ok := (fun k_ => (P0_ k_ ∨ w.heap.size ≤ k_))) (pV Aa.out) hg hat)
 replace Ab := Am (Kd.V_afterv (ok := (fun k_ => (P0_ k_ ∨ w.heap.size ≤ k_))) (pV Ab.out) hg hat)
 replace HB := Am (hb)
 have Ak := Am (ho)
 clear Aj
 clear ho hb hg hat
 refine hK.out _ _ trivial (fun hHeld => ?_)
 clear hK K
 refine norm_ (a' := ?_) ?_ ?_
 rotate_left
 ·show Act.put _ (some 17) _ = _
  simp only [Act.put, List.setIfInBounds_toArray, List.set_cons_zero, List.set_cons_succ, i64_w, i32_w]
  rfl
 refine onei 9 22 12 1023 HT_ (fun K hK => ?_)
 refine Kd.N_append_rows_step k35 (w0 := w) w.heap.size (by rfl) (.tmp 17) (.tmp 21) 30 35 (.agg #[(.int .i64 0), (.slice none 0 0)]) 32 rfl Try.underlying30 info35 rfl (by decide) (by omega) v118 y117 y120 _ _ _ (fun k_ => (P0_ k_ ∨ w.heap.size ≤ k_)) (fun k_ => ((fun k_ => (P0_ k_ ∨ w.heap.size ≤ k_))) k_ ∧ some k_ ≠ (v118 : Value).ownBlock) rfl rfl ?aO ?aR (fun _ hk => hk) ?aF ?aB ?aS ?aL ?_
 (case aR => exact (by skip; exact Kd.V_F (Kd.V_mono (ok' := (fun k_ => ((fun k_ => (P0_ k_ ∨ w.heap.size ≤ k_))) k_ ∧ some k_ ≠ (v118 : Value).ownBlock)) (Ab.out) (fun k_ hk => ⟨hk.1, hk.2⟩))))
 (case aB => exact (pB HB.out))
 (case aF => exact (fun k_ hk => (.inr (Nat.le_trans (below_size (pB HB.out)) hk))))
 (case aO => exact (pN Ak.out))
 (case aS => exact (below_size (pB HB.out)))
 (case aL => have := LMc11.out; omega)
 intro v126 w18 ho hb hg hat
 rw [← Ny125.out] at ho
 replace Ad := Am (Kd.V_afterv (ok := (fun k_ => (P0_ k_ ∨ w.heap.size ≤ k_))) (pV Ad.out) hg hat)
 replace Aa := Am (Kd.V_afterv (ok := (fun k_ => (P0_ k_ ∨ w.heap.size ≤ k_))) (pV Aa.out) hg hat)
 replace Ab := Am (Kd.V_afterv (ok := (fun k_ => (P0_ k_ ∨ w.heap.size ≤ k_))) (pV Ab.out) hg hat)
 replace HB := Am (hb)
 have As := Am (ho)
 clear Ak
 clear ho hb hg hat
 refine hK.out _ _ trivial (fun hHeld => ?_)
 clear hK K
 refine norm_ (a' := ?_) ?_ ?_
 rotate_left
 ·show Act.put _ (some 22) _ = _
  simp only [Act.put, List.setIfInBounds_toArray, List.set_cons_zero, List.set_cons_succ, i64_w, i32_w]
  rfl
 refine pui 10 4 12 2047 HT_ ?_
 refine pui 11 5 12 4095 HT_ ?_
 refine done_ (done_of HT_.out (by kernel_rfl)) ?_
 try go_wp2
 go_ret2
 exact ⟨_, by first | rfl | (simp [errW_none, errW_some] <;> rfl) | (simp only [← hji8]; first | rfl | (simp [errW_none, errW_some] <;> rfl)) | (simp [*, errW_none, errW_some] <;> rfl), Kd.N_V (pN As.out), pB HB.out⟩
end
section
attribute [local go_sem] max2_int min2_int max_two min_two max_three min_three max_four min_four
attribute [local go_sem] wrap64_l1 wrap64_l2 wrap64_l3 wrap64_l4 wrap64_l5
def garnerref21_May.l0 : Nat → Int → Int → List (S37) → Option (Bool)
 | 0, _, _, _ => none
 | k + 1, x3, x129000, x129001 => if x3 < (x129001.length : Int) then (if 0 ≤ x3 then (if ((rd_T37 x129001 x3).f0) < 0 then (some false) else (if ((rd_T37 x129001 x3).f0) > 2147483647 then (some false) else ((garnerref04_May.f ((rd_T37 x129001 x3).f1.f0) ((rd_T37 x129001 x3).f1.f1) ((rd_T37 x129001 x3).f1.f2) ((rd_T37 x129001 x3).f1.f3)).bind fun t131 => (if t131 = true then (if ((rd_T37 x129001 x3).f1.f0) ≤ x129000 then (some false) else (if x3 > 0 then (if 0 ≤ (wrap64 (x3 - 1)) then (if (wrap64 (x3 - 1)) < (x129001.length : Int) then (if ((rd_T37 x129001 x3).f0) ≤ ((rd_T37 x129001 (wrap64 (x3 - 1))).f0) then (some false) else (garnerref21_May.l0 k (wrap64 (x3 + 1)) x129000 x129001)) else (none)) else (none)) else (garnerref21_May.l0 k (wrap64 (x3 + 1)) x129000 x129001))) else (some false))))) else (none)) else (if x129000 ≥ 1 then (if x129000 ≤ 2147483647 then (some (decide ((x129001.length : Int) ≤ 16384))) else (some false)) else (some false))
def garnerref21_May.f (k : Nat) (a0_0 : Int) (l0_1 : List (S37)) : Option (Bool) := garnerref21_May.l0 k 0 a0_0 l0_1
theorem garnerref21_May.mono_l : ∀ k, (∀ y0 y1 y2, LeO (garnerref21_May.l0 k y0 y1 y2) (garnerref21_May.l0 (k + 1) y0 y1 y2))
 | 0 => fun _ _ _ r h => by simp [garnerref21_May.l0] at h
 | k + 1 => by
  have ih0 := garnerref21_May.mono_l k
  ·intro y0 y1 y2
   unfold garnerref21_May.l0
   repeat' first
   | (with_reducible exact ih0 _ _ _)
   | (with_reducible exact LeO.refl _)
   | (with_reducible exact LeO.none _)
   | (with_reducible refine LeO.ite ?_ ?_)
   | (with_reducible refine LeO.bind ?_ (fun _ => ?_))
   | exact ih0 _ _ _
   | exact LeO.none _
   | refine LeO.ite ?_ ?_
   | refine LeO.bind ?_ (fun _ => ?_)
theorem garnerref21_May.mono : ∀ a0 a1 k, LeO (garnerref21_May.f k a0 a1) (garnerref21_May.f (k + 1) a0 a1) := by
 intro a0 a1 k
 have ih0 := garnerref21_May.mono_l k
 unfold garnerref21_May.f
 repeat' first
   | (with_reducible exact ih0 _ _ _)
   | (with_reducible exact LeO.refl _)
   | (with_reducible exact LeO.none _)
   | (with_reducible refine LeO.ite ?_ ?_)
   | (with_reducible refine LeO.bind ?_ (fun _ => ?_))
   | exact ih0 _ _ _
   | exact LeO.none _
   | refine LeO.ite ?_ ?_
   | refine LeO.bind ?_ (fun _ => ?_)
def garnerref21_May.T5 : Bool × List (List Nat × List Nat) := (true, [([], []), ([0], [0]), ([1], [1]), ([2], [2]), ([3], [3]), ([4, 3], [3, 4]), ([5, 3], [3, 5]), ([3, 6], [3, 6]), ([7, 3], [7]), ([8], [8]), ([9, 8], [8, 9]), ([10, 8, 8], [8, 10]), ([11, 8], [8, 11]), ([8, 12], [8, 12]), ([13, 11], [13]), ([14], [14]), ([15, 14], [14, 15]), ([16, 14], [14, 16]), ([14], [14]), ([18, 14], [14, 18]), ([17, 19, 14], [14, 17, 19]), ([14, 20], [14, 20]), ([21, 14], [21]), ([22], [22]), ([23, 22], [22, 23]), ([24, 22, 22], [22, 24]), ([25], [25]), ([26, 25], [25, 26]), ([25], [25]), ([28, 25], [25, 28]), ([25], [25]), ([30, 25], [25, 30]), ([29, 31, 25], [25, 29, 31]), ([32, 25], [25, 32]), ([33, 25], [25, 33]), ([27, 34, 25], [25, 27, 34]), ([25, 35, 22], [22, 25, 35]), ([22, 36], [22, 36])])
def garnerref21_May.B5 : List Nat := [0, 1, 3, 7, 15, 31, 63, 127, 255, 511, 1023, 2047, 4095, 8191, 16383, 32767, 65535, 131071, 32767, 294911, 1048575, 2097151, 4194303, 8388607, 16777215, 33554431, 67108863, 134217727, 67108863, 335544319, 67108863, 1140850687, 4093640703, 8388607999, 16978542591, 34359738367, 68719476735, 137438953471]
theorem garnerref21_May.tab5 : rtab .any (opsOf Try.f17 5) = garnerref21_May.T5 := by kernel_rfl
theorem garnerref21_May.bits5 : waitsOk garnerref21_May.T5.2 garnerref21_May.B5 = true := by kernel_rfl
set_option maxHeartbeats 8000000 in
set_option maxRecDepth 100000 in
theorem garnerref21_May.calls (k : Nat) (a0_0 : Int) (A0_1 : Option Addr) (c0_1 : Nat) (l0_1 : List (S37)) (r : Bool) (w : World) (hr0_1 : Kd.C k37 w A0_1 l0_1.length l0_1) (hc0_1 : l0_1.length ≤ c0_1) (h : garnerref21_May.f k a0_0 l0_1 = some r) :
  Calls Try.prog 17 #[.agg #[.int .i64 a0_0, .slice A0_1 l0_1.length c0_1]] w fun e w' => e = .returned (.bool r) ∧ Below w.heap.size w w' := by
 have hu35 := Try.underlying35
 have hu37 := Try.underlying37
 have hu25 := Try.underlying25
 have Ar := Am hr0_1
 have HC0_1 := Am hc0_1
 clear hr0_1 hc0_1
 have HB := Am (Below.refl w.heap.size w)
 have H : (garnerref21_May.l0 k 0 a0_0 l0_1) = some r := h
 clear h
 have H' := Am H
 clear H
 go_enter Try.func17, Try.ntmps17
 go_wp2_with (first | ((with_reducible refine gate_dst (N := 1) rfl ?_); (try (refine gate_guard (by rfl) ?_; dsimp only)); refine box_event ?hg (N := 1) ?hd (cs := #[.int .i64 a0_0, .slice A0_1 l0_1.length c0_1]) (t := 35) ?hr ?_; (case hd => rfl); (case hg => rfl); (case hr => first | (go_simp; done) | (go_simp; rfl)); intro Ai hg w2 hbox hb; have Ad := Am (hbox); have A3 := Am ((by rw [hg]; exact (below_size (pB HB.out)) : w.heap.size ≤ Ai)); replace HB := Am (below_step (pB HB.out) hb); have Af := A3; clear hb hbox hg))
 go_loopg [3] k (fun kq v3 w' => ∃ (Aa : Int), v3 = .int .i64 Aa ∧ Aside0 (garnerref21_May.l0 kq Aa a0_0 l0_1 = some r) ∧ Aside0 (kq ≤ k) ∧ Aside0 (w'.heap[Ai]? = some (.cells #[.int .i64 a0_0, (.slice A0_1 l0_1.length c0_1)] 35 (0, 0))) ∧ Aside0 (Below w.heap.size w w'))
 case atStart => exact ⟨(0), (by first | rfl | (simp; done) | (simp [*]; done)), H', ⟨Nat.le_refl _⟩, ⟨pK Ad.out⟩, ⟨pE HB.out Af.out⟩⟩
 case round =>
  clear H'
  try clear c1
  try clear p2
  obtain ⟨Aa, rfl, HA, HK1, Ad, HB⟩ := hrel
  cases gk with
  | zero => exact absurd HA.out (by simp [garnerref21_May.l0])
  | succ k1 =>
   have H := HA.out
   clear HA
   simp only [garnerref21_May.l0] at H
   by_cases c3 : Aa < (l0_1.length : Int)
   rotate_left
   ·rw [if_neg c3] at H
    have c3b0 : decide (Aa < (l0_1.length : Int)) = false := decide_eq_false c3
    clear c3
    by_cases c62 : a0_0 ≥ 1
    rotate_left
    ·rw [if_neg c62] at H
     have c62b0 : decide (1 ≤ a0_0) = false := decide_eq_false c62
     clear c62
     obtain rfl := Option.some.inj H
     obtain ⟨_, _⟩ := bc2 Ad.out
     obtain ⟨_, _⟩ := bf2 Ad.out
     go_wp2
     go_ret
     exact ⟨pX, pE HB.out Af.out⟩
    rw [if_pos c62] at H
    have c62b0 : decide (1 ≤ a0_0) = true := decide_eq_true c62
    clear c62
    by_cases c63 : a0_0 ≤ 2147483647
    ·rw [if_pos c63] at H
     have c63b0 : decide (a0_0 ≤ 2147483647) = true := decide_eq_true c63
     clear c63
     obtain rfl := Option.some.inj H
     obtain ⟨_, _⟩ := bc2 Ad.out
     obtain ⟨_, _⟩ := bf2 Ad.out
     go_wp2
     go_ret
     exact ⟨pX, pE HB.out Af.out⟩
    rw [if_neg c63] at H
    have c63b0 : decide (a0_0 ≤ 2147483647) = false := decide_eq_false c63
    clear c63
    obtain rfl := Option.some.inj H
    obtain ⟨_, _⟩ := bc2 Ad.out
    obtain ⟨_, _⟩ := bf2 Ad.out
    go_wp2
    go_ret
    exact ⟨pX, pE HB.out Af.out⟩
   rw [if_pos c3] at H
   have c3b0 : decide (Aa < (l0_1.length : Int)) = true := decide_eq_true c3
   clear c3
   by_cases c4 : 0 ≤ Aa
   rotate_left
   ·rw [if_neg c4] at H
    exact absurd H (by simp)
   rw [if_pos c4] at H
   have c4b0 : decide (0 ≤ Aa) = true := decide_eq_true c4
   clear c4
   by_cases c5 : ((rd_T37 l0_1 Aa).f0) < 0
   ·rw [if_pos c5] at H
    have c5b0 : decide (((rd_T37 l0_1 Aa).f0) < 0) = true := decide_eq_true c5
    clear c5
    obtain rfl := Option.some.inj H
    obtain ⟨_, _⟩ := bc2 Ad.out
    obtain ⟨_, _⟩ := bf2 Ad.out
    have p129 : 0 ≤ (Aa : Int) := of_decide_eq_true pS
    have q129 : Aa < (l0_1.length : Int) := of_decide_eq_true pS
    obtain ⟨Ag, e129, Al, An, Ao, Ap, Aq⟩ := at_T37u Ar.out Aa p129 q129 HB.out
    cases e129
    replace p129 := eq_true p129
    replace q129 := eq_true q129
    try go_wp2_with (first | ((with_reducible refine gate_dst (N := 4) rfl ?_); (try (refine gate_guard (by rfl) ?_; dsimp only)); refine box_event ?hg (N := 4) ?hd (cs := #[.int .i64 0, .int .i64 0, .int .i64 0, .int .i64 0, .int .u32 0]) (t := 37) ?hr ?_; (case hd => rfl); (case hg => rfl); (case hr => first | (go_simp; done) | (go_simp; rfl)); intro Ab hg w7 hbox hb; have Ac := Am (hbox); have Ak := Am ((by rw [hg]; exact (below_size (pE HB.out Af.out)) : w.heap.size ≤ Ab)); replace HB := Am (below_step (pE HB.out Af.out) hb); have Aj := Ak; have Ae := Am ((by rw [hg]; exact Nat.ne_of_lt (kL Ad.out) : Ai ≠ Ab)); have Ah := Am ((by rw [hg]; exact Nat.ne_of_gt (kL Ad.out) : Ab ≠ Ai)); replace Ad := kBa Ad hb; clear hb hbox hg; have hnb8 := Ah.out; have hnc8 := Ae.out; obtain ⟨_, _, _, _, _⟩ := bc5 Ac.out; obtain ⟨_, _, _, _, _⟩ := bf5 Ac.out))
    have n0_ : Aside0 ((((((w7.setCell ⟨Ab, 0, none⟩ (.int .i64 ((rd_T37 l0_1 Aa).f0))).setCell ⟨Ab, 1, none⟩ (.int .i64 ((rd_T37 l0_1 Aa).f1.f0))).setCell ⟨Ab, 2, none⟩ (.int .i64 ((rd_T37 l0_1 Aa).f1.f1))).setCell ⟨Ab, 3, none⟩ (.int .i64 ((rd_T37 l0_1 Aa).f1.f2))).setCell ⟨Ab, 4, none⟩ (.int .u32 ((rd_T37 l0_1 Aa).f1.f3))).heap[Ai]? = some (.cells #[.int .i64 a0_0, .slice (some Ag) l0_1.length c0_1] 35 (0, 0))) := ⟨kX1 Ad.out Ae.out⟩
    have n1_ : Aside0 ((((((w7.setCell ⟨Ab, 0, none⟩ (.int .i64 ((rd_T37 l0_1 Aa).f0))).setCell ⟨Ab, 1, none⟩ (.int .i64 ((rd_T37 l0_1 Aa).f1.f0))).setCell ⟨Ab, 2, none⟩ (.int .i64 ((rd_T37 l0_1 Aa).f1.f1))).setCell ⟨Ab, 3, none⟩ (.int .i64 ((rd_T37 l0_1 Aa).f1.f2))).setCell ⟨Ab, 4, none⟩ (.int .u32 ((rd_T37 l0_1 Aa).f1.f3))).heap[Ab]? = some (.cells #[.int .i64 ((rd_T37 l0_1 Aa).f0), .int .i64 ((rd_T37 l0_1 Aa).f1.f0), .int .i64 ((rd_T37 l0_1 Aa).f1.f1), .int .i64 ((rd_T37 l0_1 Aa).f1.f2), .int .u32 ((rd_T37 l0_1 Aa).f1.f3)] 37 (0, 0))) := ⟨kX0 Ac.out⟩
    have n2_ : Aside0 (Below w.heap.size w (((((w7.setCell ⟨Ab, 0, none⟩ (.int .i64 ((rd_T37 l0_1 Aa).f0))).setCell ⟨Ab, 1, none⟩ (.int .i64 ((rd_T37 l0_1 Aa).f1.f0))).setCell ⟨Ab, 2, none⟩ (.int .i64 ((rd_T37 l0_1 Aa).f1.f1))).setCell ⟨Ab, 3, none⟩ (.int .i64 ((rd_T37 l0_1 Aa).f1.f2))).setCell ⟨Ab, 4, none⟩ (.int .u32 ((rd_T37 l0_1 Aa).f1.f3)))) := ⟨pE2 HB.out Af.out Aj.out⟩
    (try clear Ad)
    (try clear Ac)
    (try clear HB)
    generalize (((((w7.setCell ⟨Ab, 0, none⟩ (.int .i64 ((rd_T37 l0_1 Aa).f0))).setCell ⟨Ab, 1, none⟩ (.int .i64 ((rd_T37 l0_1 Aa).f1.f0))).setCell ⟨Ab, 2, none⟩ (.int .i64 ((rd_T37 l0_1 Aa).f1.f1))).setCell ⟨Ab, 3, none⟩ (.int .i64 ((rd_T37 l0_1 Aa).f1.f2))).setCell ⟨Ab, 4, none⟩ (.int .u32 ((rd_T37 l0_1 Aa).f1.f3))) = w10 at n0_ n1_ n2_ ⊢
    have Ad := n0_
    have Ac := n1_
    have HB := n2_
    clear n0_ n1_ n2_
    replace Ad := kDa Ad
    replace Ac := kDa Ac
    replace HB := bDa HB
    refine start_ (n := 38) (S := fun w' => cG w' Ab 0 (.int .i64 ((rd_T37 l0_1 Aa).f0)) ∧ cG w' Ab 1 (.int .i64 ((rd_T37 l0_1 Aa).f1.f0)) ∧ cG w' Ab 2 (.int .i64 ((rd_T37 l0_1 Aa).f1.f1)) ∧ cG w' Ab 3 (.int .i64 ((rd_T37 l0_1 Aa).f1.f2)) ∧ cG w' Ab 4 (.int .u32 ((rd_T37 l0_1 Aa).f1.f3))) (ds := []) #[false, false, false, false, false, false, false, false, false, false, false, false, false, false, false, false, false, false, false, false, false, false, false, false, false, false, false, false, false, false, false, false, false, false, false, false, false, false] (by kernel_rfl) rfl rfl ⟨(blk_cell Ac.out 0).trans rfl, (blk_cell Ac.out 1).trans rfl, (blk_cell Ac.out 2).trans rfl, (blk_cell Ac.out 3).trans rfl, (blk_cell Ac.out 4).trans rfl⟩ (fun hHeld => ?_); refine with_tabW garnerref21_May.tab5 garnerref21_May.bits5 (fun HT_ HW_ => ?_)
    generalize w10.drew = w11 at Ad Ac HB hHeld ⊢
    refine pui 0 17 38 1 HT_ ?_
    refine tki 1 18 38 3 HT_ HW_ hHeld ?_
    refine pui 2 19 38 7 HT_ ?_
    refine pui 3 20 38 15 HT_ ?_
    refine pdi 4 21 38 31 HT_ ?_
    refine pdi 5 22 38 63 HT_ ?_
    refine pdi 6 23 38 127 HT_ ?_
    refine pui 7 24 38 255 HT_ ?_
    refine pui 8 25 38 511 HT_ ?_
    refine pdi 9 26 38 1023 HT_ ?_
    refine pdi 10 27 38 2047 HT_ ?_
    refine pdi 11 28 38 4095 HT_ ?_
    refine pdi 12 29 38 8191 HT_ ?_
    refine pui 13 30 38 16383 HT_ ?_
    refine pui 14 31 38 32767 HT_ ?_
    refine pdi 15 32 38 65535 HT_ ?_
    refine pdi 16 33 38 131071 HT_ ?_
    refine pdi 17 34 38 262143 HT_ ?_
    refine pdi 18 35 38 524287 HT_ ?_
    refine pdi 19 36 38 1048575 HT_ ?_
    refine pdi 20 37 38 2097151 HT_ ?_
    refine pui 21 38 38 4194303 HT_ ?_
    refine pui 22 39 38 8388607 HT_ ?_
    refine pdi 23 40 38 16777215 HT_ ?_
    refine pdi 24 41 38 33554431 HT_ ?_
    refine pdi 25 42 38 67108863 HT_ ?_
    refine pdi 26 43 38 134217727 HT_ ?_
    refine pdi 27 44 38 268435455 HT_ ?_
    refine pdi 28 45 38 536870911 HT_ ?_
    refine pdi 29 46 38 1073741823 HT_ ?_
    refine pdi 30 47 38 2147483647 HT_ ?_
    refine pdi 31 48 38 4294967295 HT_ ?_
    refine pdi 32 49 38 8589934591 HT_ ?_
    refine pdi 33 50 38 17179869183 HT_ ?_
    refine pdi 34 51 38 34359738367 HT_ ?_
    refine pdi 35 52 38 68719476735 HT_ ?_
    refine pdi 36 53 38 137438953471 HT_ ?_
    refine pui 37 54 38 274877906943 HT_ ?_
    refine done_ (done_of HT_.out (by kernel_rfl)) ?_
    try go_wp2
    go_ret
    exact ⟨pX, pE2 HB.out Af.out Aj.out⟩
   rw [if_neg c5] at H
   have c5b0 : decide (((rd_T37 l0_1 Aa).f0) < 0) = false := decide_eq_false c5
   clear c5
   by_cases c12 : ((rd_T37 l0_1 Aa).f0) > 2147483647
   ·rw [if_pos c12] at H
    have c12b0 : decide (2147483647 < ((rd_T37 l0_1 Aa).f0)) = true := decide_eq_true c12
    clear c12
    obtain rfl := Option.some.inj H
    obtain ⟨_, _⟩ := bc2 Ad.out
    obtain ⟨_, _⟩ := bf2 Ad.out
    have p129 : 0 ≤ (Aa : Int) := of_decide_eq_true pS
    have q129 : Aa < (l0_1.length : Int) := of_decide_eq_true pS
    obtain ⟨Ag, e129, Al, An, Ao, Ap, Aq⟩ := at_T37u Ar.out Aa p129 q129 HB.out
    cases e129
    replace p129 := eq_true p129
    replace q129 := eq_true q129
    try go_wp2_with (first | ((with_reducible refine gate_dst (N := 4) rfl ?_); (try (refine gate_guard (by rfl) ?_; dsimp only)); refine box_event ?hg (N := 4) ?hd (cs := #[.int .i64 0, .int .i64 0, .int .i64 0, .int .i64 0, .int .u32 0]) (t := 37) ?hr ?_; (case hd => rfl); (case hg => rfl); (case hr => first | (go_simp; done) | (go_simp; rfl)); intro Ab hg w14 hbox hb; have Ac := Am (hbox); have Ak := Am ((by rw [hg]; exact (below_size (pE HB.out Af.out)) : w.heap.size ≤ Ab)); replace HB := Am (below_step (pE HB.out Af.out) hb); have Aj := Ak; have Ae := Am ((by rw [hg]; exact Nat.ne_of_lt (kL Ad.out) : Ai ≠ Ab)); have Ah := Am ((by rw [hg]; exact Nat.ne_of_gt (kL Ad.out) : Ab ≠ Ai)); replace Ad := kBa Ad hb; clear hb hbox hg; have hnb15 := Ah.out; have hnc15 := Ae.out; obtain ⟨_, _, _, _, _⟩ := bc5 Ac.out; obtain ⟨_, _, _, _, _⟩ := bf5 Ac.out))
    have n0_ : Aside0 ((((((w14.setCell ⟨Ab, 0, none⟩ (.int .i64 ((rd_T37 l0_1 Aa).f0))).setCell ⟨Ab, 1, none⟩ (.int .i64 ((rd_T37 l0_1 Aa).f1.f0))).setCell ⟨Ab, 2, none⟩ (.int .i64 ((rd_T37 l0_1 Aa).f1.f1))).setCell ⟨Ab, 3, none⟩ (.int .i64 ((rd_T37 l0_1 Aa).f1.f2))).setCell ⟨Ab, 4, none⟩ (.int .u32 ((rd_T37 l0_1 Aa).f1.f3))).heap[Ai]? = some (.cells #[.int .i64 a0_0, .slice (some Ag) l0_1.length c0_1] 35 (0, 0))) := ⟨kX1 Ad.out Ae.out⟩
    have n1_ : Aside0 ((((((w14.setCell ⟨Ab, 0, none⟩ (.int .i64 ((rd_T37 l0_1 Aa).f0))).setCell ⟨Ab, 1, none⟩ (.int .i64 ((rd_T37 l0_1 Aa).f1.f0))).setCell ⟨Ab, 2, none⟩ (.int .i64 ((rd_T37 l0_1 Aa).f1.f1))).setCell ⟨Ab, 3, none⟩ (.int .i64 ((rd_T37 l0_1 Aa).f1.f2))).setCell ⟨Ab, 4, none⟩ (.int .u32 ((rd_T37 l0_1 Aa).f1.f3))).heap[Ab]? = some (.cells #[.int .i64 ((rd_T37 l0_1 Aa).f0), .int .i64 ((rd_T37 l0_1 Aa).f1.f0), .int .i64 ((rd_T37 l0_1 Aa).f1.f1), .int .i64 ((rd_T37 l0_1 Aa).f1.f2), .int .u32 ((rd_T37 l0_1 Aa).f1.f3)] 37 (0, 0))) := ⟨kX0 Ac.out⟩
    have n2_ : Aside0 (Below w.heap.size w (((((w14.setCell ⟨Ab, 0, none⟩ (.int .i64 ((rd_T37 l0_1 Aa).f0))).setCell ⟨Ab, 1, none⟩ (.int .i64 ((rd_T37 l0_1 Aa).f1.f0))).setCell ⟨Ab, 2, none⟩ (.int .i64 ((rd_T37 l0_1 Aa).f1.f1))).setCell ⟨Ab, 3, none⟩ (.int .i64 ((rd_T37 l0_1 Aa).f1.f2))).setCell ⟨Ab, 4, none⟩ (.int .u32 ((rd_T37 l0_1 Aa).f1.f3)))) := ⟨pE2 HB.out Af.out Aj.out⟩
    (try clear Ad)
    (try clear Ac)
    (try clear HB)
    generalize (((((w14.setCell ⟨Ab, 0, none⟩ (.int .i64 ((rd_T37 l0_1 Aa).f0))).setCell ⟨Ab, 1, none⟩ (.int .i64 ((rd_T37 l0_1 Aa).f1.f0))).setCell ⟨Ab, 2, none⟩ (.int .i64 ((rd_T37 l0_1 Aa).f1.f1))).setCell ⟨Ab, 3, none⟩ (.int .i64 ((rd_T37 l0_1 Aa).f1.f2))).setCell ⟨Ab, 4, none⟩ (.int .u32 ((rd_T37 l0_1 Aa).f1.f3))) = w17 at n0_ n1_ n2_ ⊢
    have Ad := n0_
    have Ac := n1_
    have HB := n2_
    clear n0_ n1_ n2_
    replace Ad := kDa Ad
    replace Ac := kDa Ac
    replace HB := bDa HB
    refine start_ (n := 38) (S := fun w' => cG w' Ab 0 (.int .i64 ((rd_T37 l0_1 Aa).f0)) ∧ cG w' Ab 1 (.int .i64 ((rd_T37 l0_1 Aa).f1.f0)) ∧ cG w' Ab 2 (.int .i64 ((rd_T37 l0_1 Aa).f1.f1)) ∧ cG w' Ab 3 (.int .i64 ((rd_T37 l0_1 Aa).f1.f2)) ∧ cG w' Ab 4 (.int .u32 ((rd_T37 l0_1 Aa).f1.f3))) (ds := []) #[false, false, false, false, false, false, false, false, false, false, false, false, false, false, false, false, false, false, false, false, false, false, false, false, false, false, false, false, false, false, false, false, false, false, false, false, false, false] (by kernel_rfl) rfl rfl ⟨(blk_cell Ac.out 0).trans rfl, (blk_cell Ac.out 1).trans rfl, (blk_cell Ac.out 2).trans rfl, (blk_cell Ac.out 3).trans rfl, (blk_cell Ac.out 4).trans rfl⟩ (fun hHeld => ?_); refine with_tabW garnerref21_May.tab5 garnerref21_May.bits5 (fun HT_ HW_ => ?_)
    generalize w17.drew = w18 at Ad Ac HB hHeld ⊢
    refine pui 0 17 38 1 HT_ ?_
    refine tki 1 18 38 3 HT_ HW_ hHeld ?_
    refine pui 2 19 38 7 HT_ ?_
    refine pui 3 20 38 15 HT_ ?_
    refine pui 4 21 38 31 HT_ ?_
    refine tki 5 22 38 63 HT_ HW_ hHeld ?_
    refine pui 6 23 38 127 HT_ ?_
    refine pui 7 24 38 255 HT_ ?_
    refine pui 8 25 38 511 HT_ ?_
    refine pdi 9 26 38 1023 HT_ ?_
    refine pdi 10 27 38 2047 HT_ ?_
    refine pdi 11 28 38 4095 HT_ ?_
    refine pdi 12 29 38 8191 HT_ ?_
    refine pui 13 30 38 16383 HT_ ?_
    refine pui 14 31 38 32767 HT_ ?_
    refine pdi 15 32 38 65535 HT_ ?_
    refine pdi 16 33 38 131071 HT_ ?_
    refine pdi 17 34 38 262143 HT_ ?_
    refine pdi 18 35 38 524287 HT_ ?_
    refine pdi 19 36 38 1048575 HT_ ?_
    refine pdi 20 37 38 2097151 HT_ ?_
    refine pui 21 38 38 4194303 HT_ ?_
    refine pui 22 39 38 8388607 HT_ ?_
    refine pdi 23 40 38 16777215 HT_ ?_
    refine pdi 24 41 38 33554431 HT_ ?_
    refine pdi 25 42 38 67108863 HT_ ?_
    refine pdi 26 43 38 134217727 HT_ ?_
    refine pdi 27 44 38 268435455 HT_ ?_
    refine pdi 28 45 38 536870911 HT_ ?_
    refine pdi 29 46 38 1073741823 HT_ ?_
    refine pdi 30 47 38 2147483647 HT_ ?_
    refine pdi 31 48 38 4294967295 HT_ ?_
    refine pdi 32 49 38 8589934591 HT_ ?_
    refine pdi 33 50 38 17179869183 HT_ ?_
    refine pdi 34 51 38 34359738367 HT_ ?_
    refine pdi 35 52 38 68719476735 HT_ ?_
    refine pdi 36 53 38 137438953471 HT_ ?_
    refine pui 37 54 38 274877906943 HT_ ?_
    refine done_ (done_of HT_.out (by kernel_rfl)) ?_
    try go_wp2
    go_ret
    exact ⟨pX, pE2 HB.out Af.out Aj.out⟩
   rw [if_neg c12] at H
   have c12b0 : decide (2147483647 < ((rd_T37 l0_1 Aa).f0)) = false := decide_eq_false c12
   clear c12
   replace H := Option.bind_eq_some_iff.mp H
   obtain ⟨t131, A190, H⟩ := H
   replace H : (if t131 = true then (if ((rd_T37 l0_1 Aa).f1.f0) ≤ a0_0 then (some false) else (if Aa > 0 then (if 0 ≤ (wrap64 (Aa - 1)) then (if (wrap64 (Aa - 1)) < (l0_1.length : Int) then (if ((rd_T37 l0_1 Aa).f0) ≤ ((rd_T37 l0_1 (wrap64 (Aa - 1))).f0) then (some false) else (garnerref21_May.l0 k1 (wrap64 (Aa + 1)) a0_0 l0_1)) else (none)) else (none)) else (garnerref21_May.l0 k1 (wrap64 (Aa + 1)) a0_0 l0_1))) else (some false)) = some r := H
   have A19 := Am A190
   clear A190
   by_cases c20 : t131 = true
   rotate_left
   ·replace c20 := Bool.eq_false_iff.mpr c20
    subst c20
    have H1 : (some false) = some r := by rw [if_neg (show ¬ (false = true) by decide)] at H; exact H
    clear H
    have H := H1
    clear H1
    obtain rfl := Option.some.inj H
    obtain ⟨_, _⟩ := bc2 Ad.out
    obtain ⟨_, _⟩ := bf2 Ad.out
    have p129 : 0 ≤ (Aa : Int) := of_decide_eq_true pS
    have q129 : Aa < (l0_1.length : Int) := of_decide_eq_true pS
    obtain ⟨Ag, e129, Al, An, Ao, Ap, Aq⟩ := at_T37u Ar.out Aa p129 q129 HB.out
    cases e129
    replace p129 := eq_true p129
    replace q129 := eq_true q129
    try go_wp2_with (first | ((with_reducible refine gate_dst (N := 4) rfl ?_); (try (refine gate_guard (by rfl) ?_; dsimp only)); refine box_event ?hg (N := 4) ?hd (cs := #[.int .i64 0, .int .i64 0, .int .i64 0, .int .i64 0, .int .u32 0]) (t := 37) ?hr ?_; (case hd => rfl); (case hg => rfl); (case hr => first | (go_simp; done) | (go_simp; rfl)); intro Ab hg w56 hbox hb; have Ac := Am (hbox); have Ak := Am ((by rw [hg]; exact (below_size (pE HB.out Af.out)) : w.heap.size ≤ Ab)); replace HB := Am (below_step (pE HB.out Af.out) hb); have Aj := Ak; have Ae := Am ((by rw [hg]; exact Nat.ne_of_lt (kL Ad.out) : Ai ≠ Ab)); have Ah := Am ((by rw [hg]; exact Nat.ne_of_gt (kL Ad.out) : Ab ≠ Ai)); replace Ad := kBa Ad hb; clear hb hbox hg; have hnb57 := Ah.out; have hnc57 := Ae.out; obtain ⟨_, _, _, _, _⟩ := bc5 Ac.out; obtain ⟨_, _, _, _, _⟩ := bf5 Ac.out))
    have n0_ : Aside0 ((((((w56.setCell ⟨Ab, 0, none⟩ (.int .i64 ((rd_T37 l0_1 Aa).f0))).setCell ⟨Ab, 1, none⟩ (.int .i64 ((rd_T37 l0_1 Aa).f1.f0))).setCell ⟨Ab, 2, none⟩ (.int .i64 ((rd_T37 l0_1 Aa).f1.f1))).setCell ⟨Ab, 3, none⟩ (.int .i64 ((rd_T37 l0_1 Aa).f1.f2))).setCell ⟨Ab, 4, none⟩ (.int .u32 ((rd_T37 l0_1 Aa).f1.f3))).heap[Ai]? = some (.cells #[.int .i64 a0_0, .slice (some Ag) l0_1.length c0_1] 35 (0, 0))) := ⟨kX1 Ad.out Ae.out⟩
    have n1_ : Aside0 ((((((w56.setCell ⟨Ab, 0, none⟩ (.int .i64 ((rd_T37 l0_1 Aa).f0))).setCell ⟨Ab, 1, none⟩ (.int .i64 ((rd_T37 l0_1 Aa).f1.f0))).setCell ⟨Ab, 2, none⟩ (.int .i64 ((rd_T37 l0_1 Aa).f1.f1))).setCell ⟨Ab, 3, none⟩ (.int .i64 ((rd_T37 l0_1 Aa).f1.f2))).setCell ⟨Ab, 4, none⟩ (.int .u32 ((rd_T37 l0_1 Aa).f1.f3))).heap[Ab]? = some (.cells #[.int .i64 ((rd_T37 l0_1 Aa).f0), .int .i64 ((rd_T37 l0_1 Aa).f1.f0), .int .i64 ((rd_T37 l0_1 Aa).f1.f1), .int .i64 ((rd_T37 l0_1 Aa).f1.f2), .int .u32 ((rd_T37 l0_1 Aa).f1.f3)] 37 (0, 0))) := ⟨kX0 Ac.out⟩
    have n2_ : Aside0 (Below w.heap.size w (((((w56.setCell ⟨Ab, 0, none⟩ (.int .i64 ((rd_T37 l0_1 Aa).f0))).setCell ⟨Ab, 1, none⟩ (.int .i64 ((rd_T37 l0_1 Aa).f1.f0))).setCell ⟨Ab, 2, none⟩ (.int .i64 ((rd_T37 l0_1 Aa).f1.f1))).setCell ⟨Ab, 3, none⟩ (.int .i64 ((rd_T37 l0_1 Aa).f1.f2))).setCell ⟨Ab, 4, none⟩ (.int .u32 ((rd_T37 l0_1 Aa).f1.f3)))) := ⟨pE2 HB.out Af.out Aj.out⟩
    (try clear Ad)
    (try clear Ac)
    (try clear HB)
    generalize (((((w56.setCell ⟨Ab, 0, none⟩ (.int .i64 ((rd_T37 l0_1 Aa).f0))).setCell ⟨Ab, 1, none⟩ (.int .i64 ((rd_T37 l0_1 Aa).f1.f0))).setCell ⟨Ab, 2, none⟩ (.int .i64 ((rd_T37 l0_1 Aa).f1.f1))).setCell ⟨Ab, 3, none⟩ (.int .i64 ((rd_T37 l0_1 Aa).f1.f2))).setCell ⟨Ab, 4, none⟩ (.int .u32 ((rd_T37 l0_1 Aa).f1.f3))) = w59 at n0_ n1_ n2_ ⊢
    have Ad := n0_
    have Ac := n1_
    have HB := n2_
    clear n0_ n1_ n2_
    replace Ad := kDa Ad
    replace Ac := kDa Ac
    replace HB := bDa HB
    refine start_ (n := 38) (S := fun w' => cG w' Ab 0 (.int .i64 ((rd_T37 l0_1 Aa).f0)) ∧ cG w' Ab 1 (.int .i64 ((rd_T37 l0_1 Aa).f1.f0)) ∧ cG w' Ab 2 (.int .i64 ((rd_T37 l0_1 Aa).f1.f1)) ∧ cG w' Ab 3 (.int .i64 ((rd_T37 l0_1 Aa).f1.f2)) ∧ cG w' Ab 4 (.int .u32 ((rd_T37 l0_1 Aa).f1.f3))) (ds := []) #[false, false, false, false, false, false, false, false, false, false, false, false, false, false, false, false, false, false, false, false, false, false, false, false, false, false, false, false, false, false, false, false, false, false, false, false, false, false] (by kernel_rfl) rfl rfl ⟨(blk_cell Ac.out 0).trans rfl, (blk_cell Ac.out 1).trans rfl, (blk_cell Ac.out 2).trans rfl, (blk_cell Ac.out 3).trans rfl, (blk_cell Ac.out 4).trans rfl⟩ (fun hHeld => ?_); refine with_tabW garnerref21_May.tab5 garnerref21_May.bits5 (fun HT_ HW_ => ?_)
    generalize w59.drew = w60 at Ad Ac HB hHeld ⊢
    refine pui 0 17 38 1 HT_ ?_
    refine tki 1 18 38 3 HT_ HW_ hHeld ?_
    refine pui 2 19 38 7 HT_ ?_
    refine pui 3 20 38 15 HT_ ?_
    refine pui 4 21 38 31 HT_ ?_
    refine tki 5 22 38 63 HT_ HW_ hHeld ?_
    refine pui 6 23 38 127 HT_ ?_
    refine pui 7 24 38 255 HT_ ?_
    refine pui 8 25 38 511 HT_ ?_
    refine pui 9 26 38 1023 HT_ ?_
    refine tki 10 27 38 2047 HT_ HW_ hHeld ?_
    refine onei 11 28 38 4095 HT_ (fun K hK => ?_)
    refine goes_ Try.func6 (by kernel_rfl) rfl #[.agg #[.int .i64 ((rd_T37 l0_1 Aa).f1.f0), .int .i64 ((rd_T37 l0_1 Aa).f1.f1), .int .i64 ((rd_T37 l0_1 Aa).f1.f2), .int .u32 ((rd_T37 l0_1 Aa).f1.f3)]] (by rfl) rfl rfl pL ?_
    with_reducible refine (garnerref04_May.calls ((rd_T37 l0_1 Aa).f1.f0) ((rd_T37 l0_1 Aa).f1.f1) ((rd_T37 l0_1 Aa).f1.f2) ((rd_T37 l0_1 Aa).f1.f3) false _ A19.out).mono ?_
    rintro e w61 ⟨rfl, hb⟩
    refine ⟨_, rfl, ?_⟩
    replace Ad := kBa Ad hb
    replace Ac := kBa Ac hb
    replace HB := Am (below_step (pE2 HB.out Af.out Aj.out) hb)
    (try clear hb)
    (try clear hb2)
    (try clear hk)
    (try clear hi)
    refine hK.out _ _ ⟨(blk_cell Ac.out 0).trans rfl, (blk_cell Ac.out 1).trans rfl, (blk_cell Ac.out 2).trans rfl, (blk_cell Ac.out 3).trans rfl, (blk_cell Ac.out 4).trans rfl⟩ (fun hHeld => ?_)
    clear hK K
    refine norm_ (a' := ?_) ?_ ?_
    rotate_left
    ·show Act.put _ (some 28) _ = _
     simp only [Act.put, List.setIfInBounds_toArray, List.set_cons_zero, List.set_cons_succ, i64_w, i32_w]
     rfl
    refine pui 12 29 38 8191 HT_ ?_
    refine pui 13 30 38 16383 HT_ ?_
    refine pui 14 31 38 32767 HT_ ?_
    refine pdi 15 32 38 65535 HT_ ?_
    refine pdi 16 33 38 131071 HT_ ?_
    refine pdi 17 34 38 262143 HT_ ?_
    refine pdi 18 35 38 524287 HT_ ?_
    refine pdi 19 36 38 1048575 HT_ ?_
    refine pdi 20 37 38 2097151 HT_ ?_
    refine pui 21 38 38 4194303 HT_ ?_
    refine pui 22 39 38 8388607 HT_ ?_
    refine pdi 23 40 38 16777215 HT_ ?_
    refine pdi 24 41 38 33554431 HT_ ?_
    refine pdi 25 42 38 67108863 HT_ ?_
    refine pdi 26 43 38 134217727 HT_ ?_
    refine pdi 27 44 38 268435455 HT_ ?_
    refine pdi 28 45 38 536870911 HT_ ?_
    refine pdi 29 46 38 1073741823 HT_ ?_
    refine pdi 30 47 38 2147483647 HT_ ?_
    refine pdi 31 48 38 4294967295 HT_ ?_
    refine pdi 32 49 38 8589934591 HT_ ?_
    refine pdi 33 50 38 17179869183 HT_ ?_
    refine pdi 34 51 38 34359738367 HT_ ?_
    refine pdi 35 52 38 68719476735 HT_ ?_
    refine pdi 36 53 38 137438953471 HT_ ?_
    refine pui 37 54 38 274877906943 HT_ ?_
    refine done_ (done_of HT_.out (by kernel_rfl)) ?_
    try go_wp2
    go_ret
    exact ⟨pX, pE2 HB.out Af.out Aj.out⟩
   subst c20
   have H1 : (if ((rd_T37 l0_1 Aa).f1.f0) ≤ a0_0 then (some false) else (if Aa > 0 then (if 0 ≤ (wrap64 (Aa - 1)) then (if (wrap64 (Aa - 1)) < (l0_1.length : Int) then (if ((rd_T37 l0_1 Aa).f0) ≤ ((rd_T37 l0_1 (wrap64 (Aa - 1))).f0) then (some false) else (garnerref21_May.l0 k1 (wrap64 (Aa + 1)) a0_0 l0_1)) else (none)) else (none)) else (garnerref21_May.l0 k1 (wrap64 (Aa + 1)) a0_0 l0_1))) = some r := by rw [if_pos rfl] at H; exact H
   clear H
   have H := H1
   clear H1
   by_cases c21 : ((rd_T37 l0_1 Aa).f1.f0) ≤ a0_0
   ·rw [if_pos c21] at H
    have c21b0 : decide (((rd_T37 l0_1 Aa).f1.f0) ≤ a0_0) = true := decide_eq_true c21
    clear c21
    obtain rfl := Option.some.inj H
    obtain ⟨_, _⟩ := bc2 Ad.out
    obtain ⟨_, _⟩ := bf2 Ad.out
    have p129 : 0 ≤ (Aa : Int) := of_decide_eq_true pS
    have q129 : Aa < (l0_1.length : Int) := of_decide_eq_true pS
    obtain ⟨Ag, e129, Al, An, Ao, Ap, Aq⟩ := at_T37u Ar.out Aa p129 q129 HB.out
    cases e129
    replace p129 := eq_true p129
    replace q129 := eq_true q129
    try go_wp2_with (first | ((with_reducible refine gate_dst (N := 4) rfl ?_); (try (refine gate_guard (by rfl) ?_; dsimp only)); refine box_event ?hg (N := 4) ?hd (cs := #[.int .i64 0, .int .i64 0, .int .i64 0, .int .i64 0, .int .u32 0]) (t := 37) ?hr ?_; (case hd => rfl); (case hg => rfl); (case hr => first | (go_simp; done) | (go_simp; rfl)); intro Ab hg w23 hbox hb; have Ac := Am (hbox); have Ak := Am ((by rw [hg]; exact (below_size (pE HB.out Af.out)) : w.heap.size ≤ Ab)); replace HB := Am (below_step (pE HB.out Af.out) hb); have Aj := Ak; have Ae := Am ((by rw [hg]; exact Nat.ne_of_lt (kL Ad.out) : Ai ≠ Ab)); have Ah := Am ((by rw [hg]; exact Nat.ne_of_gt (kL Ad.out) : Ab ≠ Ai)); replace Ad := kBa Ad hb; clear hb hbox hg; have hnb24 := Ah.out; have hnc24 := Ae.out; obtain ⟨_, _, _, _, _⟩ := bc5 Ac.out; obtain ⟨_, _, _, _, _⟩ := bf5 Ac.out))
    have n0_ : Aside0 ((((((w23.setCell ⟨Ab, 0, none⟩ (.int .i64 ((rd_T37 l0_1 Aa).f0))).setCell ⟨Ab, 1, none⟩ (.int .i64 ((rd_T37 l0_1 Aa).f1.f0))).setCell ⟨Ab, 2, none⟩ (.int .i64 ((rd_T37 l0_1 Aa).f1.f1))).setCell ⟨Ab, 3, none⟩ (.int .i64 ((rd_T37 l0_1 Aa).f1.f2))).setCell ⟨Ab, 4, none⟩ (.int .u32 ((rd_T37 l0_1 Aa).f1.f3))).heap[Ai]? = some (.cells #[.int .i64 a0_0, .slice (some Ag) l0_1.length c0_1] 35 (0, 0))) := ⟨kX1 Ad.out Ae.out⟩
    have n1_ : Aside0 ((((((w23.setCell ⟨Ab, 0, none⟩ (.int .i64 ((rd_T37 l0_1 Aa).f0))).setCell ⟨Ab, 1, none⟩ (.int .i64 ((rd_T37 l0_1 Aa).f1.f0))).setCell ⟨Ab, 2, none⟩ (.int .i64 ((rd_T37 l0_1 Aa).f1.f1))).setCell ⟨Ab, 3, none⟩ (.int .i64 ((rd_T37 l0_1 Aa).f1.f2))).setCell ⟨Ab, 4, none⟩ (.int .u32 ((rd_T37 l0_1 Aa).f1.f3))).heap[Ab]? = some (.cells #[.int .i64 ((rd_T37 l0_1 Aa).f0), .int .i64 ((rd_T37 l0_1 Aa).f1.f0), .int .i64 ((rd_T37 l0_1 Aa).f1.f1), .int .i64 ((rd_T37 l0_1 Aa).f1.f2), .int .u32 ((rd_T37 l0_1 Aa).f1.f3)] 37 (0, 0))) := ⟨kX0 Ac.out⟩
    have n2_ : Aside0 (Below w.heap.size w (((((w23.setCell ⟨Ab, 0, none⟩ (.int .i64 ((rd_T37 l0_1 Aa).f0))).setCell ⟨Ab, 1, none⟩ (.int .i64 ((rd_T37 l0_1 Aa).f1.f0))).setCell ⟨Ab, 2, none⟩ (.int .i64 ((rd_T37 l0_1 Aa).f1.f1))).setCell ⟨Ab, 3, none⟩ (.int .i64 ((rd_T37 l0_1 Aa).f1.f2))).setCell ⟨Ab, 4, none⟩ (.int .u32 ((rd_T37 l0_1 Aa).f1.f3)))) := ⟨pE2 HB.out Af.out Aj.out⟩
    (try clear Ad)
    (try clear Ac)
    (try clear HB)
    generalize (((((w23.setCell ⟨Ab, 0, none⟩ (.int .i64 ((rd_T37 l0_1 Aa).f0))).setCell ⟨Ab, 1, none⟩ (.int .i64 ((rd_T37 l0_1 Aa).f1.f0))).setCell ⟨Ab, 2, none⟩ (.int .i64 ((rd_T37 l0_1 Aa).f1.f1))).setCell ⟨Ab, 3, none⟩ (.int .i64 ((rd_T37 l0_1 Aa).f1.f2))).setCell ⟨Ab, 4, none⟩ (.int .u32 ((rd_T37 l0_1 Aa).f1.f3))) = w26 at n0_ n1_ n2_ ⊢
    have Ad := n0_
    have Ac := n1_
    have HB := n2_
    clear n0_ n1_ n2_
    replace Ad := kDa Ad
    replace Ac := kDa Ac
    replace HB := bDa HB
    refine start_ (n := 38) (S := fun w' => cG w' Ab 0 (.int .i64 ((rd_T37 l0_1 Aa).f0)) ∧ cG w' Ab 1 (.int .i64 ((rd_T37 l0_1 Aa).f1.f0)) ∧ cG w' Ab 2 (.int .i64 ((rd_T37 l0_1 Aa).f1.f1)) ∧ cG w' Ab 3 (.int .i64 ((rd_T37 l0_1 Aa).f1.f2)) ∧ cG w' Ab 4 (.int .u32 ((rd_T37 l0_1 Aa).f1.f3)) ∧ cG w' Ai 0 (.int .i64 a0_0) ∧ cG w' Ai 1 (.slice (some Ag) l0_1.length c0_1)) (ds := []) #[false, false, false, false, false, false, false, false, false, false, false, false, false, false, false, false, false, false, false, false, false, false, false, false, false, false, false, false, false, false, false, false, false, false, false, false, false, false] (by kernel_rfl) rfl rfl ⟨(blk_cell Ac.out 0).trans rfl, (blk_cell Ac.out 1).trans rfl, (blk_cell Ac.out 2).trans rfl, (blk_cell Ac.out 3).trans rfl, (blk_cell Ac.out 4).trans rfl, (blk_cell Ad.out 0).trans rfl, (blk_cell Ad.out 1).trans rfl⟩ (fun hHeld => ?_); refine with_tabW garnerref21_May.tab5 garnerref21_May.bits5 (fun HT_ HW_ => ?_)
    generalize w26.drew = w27 at Ad Ac HB hHeld ⊢
    refine pui 0 17 38 1 HT_ ?_
    refine tki 1 18 38 3 HT_ HW_ hHeld ?_
    refine pui 2 19 38 7 HT_ ?_
    refine pui 3 20 38 15 HT_ ?_
    refine pui 4 21 38 31 HT_ ?_
    refine tki 5 22 38 63 HT_ HW_ hHeld ?_
    refine pui 6 23 38 127 HT_ ?_
    refine pui 7 24 38 255 HT_ ?_
    refine pui 8 25 38 511 HT_ ?_
    refine pui 9 26 38 1023 HT_ ?_
    refine tki 10 27 38 2047 HT_ HW_ hHeld ?_
    refine onei 11 28 38 4095 HT_ (fun K hK => ?_)
    refine goes_ Try.func6 (by kernel_rfl) rfl #[.agg #[.int .i64 ((rd_T37 l0_1 Aa).f1.f0), .int .i64 ((rd_T37 l0_1 Aa).f1.f1), .int .i64 ((rd_T37 l0_1 Aa).f1.f2), .int .u32 ((rd_T37 l0_1 Aa).f1.f3)]] (by rfl) rfl rfl pL ?_
    with_reducible refine (garnerref04_May.calls ((rd_T37 l0_1 Aa).f1.f0) ((rd_T37 l0_1 Aa).f1.f1) ((rd_T37 l0_1 Aa).f1.f2) ((rd_T37 l0_1 Aa).f1.f3) true _ A19.out).mono ?_
    rintro e w28 ⟨rfl, hb⟩
    refine ⟨_, rfl, ?_⟩
    replace Ad := kBa Ad hb
    replace Ac := kBa Ac hb
    replace HB := Am (below_step (pE2 HB.out Af.out Aj.out) hb)
    (try clear hb)
    (try clear hb2)
    (try clear hk)
    (try clear hi)
    refine hK.out _ _ ⟨(blk_cell Ac.out 0).trans rfl, (blk_cell Ac.out 1).trans rfl, (blk_cell Ac.out 2).trans rfl, (blk_cell Ac.out 3).trans rfl, (blk_cell Ac.out 4).trans rfl, (blk_cell Ad.out 0).trans rfl, (blk_cell Ad.out 1).trans rfl⟩ (fun hHeld => ?_)
    clear hK K
    refine norm_ (a' := ?_) ?_ ?_
    rotate_left
    ·show Act.put _ (some 28) _ = _
     simp only [Act.put, List.setIfInBounds_toArray, List.set_cons_zero, List.set_cons_succ, i64_w, i32_w]
     rfl
    refine pui 12 29 38 8191 HT_ ?_
    refine pui 13 30 38 16383 HT_ ?_
    refine pui 14 31 38 32767 HT_ ?_
    refine pui 15 32 38 65535 HT_ ?_
    refine pui 16 33 38 131071 HT_ ?_
    refine pui 18 35 38 393215 HT_ ?_
    refine tki 17 34 38 524287 HT_ HW_ hHeld ?_
    refine tki 19 36 38 1048575 HT_ HW_ hHeld ?_
    refine pui 20 37 38 2097151 HT_ ?_
    refine pui 21 38 38 4194303 HT_ ?_
    refine pui 22 39 38 8388607 HT_ ?_
    refine pdi 23 40 38 16777215 HT_ ?_
    refine pdi 24 41 38 33554431 HT_ ?_
    refine pdi 25 42 38 67108863 HT_ ?_
    refine pdi 26 43 38 134217727 HT_ ?_
    refine pdi 27 44 38 268435455 HT_ ?_
    refine pdi 28 45 38 536870911 HT_ ?_
    refine pdi 29 46 38 1073741823 HT_ ?_
    refine pdi 30 47 38 2147483647 HT_ ?_
    refine pdi 31 48 38 4294967295 HT_ ?_
    refine pdi 32 49 38 8589934591 HT_ ?_
    refine pdi 33 50 38 17179869183 HT_ ?_
    refine pdi 34 51 38 34359738367 HT_ ?_
    refine pdi 35 52 38 68719476735 HT_ ?_
    refine pdi 36 53 38 137438953471 HT_ ?_
    refine pui 37 54 38 274877906943 HT_ ?_
    refine done_ (done_of HT_.out (by kernel_rfl)) ?_
    try go_wp2
    go_ret
    exact ⟨pX, pE2 HB.out Af.out Aj.out⟩
   rw [if_neg c21] at H
   have c21b0 : decide (((rd_T37 l0_1 Aa).f1.f0) ≤ a0_0) = false := decide_eq_false c21
   clear c21
   by_cases c29 : Aa > 0
   rotate_left
   ·rw [if_neg c29] at H
    have c29b0 : decide (0 < Aa) = false := decide_eq_false c29
    clear c29
    have H' := Am H
    clear H
    obtain ⟨_, _⟩ := bc2 Ad.out
    obtain ⟨_, _⟩ := bf2 Ad.out
    have p129 : 0 ≤ (Aa : Int) := of_decide_eq_true pS
    have q129 : Aa < (l0_1.length : Int) := of_decide_eq_true pS
    obtain ⟨Ag, e129, Al, An, Ao, Ap, Aq⟩ := at_T37u Ar.out Aa p129 q129 HB.out
    cases e129
    replace p129 := eq_true p129
    replace q129 := eq_true q129
    try go_wp2_with (first | ((with_reducible refine gate_dst (N := 4) rfl ?_); (try (refine gate_guard (by rfl) ?_; dsimp only)); refine box_event ?hg (N := 4) ?hd (cs := #[.int .i64 0, .int .i64 0, .int .i64 0, .int .i64 0, .int .u32 0]) (t := 37) ?hr ?_; (case hd => rfl); (case hg => rfl); (case hr => first | (go_simp; done) | (go_simp; rfl)); intro Ab hg w49 hbox hb; have Ac := Am (hbox); have Ak := Am ((by rw [hg]; exact (below_size (pE HB.out Af.out)) : w.heap.size ≤ Ab)); replace HB := Am (below_step (pE HB.out Af.out) hb); have Aj := Ak; have Ae := Am ((by rw [hg]; exact Nat.ne_of_lt (kL Ad.out) : Ai ≠ Ab)); have Ah := Am ((by rw [hg]; exact Nat.ne_of_gt (kL Ad.out) : Ab ≠ Ai)); replace Ad := kBa Ad hb; clear hb hbox hg; have hnb50 := Ah.out; have hnc50 := Ae.out; obtain ⟨_, _, _, _, _⟩ := bc5 Ac.out; obtain ⟨_, _, _, _, _⟩ := bf5 Ac.out))
    have n0_ : Aside0 ((((((w49.setCell ⟨Ab, 0, none⟩ (.int .i64 ((rd_T37 l0_1 Aa).f0))).setCell ⟨Ab, 1, none⟩ (.int .i64 ((rd_T37 l0_1 Aa).f1.f0))).setCell ⟨Ab, 2, none⟩ (.int .i64 ((rd_T37 l0_1 Aa).f1.f1))).setCell ⟨Ab, 3, none⟩ (.int .i64 ((rd_T37 l0_1 Aa).f1.f2))).setCell ⟨Ab, 4, none⟩ (.int .u32 ((rd_T37 l0_1 Aa).f1.f3))).heap[Ai]? = some (.cells #[.int .i64 a0_0, .slice (some Ag) l0_1.length c0_1] 35 (0, 0))) := ⟨kX1 Ad.out Ae.out⟩
    have n1_ : Aside0 ((((((w49.setCell ⟨Ab, 0, none⟩ (.int .i64 ((rd_T37 l0_1 Aa).f0))).setCell ⟨Ab, 1, none⟩ (.int .i64 ((rd_T37 l0_1 Aa).f1.f0))).setCell ⟨Ab, 2, none⟩ (.int .i64 ((rd_T37 l0_1 Aa).f1.f1))).setCell ⟨Ab, 3, none⟩ (.int .i64 ((rd_T37 l0_1 Aa).f1.f2))).setCell ⟨Ab, 4, none⟩ (.int .u32 ((rd_T37 l0_1 Aa).f1.f3))).heap[Ab]? = some (.cells #[.int .i64 ((rd_T37 l0_1 Aa).f0), .int .i64 ((rd_T37 l0_1 Aa).f1.f0), .int .i64 ((rd_T37 l0_1 Aa).f1.f1), .int .i64 ((rd_T37 l0_1 Aa).f1.f2), .int .u32 ((rd_T37 l0_1 Aa).f1.f3)] 37 (0, 0))) := ⟨kX0 Ac.out⟩
    have n2_ : Aside0 (Below w.heap.size w (((((w49.setCell ⟨Ab, 0, none⟩ (.int .i64 ((rd_T37 l0_1 Aa).f0))).setCell ⟨Ab, 1, none⟩ (.int .i64 ((rd_T37 l0_1 Aa).f1.f0))).setCell ⟨Ab, 2, none⟩ (.int .i64 ((rd_T37 l0_1 Aa).f1.f1))).setCell ⟨Ab, 3, none⟩ (.int .i64 ((rd_T37 l0_1 Aa).f1.f2))).setCell ⟨Ab, 4, none⟩ (.int .u32 ((rd_T37 l0_1 Aa).f1.f3)))) := ⟨pE2 HB.out Af.out Aj.out⟩
    (try clear Ad)
    (try clear Ac)
    (try clear HB)
    generalize (((((w49.setCell ⟨Ab, 0, none⟩ (.int .i64 ((rd_T37 l0_1 Aa).f0))).setCell ⟨Ab, 1, none⟩ (.int .i64 ((rd_T37 l0_1 Aa).f1.f0))).setCell ⟨Ab, 2, none⟩ (.int .i64 ((rd_T37 l0_1 Aa).f1.f1))).setCell ⟨Ab, 3, none⟩ (.int .i64 ((rd_T37 l0_1 Aa).f1.f2))).setCell ⟨Ab, 4, none⟩ (.int .u32 ((rd_T37 l0_1 Aa).f1.f3))) = w52 at n0_ n1_ n2_ ⊢
    have Ad := n0_
    have Ac := n1_
    have HB := n2_
    clear n0_ n1_ n2_
    replace Ad := kDa Ad
    replace Ac := kDa Ac
    replace HB := bDa HB
    refine start_ (n := 38) (S := fun w' => cG w' Ab 0 (.int .i64 ((rd_T37 l0_1 Aa).f0)) ∧ cG w' Ab 1 (.int .i64 ((rd_T37 l0_1 Aa).f1.f0)) ∧ cG w' Ab 2 (.int .i64 ((rd_T37 l0_1 Aa).f1.f1)) ∧ cG w' Ab 3 (.int .i64 ((rd_T37 l0_1 Aa).f1.f2)) ∧ cG w' Ab 4 (.int .u32 ((rd_T37 l0_1 Aa).f1.f3)) ∧ cG w' Ai 0 (.int .i64 a0_0) ∧ cG w' Ai 1 (.slice (some Ag) l0_1.length c0_1)) (ds := []) #[false, false, false, false, false, false, false, false, false, false, false, false, false, false, false, false, false, false, false, false, false, false, false, false, false, false, false, false, false, false, false, false, false, false, false, false, false, false] (by kernel_rfl) rfl rfl ⟨(blk_cell Ac.out 0).trans rfl, (blk_cell Ac.out 1).trans rfl, (blk_cell Ac.out 2).trans rfl, (blk_cell Ac.out 3).trans rfl, (blk_cell Ac.out 4).trans rfl, (blk_cell Ad.out 0).trans rfl, (blk_cell Ad.out 1).trans rfl⟩ (fun hHeld => ?_); refine with_tabW garnerref21_May.tab5 garnerref21_May.bits5 (fun HT_ HW_ => ?_)
    generalize w52.drew = w53 at Ad Ac HB hHeld ⊢
    refine pui 0 17 38 1 HT_ ?_
    refine tki 1 18 38 3 HT_ HW_ hHeld ?_
    refine pui 2 19 38 7 HT_ ?_
    refine pui 3 20 38 15 HT_ ?_
    refine pui 4 21 38 31 HT_ ?_
    refine tki 5 22 38 63 HT_ HW_ hHeld ?_
    refine pui 6 23 38 127 HT_ ?_
    refine pui 7 24 38 255 HT_ ?_
    refine pui 8 25 38 511 HT_ ?_
    refine pui 9 26 38 1023 HT_ ?_
    refine tki 10 27 38 2047 HT_ HW_ hHeld ?_
    refine onei 11 28 38 4095 HT_ (fun K hK => ?_)
    refine goes_ Try.func6 (by kernel_rfl) rfl #[.agg #[.int .i64 ((rd_T37 l0_1 Aa).f1.f0), .int .i64 ((rd_T37 l0_1 Aa).f1.f1), .int .i64 ((rd_T37 l0_1 Aa).f1.f2), .int .u32 ((rd_T37 l0_1 Aa).f1.f3)]] (by rfl) rfl rfl pL ?_
    with_reducible refine (garnerref04_May.calls ((rd_T37 l0_1 Aa).f1.f0) ((rd_T37 l0_1 Aa).f1.f1) ((rd_T37 l0_1 Aa).f1.f2) ((rd_T37 l0_1 Aa).f1.f3) true _ A19.out).mono ?_
    rintro e w54 ⟨rfl, hb⟩
    refine ⟨_, rfl, ?_⟩
    replace Ad := kBa Ad hb
    replace Ac := kBa Ac hb
    replace HB := Am (below_step (pE2 HB.out Af.out Aj.out) hb)
    (try clear hb)
    (try clear hb2)
    (try clear hk)
    (try clear hi)
    refine hK.out _ _ ⟨(blk_cell Ac.out 0).trans rfl, (blk_cell Ac.out 1).trans rfl, (blk_cell Ac.out 2).trans rfl, (blk_cell Ac.out 3).trans rfl, (blk_cell Ac.out 4).trans rfl, (blk_cell Ad.out 0).trans rfl, (blk_cell Ad.out 1).trans rfl⟩ (fun hHeld => ?_)
    clear hK K
    refine norm_ (a' := ?_) ?_ ?_
    rotate_left
    ·show Act.put _ (some 28) _ = _
     simp only [Act.put, List.setIfInBounds_toArray, List.set_cons_zero, List.set_cons_succ, i64_w, i32_w]
     rfl
    refine pui 12 29 38 8191 HT_ ?_
    refine pui 13 30 38 16383 HT_ ?_
    refine pui 14 31 38 32767 HT_ ?_
    refine pui 15 32 38 65535 HT_ ?_
    refine pui 16 33 38 131071 HT_ ?_
    refine pui 18 35 38 393215 HT_ ?_
    refine tki 17 34 38 524287 HT_ HW_ hHeld ?_
    refine tki 19 36 38 1048575 HT_ HW_ hHeld ?_
    refine pui 20 37 38 2097151 HT_ ?_
    refine pui 21 38 38 4194303 HT_ ?_
    refine pui 22 39 38 8388607 HT_ ?_
    refine pui 23 40 38 16777215 HT_ ?_
    refine pui 24 41 38 33554431 HT_ ?_
    refine pui 25 42 38 67108863 HT_ ?_
    refine pdi 26 43 38 134217727 HT_ ?_
    refine pdi 27 44 38 268435455 HT_ ?_
    refine pdi 28 45 38 536870911 HT_ ?_
    refine pdi 29 46 38 1073741823 HT_ ?_
    refine pdi 30 47 38 2147483647 HT_ ?_
    refine pdi 31 48 38 4294967295 HT_ ?_
    refine pdi 32 49 38 8589934591 HT_ ?_
    refine pdi 33 50 38 17179869183 HT_ ?_
    refine pdi 34 51 38 34359738367 HT_ ?_
    refine pdi 35 52 38 68719476735 HT_ ?_
    refine pui 36 53 38 137438953471 HT_ ?_
    refine pui 37 54 38 274877906943 HT_ ?_
    refine done_ (done_of HT_.out (by kernel_rfl)) ?_
    try go_wp2
    go_roundg k1
    case measure => have := HK1.out; omega
    case rel => exact ⟨(wrap64 (Aa + 1)), (by first | rfl | (simp; done) | (simp [*]; done)), H', ⟨by have := HK1.out; omega⟩, ⟨pK Ad.out⟩, ⟨pE2 HB.out Af.out Aj.out⟩⟩
   rw [if_pos c29] at H
   have c29b0 : decide (0 < Aa) = true := decide_eq_true c29
   clear c29
   obtain ⟨ji30, hji30⟩ : ∃ j_ : Int, (wrap64 (Aa - 1)) = j_ := ⟨_, rfl⟩
   replace H : (if 0 ≤ (ji30) then (if (ji30) < (l0_1.length : Int) then (if ((rd_T37 l0_1 Aa).f0) ≤ ((rd_T37 l0_1 (ji30)).f0) then (some false) else (garnerref21_May.l0 k1 (wrap64 (Aa + 1)) a0_0 l0_1)) else (none)) else (none)) = some r := by first | (rw [hji30] at H; exact H) | (simp only [hji30] at H ⊢; exact H)
   (try rw [hji30] at A19)
   have hji30w : (IntKind.i64.wrap (Aa - 1)) = ji30 := (i64_w _).trans hji30
   by_cases c31 : 0 ≤ (ji30)
   rotate_left
   ·rw [if_neg c31] at H
    exact absurd H (by simp)
   rw [if_pos c31] at H
   have c31b0 : decide (0 ≤ (ji30)) = true := decide_eq_true c31
   clear c31
   by_cases c32 : (ji30) < (l0_1.length : Int)
   rotate_left
   ·rw [if_neg c32] at H
    exact absurd H (by simp)
   rw [if_pos c32] at H
   have c32b0 : decide ((ji30) < (l0_1.length : Int)) = true := decide_eq_true c32
   clear c32
   by_cases c33 : ((rd_T37 l0_1 Aa).f0) ≤ ((rd_T37 l0_1 (ji30)).f0)
   ·rw [if_pos c33] at H
    have c33b0 : decide (((rd_T37 l0_1 Aa).f0) ≤ ((rd_T37 l0_1 (ji30)).f0)) = true := decide_eq_true c33
    clear c33
    obtain rfl := Option.some.inj H
    obtain ⟨_, _⟩ := bc2 Ad.out
    obtain ⟨_, _⟩ := bf2 Ad.out
    have p129 : 0 ≤ (Aa : Int) := of_decide_eq_true pS
    have q129 : Aa < (l0_1.length : Int) := of_decide_eq_true pS
    obtain ⟨Ag, e129, Al, An, Ao, Ap, Aq⟩ := at_T37u Ar.out Aa p129 q129 HB.out
    cases e129
    replace p129 := eq_true p129
    replace q129 := eq_true q129
    try go_wp2_with (first | ((with_reducible refine gate_dst (N := 4) rfl ?_); (try (refine gate_guard (by rfl) ?_; dsimp only)); refine box_event ?hg (N := 4) ?hd (cs := #[.int .i64 0, .int .i64 0, .int .i64 0, .int .i64 0, .int .u32 0]) (t := 37) ?hr ?_; (case hd => rfl); (case hg => rfl); (case hr => first | (go_simp; done) | (go_simp; rfl)); intro Ab hg w35 hbox hb; have Ac := Am (hbox); have Ak := Am ((by rw [hg]; exact (below_size (pE HB.out Af.out)) : w.heap.size ≤ Ab)); replace HB := Am (below_step (pE HB.out Af.out) hb); have Aj := Ak; have Ae := Am ((by rw [hg]; exact Nat.ne_of_lt (kL Ad.out) : Ai ≠ Ab)); have Ah := Am ((by rw [hg]; exact Nat.ne_of_gt (kL Ad.out) : Ab ≠ Ai)); replace Ad := kBa Ad hb; clear hb hbox hg; have hnb36 := Ah.out; have hnc36 := Ae.out; obtain ⟨_, _, _, _, _⟩ := bc5 Ac.out; obtain ⟨_, _, _, _, _⟩ := bf5 Ac.out))
    have n0_ : Aside0 ((((((w35.setCell ⟨Ab, 0, none⟩ (.int .i64 ((rd_T37 l0_1 Aa).f0))).setCell ⟨Ab, 1, none⟩ (.int .i64 ((rd_T37 l0_1 Aa).f1.f0))).setCell ⟨Ab, 2, none⟩ (.int .i64 ((rd_T37 l0_1 Aa).f1.f1))).setCell ⟨Ab, 3, none⟩ (.int .i64 ((rd_T37 l0_1 Aa).f1.f2))).setCell ⟨Ab, 4, none⟩ (.int .u32 ((rd_T37 l0_1 Aa).f1.f3))).heap[Ai]? = some (.cells #[.int .i64 a0_0, .slice (some Ag) l0_1.length c0_1] 35 (0, 0))) := ⟨kX1 Ad.out Ae.out⟩
    have n1_ : Aside0 ((((((w35.setCell ⟨Ab, 0, none⟩ (.int .i64 ((rd_T37 l0_1 Aa).f0))).setCell ⟨Ab, 1, none⟩ (.int .i64 ((rd_T37 l0_1 Aa).f1.f0))).setCell ⟨Ab, 2, none⟩ (.int .i64 ((rd_T37 l0_1 Aa).f1.f1))).setCell ⟨Ab, 3, none⟩ (.int .i64 ((rd_T37 l0_1 Aa).f1.f2))).setCell ⟨Ab, 4, none⟩ (.int .u32 ((rd_T37 l0_1 Aa).f1.f3))).heap[Ab]? = some (.cells #[.int .i64 ((rd_T37 l0_1 Aa).f0), .int .i64 ((rd_T37 l0_1 Aa).f1.f0), .int .i64 ((rd_T37 l0_1 Aa).f1.f1), .int .i64 ((rd_T37 l0_1 Aa).f1.f2), .int .u32 ((rd_T37 l0_1 Aa).f1.f3)] 37 (0, 0))) := ⟨kX0 Ac.out⟩
    have n2_ : Aside0 (Below w.heap.size w (((((w35.setCell ⟨Ab, 0, none⟩ (.int .i64 ((rd_T37 l0_1 Aa).f0))).setCell ⟨Ab, 1, none⟩ (.int .i64 ((rd_T37 l0_1 Aa).f1.f0))).setCell ⟨Ab, 2, none⟩ (.int .i64 ((rd_T37 l0_1 Aa).f1.f1))).setCell ⟨Ab, 3, none⟩ (.int .i64 ((rd_T37 l0_1 Aa).f1.f2))).setCell ⟨Ab, 4, none⟩ (.int .u32 ((rd_T37 l0_1 Aa).f1.f3)))) := ⟨pE2 HB.out Af.out Aj.out⟩
    (try clear Ad)
    (try clear Ac)
    (try clear HB)
    generalize (((((w35.setCell ⟨Ab, 0, none⟩ (.int .i64 ((rd_T37 l0_1 Aa).f0))).setCell ⟨Ab, 1, none⟩ (.int .i64 ((rd_T37 l0_1 Aa).f1.f0))).setCell ⟨Ab, 2, none⟩ (.int .i64 ((rd_T37 l0_1 Aa).f1.f1))).setCell ⟨Ab, 3, none⟩ (.int .i64 ((rd_T37 l0_1 Aa).f1.f2))).setCell ⟨Ab, 4, none⟩ (.int .u32 ((rd_T37 l0_1 Aa).f1.f3))) = w38 at n0_ n1_ n2_ ⊢
    have Ad := n0_
    have Ac := n1_
    have HB := n2_
    clear n0_ n1_ n2_
    replace Ad := kDa Ad
    replace Ac := kDa Ac
    replace HB := bDa HB
    have p132 : 0 ≤ ((ji30) : Int) := of_decide_eq_true pS
    have q132 : (ji30) < (l0_1.length : Int) := of_decide_eq_true pS
    obtain ⟨A2, e132, Ax, Ay, Az, A0, A1, As, At, Au, Av, Aw⟩ := at_T37w Ar.out (ji30) p132 q132 HB.out
    obtain rfl : Ag = A2 := (by injection e132)
    replace p132 := eq_true p132
    replace q132 := eq_true q132
    refine start_ (n := 38) (S := fun w' => cG w' Ab 0 (.int .i64 ((rd_T37 l0_1 Aa).f0)) ∧ cG w' Ab 1 (.int .i64 ((rd_T37 l0_1 Aa).f1.f0)) ∧ cG w' Ab 2 (.int .i64 ((rd_T37 l0_1 Aa).f1.f1)) ∧ cG w' Ab 3 (.int .i64 ((rd_T37 l0_1 Aa).f1.f2)) ∧ cG w' Ab 4 (.int .u32 ((rd_T37 l0_1 Aa).f1.f3)) ∧ cG w' Ai 0 (.int .i64 a0_0) ∧ cG w' Ai 1 (.slice (some Ag) l0_1.length c0_1) ∧ w'.cell? (Ag.add (((ji30)).toNat * 5)) = some (.int .i64 ((rd_T37 l0_1 (ji30)).f0)) ∧ w'.cell? ⟨(Ag.add (((ji30)).toNat * 5)).block, (Ag.add (((ji30)).toNat * 5)).off + 1, none⟩ = some (.int .i64 ((rd_T37 l0_1 (ji30)).f1.f0)) ∧ w'.cell? ⟨(Ag.add (((ji30)).toNat * 5)).block, (Ag.add (((ji30)).toNat * 5)).off + 2, none⟩ = some (.int .i64 ((rd_T37 l0_1 (ji30)).f1.f1)) ∧ w'.cell? ⟨(Ag.add (((ji30)).toNat * 5)).block, (Ag.add (((ji30)).toNat * 5)).off + 3, none⟩ = some (.int .i64 ((rd_T37 l0_1 (ji30)).f1.f2)) ∧ w'.cell? ⟨(Ag.add (((ji30)).toNat * 5)).block, (Ag.add (((ji30)).toNat * 5)).off + 4, none⟩ = some (.int .u32 ((rd_T37 l0_1 (ji30)).f1.f3))) (ds := []) #[false, false, false, false, false, false, false, false, false, false, false, false, false, false, false, false, false, false, false, false, false, false, false, false, false, false, false, false, false, false, false, false, false, false, false, false, false, false] (by kernel_rfl) rfl rfl ⟨(blk_cell Ac.out 0).trans rfl, (blk_cell Ac.out 1).trans rfl, (blk_cell Ac.out 2).trans rfl, (blk_cell Ac.out 3).trans rfl, (blk_cell Ac.out 4).trans rfl, (blk_cell Ad.out 0).trans rfl, (blk_cell Ad.out 1).trans rfl, (cT HB.out As), (cT HB.out At), (cT HB.out Au), (cT HB.out Av), (cT HB.out Aw)⟩ (fun hHeld => ?_); refine with_tabW garnerref21_May.tab5 garnerref21_May.bits5 (fun HT_ HW_ => ?_)
    generalize w38.drew = w39 at Ad Ac HB Ax Ay Az A0 A1 hHeld ⊢
    refine pui 0 17 38 1 HT_ ?_
    refine tki 1 18 38 3 HT_ HW_ hHeld ?_
    refine pui 2 19 38 7 HT_ ?_
    refine pui 3 20 38 15 HT_ ?_
    refine pui 4 21 38 31 HT_ ?_
    refine tki 5 22 38 63 HT_ HW_ hHeld ?_
    refine pui 6 23 38 127 HT_ ?_
    refine pui 7 24 38 255 HT_ ?_
    refine pui 8 25 38 511 HT_ ?_
    refine pui 9 26 38 1023 HT_ ?_
    refine tki 10 27 38 2047 HT_ HW_ hHeld ?_
    refine onei 11 28 38 4095 HT_ (fun K hK => ?_)
    refine goes_ Try.func6 (by kernel_rfl) rfl #[.agg #[.int .i64 ((rd_T37 l0_1 Aa).f1.f0), .int .i64 ((rd_T37 l0_1 Aa).f1.f1), .int .i64 ((rd_T37 l0_1 Aa).f1.f2), .int .u32 ((rd_T37 l0_1 Aa).f1.f3)]] (by rfl) rfl rfl pL ?_
    with_reducible refine (garnerref04_May.calls ((rd_T37 l0_1 Aa).f1.f0) ((rd_T37 l0_1 Aa).f1.f1) ((rd_T37 l0_1 Aa).f1.f2) ((rd_T37 l0_1 Aa).f1.f3) true _ A19.out).mono ?_
    rintro e w40 ⟨rfl, hb⟩
    refine ⟨_, rfl, ?_⟩
    replace Ad := kBa Ad hb
    replace Ac := kBa Ac hb
    replace HB := Am (below_step (pE2 HB.out Af.out Aj.out) hb)
    (try clear hb)
    (try clear hb2)
    (try clear hk)
    (try clear hi)
    refine hK.out _ _ ⟨(blk_cell Ac.out 0).trans rfl, (blk_cell Ac.out 1).trans rfl, (blk_cell Ac.out 2).trans rfl, (blk_cell Ac.out 3).trans rfl, (blk_cell Ac.out 4).trans rfl, (blk_cell Ad.out 0).trans rfl, (blk_cell Ad.out 1).trans rfl, (cT HB.out As), (cT HB.out At), (cT HB.out Au), (cT HB.out Av), (cT HB.out Aw)⟩ (fun hHeld => ?_)
    clear hK K
    refine norm_ (a' := ?_) ?_ ?_
    rotate_left
    ·show Act.put _ (some 28) _ = _
     simp only [Act.put, List.setIfInBounds_toArray, List.set_cons_zero, List.set_cons_succ, i64_w, i32_w]
     rfl
    refine pui 12 29 38 8191 HT_ ?_
    refine pui 13 30 38 16383 HT_ ?_
    refine pui 14 31 38 32767 HT_ ?_
    refine pui 15 32 38 65535 HT_ ?_
    refine pui 16 33 38 131071 HT_ ?_
    refine pui 18 35 38 393215 HT_ ?_
    refine tki 17 34 38 524287 HT_ HW_ hHeld ?_
    refine tki 19 36 38 1048575 HT_ HW_ hHeld ?_
    refine pui 20 37 38 2097151 HT_ ?_
    refine pui 21 38 38 4194303 HT_ ?_
    refine pui 22 39 38 8388607 HT_ ?_
    refine pui 23 40 38 16777215 HT_ ?_
    refine pui 24 41 38 33554431 HT_ ?_
    refine pui 25 42 38 67108863 HT_ ?_
    refine pui 26 43 38 134217727 HT_ ?_
    refine pui 28 45 38 402653183 HT_ ?_
    refine pui 30 47 38 1476395007 HT_ ?_
    refine pui 31 48 38 3623878655 HT_ ?_
    refine tki 27 44 38 3758096383 HT_ HW_ hHeld ?_
    refine tki 29 46 38 4294967295 HT_ HW_ hHeld ?_
    refine pui 32 49 38 8589934591 HT_ ?_
    refine pui 33 50 38 17179869183 HT_ ?_
    refine tki 34 51 38 34359738367 HT_ HW_ hHeld ?_
    refine pui 35 52 38 68719476735 HT_ ?_
    refine pui 36 53 38 137438953471 HT_ ?_
    refine pui 37 54 38 274877906943 HT_ ?_
    refine done_ (done_of HT_.out (by kernel_rfl)) ?_
    try go_wp2
    go_ret
    exact ⟨by first | rfl | (simp [errW_none, errW_some] <;> rfl) | (simp only [← hji30]; first | rfl | (simp [errW_none, errW_some] <;> rfl)) | (simp [*, errW_none, errW_some] <;> rfl), pE2 HB.out Af.out Aj.out⟩
   rw [if_neg c33] at H
   have c33b0 : decide (((rd_T37 l0_1 Aa).f0) ≤ ((rd_T37 l0_1 (ji30)).f0)) = false := decide_eq_false c33
   clear c33
   have H' := Am H
   clear H
   obtain ⟨_, _⟩ := bc2 Ad.out
   obtain ⟨_, _⟩ := bf2 Ad.out
   have p129 : 0 ≤ (Aa : Int) := of_decide_eq_true pS
   have q129 : Aa < (l0_1.length : Int) := of_decide_eq_true pS
   obtain ⟨Ag, e129, Al, An, Ao, Ap, Aq⟩ := at_T37u Ar.out Aa p129 q129 HB.out
   cases e129
   replace p129 := eq_true p129
   replace q129 := eq_true q129
   try go_wp2_with (first | ((with_reducible refine gate_dst (N := 4) rfl ?_); (try (refine gate_guard (by rfl) ?_; dsimp only)); refine box_event ?hg (N := 4) ?hd (cs := #[.int .i64 0, .int .i64 0, .int .i64 0, .int .i64 0, .int .u32 0]) (t := 37) ?hr ?_; (case hd => rfl); (case hg => rfl); (case hr => first | (go_simp; done) | (go_simp; rfl)); intro Ab hg w42 hbox hb; have Ac := Am (hbox); have Ak := Am ((by rw [hg]; exact (below_size (pE HB.out Af.out)) : w.heap.size ≤ Ab)); replace HB := Am (below_step (pE HB.out Af.out) hb); have Aj := Ak; have Ae := Am ((by rw [hg]; exact Nat.ne_of_lt (kL Ad.out) : Ai ≠ Ab)); have Ah := Am ((by rw [hg]; exact Nat.ne_of_gt (kL Ad.out) : Ab ≠ Ai)); replace Ad := kBa Ad hb; clear hb hbox hg; have hnb43 := Ah.out; have hnc43 := Ae.out; obtain ⟨_, _, _, _, _⟩ := bc5 Ac.out; obtain ⟨_, _, _, _, _⟩ := bf5 Ac.out))
   have n0_ : Aside0 ((((((w42.setCell ⟨Ab, 0, none⟩ (.int .i64 ((rd_T37 l0_1 Aa).f0))).setCell ⟨Ab, 1, none⟩ (.int .i64 ((rd_T37 l0_1 Aa).f1.f0))).setCell ⟨Ab, 2, none⟩ (.int .i64 ((rd_T37 l0_1 Aa).f1.f1))).setCell ⟨Ab, 3, none⟩ (.int .i64 ((rd_T37 l0_1 Aa).f1.f2))).setCell ⟨Ab, 4, none⟩ (.int .u32 ((rd_T37 l0_1 Aa).f1.f3))).heap[Ai]? = some (.cells #[.int .i64 a0_0, .slice (some Ag) l0_1.length c0_1] 35 (0, 0))) := ⟨kX1 Ad.out Ae.out⟩
   have n1_ : Aside0 ((((((w42.setCell ⟨Ab, 0, none⟩ (.int .i64 ((rd_T37 l0_1 Aa).f0))).setCell ⟨Ab, 1, none⟩ (.int .i64 ((rd_T37 l0_1 Aa).f1.f0))).setCell ⟨Ab, 2, none⟩ (.int .i64 ((rd_T37 l0_1 Aa).f1.f1))).setCell ⟨Ab, 3, none⟩ (.int .i64 ((rd_T37 l0_1 Aa).f1.f2))).setCell ⟨Ab, 4, none⟩ (.int .u32 ((rd_T37 l0_1 Aa).f1.f3))).heap[Ab]? = some (.cells #[.int .i64 ((rd_T37 l0_1 Aa).f0), .int .i64 ((rd_T37 l0_1 Aa).f1.f0), .int .i64 ((rd_T37 l0_1 Aa).f1.f1), .int .i64 ((rd_T37 l0_1 Aa).f1.f2), .int .u32 ((rd_T37 l0_1 Aa).f1.f3)] 37 (0, 0))) := ⟨kX0 Ac.out⟩
   have n2_ : Aside0 (Below w.heap.size w (((((w42.setCell ⟨Ab, 0, none⟩ (.int .i64 ((rd_T37 l0_1 Aa).f0))).setCell ⟨Ab, 1, none⟩ (.int .i64 ((rd_T37 l0_1 Aa).f1.f0))).setCell ⟨Ab, 2, none⟩ (.int .i64 ((rd_T37 l0_1 Aa).f1.f1))).setCell ⟨Ab, 3, none⟩ (.int .i64 ((rd_T37 l0_1 Aa).f1.f2))).setCell ⟨Ab, 4, none⟩ (.int .u32 ((rd_T37 l0_1 Aa).f1.f3)))) := ⟨pE2 HB.out Af.out Aj.out⟩
   (try clear Ad)
   (try clear Ac)
   (try clear HB)
   generalize (((((w42.setCell ⟨Ab, 0, none⟩ (.int .i64 ((rd_T37 l0_1 Aa).f0))).setCell ⟨Ab, 1, none⟩ (.int .i64 ((rd_T37 l0_1 Aa).f1.f0))).setCell ⟨Ab, 2, none⟩ (.int .i64 ((rd_T37 l0_1 Aa).f1.f1))).setCell ⟨Ab, 3, none⟩ (.int .i64 ((rd_T37 l0_1 Aa).f1.f2))).setCell ⟨Ab, 4, none⟩ (.int .u32 ((rd_T37 l0_1 Aa).f1.f3))) = w45 at n0_ n1_ n2_ ⊢
   have Ad := n0_
   have Ac := n1_
   have HB := n2_
   clear n0_ n1_ n2_
   replace Ad := kDa Ad
   replace Ac := kDa Ac
   replace HB := bDa HB
   have p132 : 0 ≤ ((ji30) : Int) := of_decide_eq_true pS
   have q132 : (ji30) < (l0_1.length : Int) := of_decide_eq_true pS
   obtain ⟨A2, e132, Ax, Ay, Az, A0, A1, As, At, Au, Av, Aw⟩ := at_T37w Ar.out (ji30) p132 q132 HB.out
   obtain rfl : Ag = A2 := (by injection e132)
   replace p132 := eq_true p132
   replace q132 := eq_true q132
   refine start_ (n := 38) (S := fun w' => cG w' Ab 0 (.int .i64 ((rd_T37 l0_1 Aa).f0)) ∧ cG w' Ab 1 (.int .i64 ((rd_T37 l0_1 Aa).f1.f0)) ∧ cG w' Ab 2 (.int .i64 ((rd_T37 l0_1 Aa).f1.f1)) ∧ cG w' Ab 3 (.int .i64 ((rd_T37 l0_1 Aa).f1.f2)) ∧ cG w' Ab 4 (.int .u32 ((rd_T37 l0_1 Aa).f1.f3)) ∧ cG w' Ai 0 (.int .i64 a0_0) ∧ cG w' Ai 1 (.slice (some Ag) l0_1.length c0_1) ∧ w'.cell? (Ag.add (((ji30)).toNat * 5)) = some (.int .i64 ((rd_T37 l0_1 (ji30)).f0)) ∧ w'.cell? ⟨(Ag.add (((ji30)).toNat * 5)).block, (Ag.add (((ji30)).toNat * 5)).off + 1, none⟩ = some (.int .i64 ((rd_T37 l0_1 (ji30)).f1.f0)) ∧ w'.cell? ⟨(Ag.add (((ji30)).toNat * 5)).block, (Ag.add (((ji30)).toNat * 5)).off + 2, none⟩ = some (.int .i64 ((rd_T37 l0_1 (ji30)).f1.f1)) ∧ w'.cell? ⟨(Ag.add (((ji30)).toNat * 5)).block, (Ag.add (((ji30)).toNat * 5)).off + 3, none⟩ = some (.int .i64 ((rd_T37 l0_1 (ji30)).f1.f2)) ∧ w'.cell? ⟨(Ag.add (((ji30)).toNat * 5)).block, (Ag.add (((ji30)).toNat * 5)).off + 4, none⟩ = some (.int .u32 ((rd_T37 l0_1 (ji30)).f1.f3))) (ds := []) #[false, false, false, false, false, false, false, false, false, false, false, false, false, false, false, false, false, false, false, false, false, false, false, false, false, false, false, false, false, false, false, false, false, false, false, false, false, false] (by kernel_rfl) rfl rfl ⟨(blk_cell Ac.out 0).trans rfl, (blk_cell Ac.out 1).trans rfl, (blk_cell Ac.out 2).trans rfl, (blk_cell Ac.out 3).trans rfl, (blk_cell Ac.out 4).trans rfl, (blk_cell Ad.out 0).trans rfl, (blk_cell Ad.out 1).trans rfl, (cT HB.out As), (cT HB.out At), (cT HB.out Au), (cT HB.out Av), (cT HB.out Aw)⟩ (fun hHeld => ?_); refine with_tabW garnerref21_May.tab5 garnerref21_May.bits5 (fun HT_ HW_ => ?_)
   generalize w45.drew = w46 at Ad Ac HB Ax Ay Az A0 A1 hHeld ⊢
   refine pui 0 17 38 1 HT_ ?_
   refine tki 1 18 38 3 HT_ HW_ hHeld ?_
   refine pui 2 19 38 7 HT_ ?_
   refine pui 3 20 38 15 HT_ ?_
   refine pui 4 21 38 31 HT_ ?_
   refine tki 5 22 38 63 HT_ HW_ hHeld ?_
   refine pui 6 23 38 127 HT_ ?_
   refine pui 7 24 38 255 HT_ ?_
   refine pui 8 25 38 511 HT_ ?_
   refine pui 9 26 38 1023 HT_ ?_
   refine tki 10 27 38 2047 HT_ HW_ hHeld ?_
   refine onei 11 28 38 4095 HT_ (fun K hK => ?_)
   refine goes_ Try.func6 (by kernel_rfl) rfl #[.agg #[.int .i64 ((rd_T37 l0_1 Aa).f1.f0), .int .i64 ((rd_T37 l0_1 Aa).f1.f1), .int .i64 ((rd_T37 l0_1 Aa).f1.f2), .int .u32 ((rd_T37 l0_1 Aa).f1.f3)]] (by rfl) rfl rfl pL ?_
   with_reducible refine (garnerref04_May.calls ((rd_T37 l0_1 Aa).f1.f0) ((rd_T37 l0_1 Aa).f1.f1) ((rd_T37 l0_1 Aa).f1.f2) ((rd_T37 l0_1 Aa).f1.f3) true _ A19.out).mono ?_
   rintro e w47 ⟨rfl, hb⟩
   refine ⟨_, rfl, ?_⟩
   replace Ad := kBa Ad hb
   replace Ac := kBa Ac hb
   replace HB := Am (below_step (pE2 HB.out Af.out Aj.out) hb)
   (try clear hb)
   (try clear hb2)
   (try clear hk)
   (try clear hi)
   refine hK.out _ _ ⟨(blk_cell Ac.out 0).trans rfl, (blk_cell Ac.out 1).trans rfl, (blk_cell Ac.out 2).trans rfl, (blk_cell Ac.out 3).trans rfl, (blk_cell Ac.out 4).trans rfl, (blk_cell Ad.out 0).trans rfl, (blk_cell Ad.out 1).trans rfl, (cT HB.out As), (cT HB.out At), (cT HB.out Au), (cT HB.out Av), (cT HB.out Aw)⟩ (fun hHeld => ?_)
   clear hK K
   refine norm_ (a' := ?_) ?_ ?_
   rotate_left
   ·show Act.put _ (some 28) _ = _
    simp only [Act.put, List.setIfInBounds_toArray, List.set_cons_zero, List.set_cons_succ, i64_w, i32_w]
    rfl
   refine pui 12 29 38 8191 HT_ ?_
   refine pui 13 30 38 16383 HT_ ?_
   refine pui 14 31 38 32767 HT_ ?_
   refine pui 15 32 38 65535 HT_ ?_
   refine pui 16 33 38 131071 HT_ ?_
   refine pui 18 35 38 393215 HT_ ?_
   refine tki 17 34 38 524287 HT_ HW_ hHeld ?_
   refine tki 19 36 38 1048575 HT_ HW_ hHeld ?_
   refine pui 20 37 38 2097151 HT_ ?_
   refine pui 21 38 38 4194303 HT_ ?_
   refine pui 22 39 38 8388607 HT_ ?_
   refine pui 23 40 38 16777215 HT_ ?_
   refine pui 24 41 38 33554431 HT_ ?_
   refine pui 25 42 38 67108863 HT_ ?_
   refine pui 26 43 38 134217727 HT_ ?_
   refine pui 28 45 38 402653183 HT_ ?_
   refine pui 30 47 38 1476395007 HT_ ?_
   refine pui 31 48 38 3623878655 HT_ ?_
   refine tki 27 44 38 3758096383 HT_ HW_ hHeld ?_
   refine tki 29 46 38 4294967295 HT_ HW_ hHeld ?_
   refine pui 32 49 38 8589934591 HT_ ?_
   refine pui 33 50 38 17179869183 HT_ ?_
   refine tki 34 51 38 34359738367 HT_ HW_ hHeld ?_
   refine pui 35 52 38 68719476735 HT_ ?_
   refine pui 36 53 38 137438953471 HT_ ?_
   refine pui 37 54 38 274877906943 HT_ ?_
   refine done_ (done_of HT_.out (by kernel_rfl)) ?_
   try go_wp2
   go_roundg k1
   case measure => have := HK1.out; omega
   case rel => exact ⟨(wrap64 (Aa + 1)), (by first | rfl | (simp; done) | (simp [*]; done)), H', ⟨by have := HK1.out; omega⟩, ⟨pK Ad.out⟩, ⟨pE2 HB.out Af.out Aj.out⟩⟩
end
end Go.Proofs.Ytklpoeaoojgljaa.PRelayFinds
