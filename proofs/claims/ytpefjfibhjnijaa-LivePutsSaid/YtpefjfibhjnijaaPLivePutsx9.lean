/- What the law reaches, as plain Lean functions, and that the machine's calls answer just that. -/
import Derived.Test.YtpefjfibhjnijaaPLivePutsx0
import Derived.Test.YtpefjfibhjnijaaPLivePutsx7
import Derived.Test.YtpefjfibhjnijaaPLivePutsx4
namespace Go.Proofs.Ytpefjfibhjnijaa.PLivePuts
open Go.RowKit Go.Proofs.YtpefjfibhjnijaaW.PrintWords Go.Proofs.YtpefjfibhjnijaaW.PrintLast Go.Proofs.YtpefjfibhjnijaaW.PrintMore
set_option linter.unusedVariables false
set_option linter.unusedSimpArgs false
section
attribute [local go_sem] max2_int min2_int max_two min_two max_three min_three max_four min_four
attribute [local go_sem] wrap64_l1 wrap64_l2 wrap64_l3 wrap64_l4 wrap64_l5
def tally_Of.f (k : Nat) (l0 : List (S24)) : Option ((List (S79)) × Int) := (tally_Add.f k ([] : List (S79)) l0).bind fun bt197 => (some (bt197.1, bt197.2))
theorem tally_Of.mono : ∀ a0 k, LeO (tally_Of.f k a0) (tally_Of.f (k + 1) a0) := by
  intro a0 k
  unfold tally_Of.f
  repeat' first
      | (with_reducible exact tally_Add.mono _ _ _)
      | (with_reducible exact LeO.refl _)
      | (with_reducible exact LeO.none _)
      | (with_reducible refine LeO.ite ?_ ?_)
      | (with_reducible refine LeO.bind ?_ (fun _ => ?_))
      | exact tally_Add.mono _ _ _
      | exact LeO.none _
      | refine LeO.ite ?_ ?_
      | refine LeO.bind ?_ (fun _ => ?_)
set_option maxHeartbeats 8000000 in
set_option maxRecDepth 100000 in
theorem tally_Of.calls (k : Nat) (A0 : Option Addr) (c0 : Nat) (l0 : List (S24)) (r1 : List (S79)) (r2 : Int) (w : World) (hr0 : Kd.C k24 w A0 l0.length l0) (hc0 : l0.length ≤ c0) (h : tally_Of.f k l0 = some (r1, r2)) :
    Calls Try.prog 32 #[.slice A0 l0.length c0] w fun e w' => ∃ v0_ : Value, e = .returned (.tuple #[v0_, .int .i64 r2]) ∧ Kd.R k79 79 w' w.heap.size (fun _ => True) v0_ r1 ∧ Below w.heap.size w w' := by
  have HR0 := Am hr0
  have HC0 := Am hc0
  clear hr0 hc0
  have HB := Am (Below.refl w.heap.size w)
  have H : ((tally_Add.f k ([] : List (S79)) l0).bind fun bt197 => (some (bt197.1, bt197.2))) = some (r1, r2) := h
  clear h
  replace H := Option.bind_eq_some_iff.mp H
  obtain ⟨⟨t197, t198⟩, A20, H⟩ := H
  replace H : (some (t197, t198)) = some (r1, r2) := H
  have A2 := Am A20
  clear A20
  simp only [Option.some.injEq, Prod.mk.injEq] at H
  obtain ⟨rfl, rfl⟩ := H
  go_enter Try.func32, Try.ntmps32
  go_wp2_with (first | ((with_reducible refine gate_callee (f := 53) rfl ?_); refine goesL_ (some 5) rfl rfl Try.func53 (by kernel_rfl) rfl #[.slice none 0 0, .slice A0 l0.length c0] rfl pL ?_; (refine (tally_Add.calls k _ _ ([] : List (S79)) _ _ l0 t197 t198 _ ?side1 ?side2 ?side3 ?side4 A2.out).mono ?_); (case side1 => exact Kd.C_nil _ _); (case side2 => exact Nat.le_refl _); (case side3 => repeat (first | exact HR0.out | (with_reducible refine Kd.C_alloc ?_ _) | (with_reducible refine Kd.C_drewN ?_ _) | (with_reducible refine Kd.C_drew ?_))); (case side4 => exact HC0.out); rintro e w3 ⟨v199, rfl, ho0, hb⟩; refine ⟨_, rfl, ?_⟩; have HO200 := Am (Kd.R_lower ho0 (below_size (pB HB.out))); replace HB := Am (below_step (pB HB.out) hb); (try clear hb); (try clear hb2); (try clear hk); (try clear hi); (try clear ho0)))
  go_ret2
  exact ⟨_, pX, by (with_reducible repeat (first | apply Kd.R_alloc | apply Kd.R_drewN | apply Kd.R_drew)); exact HO200.out, pB HB.out⟩
def garnerref04_May.f (a0_0 : Int) (a0_1 : Int) (a0_2 : Int) (a0_3 : Int) : Option (Bool) := if a0_0 ≥ 1 then (if a0_0 ≤ 2147483647 then (if a0_1 ≥ 0 then (if a0_1 ≤ 2147483647 then (if a0_2 ≥ 0 then (some (decide (a0_2 ≤ 4096))) else (some false)) else (some false)) else (some false)) else (some false)) else (some false)
set_option maxHeartbeats 8000000 in
set_option maxRecDepth 100000 in
theorem garnerref04_May.calls (a0_0 : Int) (a0_1 : Int) (a0_2 : Int) (a0_3 : Int) (r : Bool) (w : World) (h : garnerref04_May.f a0_0 a0_1 a0_2 a0_3 = some r) :
    Calls Try.prog 33 #[.agg #[.int .i64 a0_0, .int .i64 a0_1, .int .i64 a0_2, .int .u32 a0_3]] w fun e w' => e = .returned (.bool r) ∧ Below w.heap.size w w' := by
  have hu24 := Try.underlying24
  have HB := Am (Below.refl w.heap.size w)
  have H : (if a0_0 ≥ 1 then (if a0_0 ≤ 2147483647 then (if a0_1 ≥ 0 then (if a0_1 ≤ 2147483647 then (if a0_2 ≥ 0 then (some (decide (a0_2 ≤ 4096))) else (some false)) else (some false)) else (some false)) else (some false)) else (some false)) = some r := h
  clear h
  by_cases c2 : a0_0 ≥ 1
  rotate_left
  · rw [if_neg c2] at H
    have c2b0 : decide (1 ≤ a0_0) = false := decide_eq_false c2
    clear c2
    obtain rfl := Option.some.inj H
    go_enter Try.func33, Try.ntmps33
    go_wp2_with (first | ((with_reducible refine gate_dst (N := 1) rfl ?_); refine box_event ?hg (N := 1) ?hd (cs := #[.int .i64 a0_0, .int .i64 a0_1, .int .i64 a0_2, .int .u32 a0_3]) (t := 24) ?hr ?_; (case hd => rfl); (case hg => rfl); (case hr => first | (go_simp; done) | (go_simp; rfl)); intro Ab hg w17 hbox hb; have Aa := Am (hbox); have Ac := Am ((by rw [hg]; exact (below_size (pB HB.out)) : w.heap.size ≤ Ab)); replace HB := Am (below_step (pB HB.out) hb); have Ad := Ac; clear hb hbox hg; obtain ⟨_, _, _, _⟩ := bc4 Aa.out; obtain ⟨_, _, _, _⟩ := bf4 Aa.out))
    go_ret
    exact ⟨pX, pE HB.out Ad.out⟩
  rw [if_pos c2] at H
  have c2b0 : decide (1 ≤ a0_0) = true := decide_eq_true c2
  clear c2
  by_cases c3 : a0_0 ≤ 2147483647
  rotate_left
  · rw [if_neg c3] at H
    have c3b0 : decide (a0_0 ≤ 2147483647) = false := decide_eq_false c3
    clear c3
    obtain rfl := Option.some.inj H
    go_enter Try.func33, Try.ntmps33
    go_wp2_with (first | ((with_reducible refine gate_dst (N := 1) rfl ?_); refine box_event ?hg (N := 1) ?hd (cs := #[.int .i64 a0_0, .int .i64 a0_1, .int .i64 a0_2, .int .u32 a0_3]) (t := 24) ?hr ?_; (case hd => rfl); (case hg => rfl); (case hr => first | (go_simp; done) | (go_simp; rfl)); intro Ab hg w15 hbox hb; have Aa := Am (hbox); have Ac := Am ((by rw [hg]; exact (below_size (pB HB.out)) : w.heap.size ≤ Ab)); replace HB := Am (below_step (pB HB.out) hb); have Ad := Ac; clear hb hbox hg; obtain ⟨_, _, _, _⟩ := bc4 Aa.out; obtain ⟨_, _, _, _⟩ := bf4 Aa.out))
    go_ret
    exact ⟨pX, pE HB.out Ad.out⟩
  rw [if_pos c3] at H
  have c3b0 : decide (a0_0 ≤ 2147483647) = true := decide_eq_true c3
  clear c3
  by_cases c4 : a0_1 ≥ 0
  rotate_left
  · rw [if_neg c4] at H
    have c4b0 : decide (0 ≤ a0_1) = false := decide_eq_false c4
    clear c4
    obtain rfl := Option.some.inj H
    go_enter Try.func33, Try.ntmps33
    go_wp2_with (first | ((with_reducible refine gate_dst (N := 1) rfl ?_); refine box_event ?hg (N := 1) ?hd (cs := #[.int .i64 a0_0, .int .i64 a0_1, .int .i64 a0_2, .int .u32 a0_3]) (t := 24) ?hr ?_; (case hd => rfl); (case hg => rfl); (case hr => first | (go_simp; done) | (go_simp; rfl)); intro Ab hg w13 hbox hb; have Aa := Am (hbox); have Ac := Am ((by rw [hg]; exact (below_size (pB HB.out)) : w.heap.size ≤ Ab)); replace HB := Am (below_step (pB HB.out) hb); have Ad := Ac; clear hb hbox hg; obtain ⟨_, _, _, _⟩ := bc4 Aa.out; obtain ⟨_, _, _, _⟩ := bf4 Aa.out))
    go_ret
    exact ⟨pX, pE HB.out Ad.out⟩
  rw [if_pos c4] at H
  have c4b0 : decide (0 ≤ a0_1) = true := decide_eq_true c4
  clear c4
  by_cases c5 : a0_1 ≤ 2147483647
  rotate_left
  · rw [if_neg c5] at H
    have c5b0 : decide (a0_1 ≤ 2147483647) = false := decide_eq_false c5
    clear c5
    obtain rfl := Option.some.inj H
    go_enter Try.func33, Try.ntmps33
    go_wp2_with (first | ((with_reducible refine gate_dst (N := 1) rfl ?_); refine box_event ?hg (N := 1) ?hd (cs := #[.int .i64 a0_0, .int .i64 a0_1, .int .i64 a0_2, .int .u32 a0_3]) (t := 24) ?hr ?_; (case hd => rfl); (case hg => rfl); (case hr => first | (go_simp; done) | (go_simp; rfl)); intro Ab hg w11 hbox hb; have Aa := Am (hbox); have Ac := Am ((by rw [hg]; exact (below_size (pB HB.out)) : w.heap.size ≤ Ab)); replace HB := Am (below_step (pB HB.out) hb); have Ad := Ac; clear hb hbox hg; obtain ⟨_, _, _, _⟩ := bc4 Aa.out; obtain ⟨_, _, _, _⟩ := bf4 Aa.out))
    go_ret
    exact ⟨pX, pE HB.out Ad.out⟩
  rw [if_pos c5] at H
  have c5b0 : decide (a0_1 ≤ 2147483647) = true := decide_eq_true c5
  clear c5
  by_cases c6 : a0_2 ≥ 0
  · rw [if_pos c6] at H
    have c6b0 : decide (0 ≤ a0_2) = true := decide_eq_true c6
    clear c6
    obtain rfl := Option.some.inj H
    go_enter Try.func33, Try.ntmps33
    go_wp2_with (first | ((with_reducible refine gate_dst (N := 1) rfl ?_); refine box_event ?hg (N := 1) ?hd (cs := #[.int .i64 a0_0, .int .i64 a0_1, .int .i64 a0_2, .int .u32 a0_3]) (t := 24) ?hr ?_; (case hd => rfl); (case hg => rfl); (case hr => first | (go_simp; done) | (go_simp; rfl)); intro Ab hg w7 hbox hb; have Aa := Am (hbox); have Ac := Am ((by rw [hg]; exact (below_size (pB HB.out)) : w.heap.size ≤ Ab)); replace HB := Am (below_step (pB HB.out) hb); have Ad := Ac; clear hb hbox hg; obtain ⟨_, _, _, _⟩ := bc4 Aa.out; obtain ⟨_, _, _, _⟩ := bf4 Aa.out))
    go_ret
    exact ⟨pX, pE HB.out Ad.out⟩
  rw [if_neg c6] at H
  have c6b0 : decide (0 ≤ a0_2) = false := decide_eq_false c6
  clear c6
  obtain rfl := Option.some.inj H
  go_enter Try.func33, Try.ntmps33
  go_wp2_with (first | ((with_reducible refine gate_dst (N := 1) rfl ?_); refine box_event ?hg (N := 1) ?hd (cs := #[.int .i64 a0_0, .int .i64 a0_1, .int .i64 a0_2, .int .u32 a0_3]) (t := 24) ?hr ?_; (case hd => rfl); (case hg => rfl); (case hr => first | (go_simp; done) | (go_simp; rfl)); intro Ab hg w9 hbox hb; have Aa := Am (hbox); have Ac := Am ((by rw [hg]; exact (below_size (pB HB.out)) : w.heap.size ≤ Ab)); replace HB := Am (below_step (pB HB.out) hb); have Ad := Ac; clear hb hbox hg; obtain ⟨_, _, _, _⟩ := bc4 Aa.out; obtain ⟨_, _, _, _⟩ := bf4 Aa.out))
  go_ret
  exact ⟨pX, pE HB.out Ad.out⟩
def garnerref09_Points.l0 : Nat → List (S24) → Int → Option (Bool)
  | 0, _, _ => none
  | k + 1, x0, x3 => if x3 < (x0.length : Int) then (if 0 ≤ x3 then ((garnerref04_May.f ((rd_T24 x0 x3).f0) ((rd_T24 x0 x3).f1) ((rd_T24 x0 x3).f2) ((rd_T24 x0 x3).f3)).bind fun t203 => (if t203 = true then (garnerref09_Points.l0 k x0 (wrap64 (x3 + 1))) else (some false))) else (none)) else (some true)
def garnerref09_Points.f (k : Nat) (l0 : List (S24)) : Option (Bool) := garnerref09_Points.l0 k l0 0
theorem garnerref09_Points.mono_l : ∀ k, (∀ y0 y1, LeO (garnerref09_Points.l0 k y0 y1) (garnerref09_Points.l0 (k + 1) y0 y1))
  | 0 => fun _ _ r h => by simp [garnerref09_Points.l0] at h
  | k + 1 => by
    have ih0 := garnerref09_Points.mono_l k
    · intro y0 y1
      unfold garnerref09_Points.l0
      repeat' first
      | (with_reducible exact ih0 _ _)
      | (with_reducible exact LeO.refl _)
      | (with_reducible exact LeO.none _)
      | (with_reducible refine LeO.ite ?_ ?_)
      | (with_reducible refine LeO.bind ?_ (fun _ => ?_))
      | exact ih0 _ _
      | exact LeO.none _
      | refine LeO.ite ?_ ?_
      | refine LeO.bind ?_ (fun _ => ?_)
theorem garnerref09_Points.mono : ∀ a0 k, LeO (garnerref09_Points.f k a0) (garnerref09_Points.f (k + 1) a0) := by
  intro a0 k
  have ih0 := garnerref09_Points.mono_l k
  unfold garnerref09_Points.f
  repeat' first
      | (with_reducible exact ih0 _ _)
      | (with_reducible exact LeO.refl _)
      | (with_reducible exact LeO.none _)
      | (with_reducible refine LeO.ite ?_ ?_)
      | (with_reducible refine LeO.bind ?_ (fun _ => ?_))
      | exact ih0 _ _
      | exact LeO.none _
      | refine LeO.ite ?_ ?_
      | refine LeO.bind ?_ (fun _ => ?_)
set_option maxHeartbeats 8000000 in
set_option maxRecDepth 100000 in
theorem garnerref09_Points.calls (k : Nat) (A0 : Option Addr) (c0 : Nat) (l0 : List (S24)) (r : Bool) (w : World) (hr0 : Kd.C k24 w A0 l0.length l0) (hc0 : l0.length ≤ c0) (h : garnerref09_Points.f k l0 = some r) :
    Calls Try.prog 16 #[.slice A0 l0.length c0] w fun e w' => e = .returned (.bool r) ∧ Below w.heap.size w w' := by
  have hu24 := Try.underlying24
  have HR0 := Am hr0
  have HC0 := Am hc0
  clear hr0 hc0
  have HB := Am (Below.refl w.heap.size w)
  have H : (garnerref09_Points.l0 k l0 0) = some r := h
  clear h
  have H' := Am H
  clear H
  go_enter Try.func16, Try.ntmps16
  go_wp2
  go_loopg [3] k (fun kq v3 w' => ∃ (Aa : Int), v3 = .int .i64 Aa ∧ Aside0 (garnerref09_Points.l0 kq l0 Aa = some r) ∧ Aside0 (kq ≤ k) ∧ Aside0 (Below w.heap.size w w'))
  case atStart => exact ⟨(0), (by first | rfl | (simp; done) | (simp [*]; done)), H', ⟨Nat.le_refl _⟩, ⟨pB HB.out⟩⟩
  case round =>
    clear H'
    try clear c1
    obtain ⟨Aa, rfl, HA, HK1, HB⟩ := hrel
    cases gk with
    | zero => exact absurd HA.out (by simp [garnerref09_Points.l0])
    | succ k1 =>
      have H := HA.out
      clear HA
      simp only [garnerref09_Points.l0] at H
      by_cases c2 : Aa < (l0.length : Int)
      rotate_left
      · rw [if_neg c2] at H
        have c2b0 : decide (Aa < (l0.length : Int)) = false := decide_eq_false c2
        clear c2
        obtain rfl := Option.some.inj H
        go_wp2
        go_ret
        exact ⟨pX, pB HB.out⟩
      rw [if_pos c2] at H
      have c2b0 : decide (Aa < (l0.length : Int)) = true := decide_eq_true c2
      clear c2
      by_cases c3 : 0 ≤ Aa
      rotate_left
      · rw [if_neg c3] at H
        exact absurd H (by simp)
      rw [if_pos c3] at H
      have c3b0 : decide (0 ≤ Aa) = true := decide_eq_true c3
      clear c3
      replace H := Option.bind_eq_some_iff.mp H
      obtain ⟨t203, A40, H⟩ := H
      replace H : (if t203 = true then (garnerref09_Points.l0 k1 l0 (wrap64 (Aa + 1))) else (some false)) = some r := H
      have A4 := Am A40
      clear A40
      by_cases c5 : t203 = true
      rotate_left
      · replace c5 := Bool.eq_false_iff.mpr c5
        subst c5
        have H1 : (some false) = some r := by rw [if_neg (show ¬ (false = true) by decide)] at H; exact H
        clear H
        have H := H1
        clear H1
        obtain rfl := Option.some.inj H
        have p202 : 0 ≤ (Aa : Int) := of_decide_eq_true pS
        have q202 : Aa < (l0.length : Int) := of_decide_eq_true pS
        obtain ⟨Af, e202, Ab, Ac, Ad, Ae⟩ := at_T24u HR0.out Aa p202 q202 HB.out
        cases e202
        replace p202 := eq_true p202
        replace q202 := eq_true q202
        go_wp2_with (first | ((with_reducible refine gate_callee (f := 33) rfl ?_); refine goesL_ (some 14) rfl rfl Try.func33 (by kernel_rfl) rfl #[.agg #[.int .i64 ((rd_T24 l0 Aa).f0), .int .i64 ((rd_T24 l0 Aa).f1), .int .i64 ((rd_T24 l0 Aa).f2), .int .u32 ((rd_T24 l0 Aa).f3)]] rfl pL ?_; (with_reducible refine (garnerref04_May.calls ((rd_T24 l0 Aa).f0) ((rd_T24 l0 Aa).f1) ((rd_T24 l0 Aa).f2) ((rd_T24 l0 Aa).f3) false _ A4.out).mono ?_); rintro e w7 ⟨rfl, hb⟩; refine ⟨_, rfl, ?_⟩; replace HB := Am (below_step (pB HB.out) hb); (try clear hb); (try clear hb2); (try clear hk); (try clear hi)))
        go_ret
        exact ⟨pX, pB HB.out⟩
      subst c5
      have H1 : (garnerref09_Points.l0 k1 l0 (wrap64 (Aa + 1))) = some r := by rw [if_pos rfl] at H; exact H
      clear H
      have H := H1
      clear H1
      have H' := Am H
      clear H
      have p202 : 0 ≤ (Aa : Int) := of_decide_eq_true pS
      have q202 : Aa < (l0.length : Int) := of_decide_eq_true pS
      obtain ⟨Af, e202, Ab, Ac, Ad, Ae⟩ := at_T24u HR0.out Aa p202 q202 HB.out
      cases e202
      replace p202 := eq_true p202
      replace q202 := eq_true q202
      go_wp2_with (first | ((with_reducible refine gate_callee (f := 33) rfl ?_); refine goesL_ (some 14) rfl rfl Try.func33 (by kernel_rfl) rfl #[.agg #[.int .i64 ((rd_T24 l0 Aa).f0), .int .i64 ((rd_T24 l0 Aa).f1), .int .i64 ((rd_T24 l0 Aa).f2), .int .u32 ((rd_T24 l0 Aa).f3)]] rfl pL ?_; (with_reducible refine (garnerref04_May.calls ((rd_T24 l0 Aa).f0) ((rd_T24 l0 Aa).f1) ((rd_T24 l0 Aa).f2) ((rd_T24 l0 Aa).f3) true _ A4.out).mono ?_); rintro e w6 ⟨rfl, hb⟩; refine ⟨_, rfl, ?_⟩; replace HB := Am (below_step (pB HB.out) hb); (try clear hb); (try clear hb2); (try clear hk); (try clear hi)))
      go_roundg k1
      case measure => have := HK1.out; omega
      case rel => exact ⟨(wrap64 (Aa + 1)), (by first | rfl | (simp; done) | (simp [*]; done)), H', ⟨by have := HK1.out; omega⟩, ⟨pB HB.out⟩⟩
def garnerref28_Has.l0 : Nat → List (S24) → Int → Int → Int → Option (Bool)
  | 0, _, _, _, _ => none
  | k + 1, x0, x1, x2, x7 => if x7 < (x0.length : Int) then (if 0 ≤ x7 then (if ((rd_T24 x0 x7).f0) = x1 then (if ((rd_T24 x0 x7).f1) = x2 then (some true) else (garnerref28_Has.l0 k x0 x1 x2 (wrap64 (x7 + 1)))) else (garnerref28_Has.l0 k x0 x1 x2 (wrap64 (x7 + 1)))) else (none)) else (some false)
def garnerref28_Has.f (k : Nat) (l0 : List (S24)) (a1 : Int) (a2 : Int) : Option (Bool) := garnerref28_Has.l0 k l0 a1 a2 0
theorem garnerref28_Has.mono_l : ∀ k, (∀ y0 y1 y2 y3, LeO (garnerref28_Has.l0 k y0 y1 y2 y3) (garnerref28_Has.l0 (k + 1) y0 y1 y2 y3))
  | 0 => fun _ _ _ _ r h => by simp [garnerref28_Has.l0] at h
  | k + 1 => by
    have ih0 := garnerref28_Has.mono_l k
    · intro y0 y1 y2 y3
      unfold garnerref28_Has.l0
      repeat' first
      | (with_reducible exact ih0 _ _ _ _)
      | (with_reducible exact LeO.refl _)
      | (with_reducible exact LeO.none _)
      | (with_reducible refine LeO.ite ?_ ?_)
      | (with_reducible refine LeO.bind ?_ (fun _ => ?_))
      | exact ih0 _ _ _ _
      | exact LeO.none _
      | refine LeO.ite ?_ ?_
      | refine LeO.bind ?_ (fun _ => ?_)
theorem garnerref28_Has.mono : ∀ a0 a1 a2 k, LeO (garnerref28_Has.f k a0 a1 a2) (garnerref28_Has.f (k + 1) a0 a1 a2) := by
  intro a0 a1 a2 k
  have ih0 := garnerref28_Has.mono_l k
  unfold garnerref28_Has.f
  repeat' first
      | (with_reducible exact ih0 _ _ _ _)
      | (with_reducible exact LeO.refl _)
      | (with_reducible exact LeO.none _)
      | (with_reducible refine LeO.ite ?_ ?_)
      | (with_reducible refine LeO.bind ?_ (fun _ => ?_))
      | exact ih0 _ _ _ _
      | exact LeO.none _
      | refine LeO.ite ?_ ?_
      | refine LeO.bind ?_ (fun _ => ?_)
set_option maxHeartbeats 8000000 in
set_option maxRecDepth 100000 in
theorem garnerref28_Has.calls (k : Nat) (A0 : Option Addr) (c0 : Nat) (l0 : List (S24)) (a1 : Int) (a2 : Int) (r : Bool) (w : World) (hr0 : Kd.C k24 w A0 l0.length l0) (hc0 : l0.length ≤ c0) (h : garnerref28_Has.f k l0 a1 a2 = some r) :
    Calls Try.prog 34 #[.slice A0 l0.length c0, .int .i64 a1, .int .i64 a2] w fun e w' => e = .returned (.bool r) ∧ Drawn0 w w' := by
  have HR0 := Am hr0
  have HC0 := Am hc0
  clear hr0 hc0
  have H : (garnerref28_Has.l0 k l0 a1 a2 0) = some r := h
  clear h
  have H' := Am H
  clear H
  go_enter Try.func34, Try.ntmps34
  go_wp2
  go_loopg [7] k (fun kq v7 w' => ∃ (Aa : Int), v7 = .int .i64 Aa ∧ Aside0 (garnerref28_Has.l0 kq l0 a1 a2 Aa = some r) ∧ Aside0 (kq ≤ k) ∧ Drawn0 w w')
  case atStart => exact ⟨(0), (by first | rfl | (simp; done) | (simp [*]; done)), H', ⟨Nat.le_refl _⟩, by repeat (first | exact Drawn0.refl _ | apply Drawn0.step)⟩
  case round =>
    clear H'
    try clear p2
    try clear c3
    obtain ⟨Aa, rfl, HA, HK1, ⟨m1, rfl⟩⟩ := hrel
    cases gk with
    | zero => exact absurd HA.out (by simp [garnerref28_Has.l0])
    | succ k1 =>
      have H := HA.out
      clear HA
      simp only [garnerref28_Has.l0] at H
      by_cases c4 : Aa < (l0.length : Int)
      rotate_left
      · rw [if_neg c4] at H
        have c4b0 : decide (Aa < (l0.length : Int)) = false := decide_eq_false c4
        clear c4
        obtain rfl := Option.some.inj H
        go_wp2
        go_ret
        exact ⟨by first | rfl | (simp; done) | (simp [*]; done), by repeat (first | exact Drawn0.refl _ | apply Drawn0.step)⟩
      rw [if_pos c4] at H
      have c4b0 : decide (Aa < (l0.length : Int)) = true := decide_eq_true c4
      clear c4
      by_cases c5 : 0 ≤ Aa
      rotate_left
      · rw [if_neg c5] at H
        exact absurd H (by simp)
      rw [if_pos c5] at H
      have c5b0 : decide (0 ≤ Aa) = true := decide_eq_true c5
      clear c5
      by_cases c6 : ((rd_T24 l0 Aa).f0) = a1
      rotate_left
      · rw [if_neg c6] at H
        have c6b0 : (((rd_T24 l0 Aa).f0) == a1) = false := beq_eq_false_iff_ne.mpr c6
        have c6b1 : (((rd_T24 l0 Aa).f0) != a1) = true := bne_iff_ne.mpr c6
        have H' := Am H
        clear H
        have p204 : 0 ≤ (Aa : Int) := of_decide_eq_true pS
        have q204 : Aa < (l0.length : Int) := of_decide_eq_true pS
        obtain ⟨Af, e204, Ab, Ac, Ad, Ae⟩ := at_T24 HR0.out Aa p204 q204
        cases e204
        replace p204 := eq_true p204
        replace q204 := eq_true q204
        go_wp2
        go_roundg k1
        case measure => have := HK1.out; omega
        case rel => exact ⟨(wrap64 (Aa + 1)), (by first | rfl | (simp; done) | (simp [*]; done)), H', ⟨by have := HK1.out; omega⟩, by repeat (first | exact Drawn0.refl _ | apply Drawn0.step)⟩
      rw [if_pos c6] at H
      have c6b0 : (((rd_T24 l0 Aa).f0) == a1) = true := beq_iff_eq.mpr c6
      have c6b1 : (((rd_T24 l0 Aa).f0) != a1) = false := bne_eq_false_iff_eq.mpr c6
      clear c6
      by_cases c7 : ((rd_T24 l0 Aa).f1) = a2
      · rw [if_pos c7] at H
        have c7b0 : (((rd_T24 l0 Aa).f1) == a2) = true := beq_iff_eq.mpr c7
        have c7b1 : (((rd_T24 l0 Aa).f1) != a2) = false := bne_eq_false_iff_eq.mpr c7
        clear c7
        obtain rfl := Option.some.inj H
        have p204 : 0 ≤ (Aa : Int) := of_decide_eq_true pS
        have q204 : Aa < (l0.length : Int) := of_decide_eq_true pS
        obtain ⟨Af, e204, Ab, Ac, Ad, Ae⟩ := at_T24 HR0.out Aa p204 q204
        cases e204
        replace p204 := eq_true p204
        replace q204 := eq_true q204
        go_wp2
        go_ret
        exact ⟨by first | rfl | (simp; done) | (simp [*]; done), by repeat (first | exact Drawn0.refl _ | apply Drawn0.step)⟩
      rw [if_neg c7] at H
      have c7b0 : (((rd_T24 l0 Aa).f1) == a2) = false := beq_eq_false_iff_ne.mpr c7
      have c7b1 : (((rd_T24 l0 Aa).f1) != a2) = true := bne_iff_ne.mpr c7
      have H' := Am H
      clear H
      have p204 : 0 ≤ (Aa : Int) := of_decide_eq_true pS
      have q204 : Aa < (l0.length : Int) := of_decide_eq_true pS
      obtain ⟨Af, e204, Ab, Ac, Ad, Ae⟩ := at_T24 HR0.out Aa p204 q204
      cases e204
      replace p204 := eq_true p204
      replace q204 := eq_true q204
      go_wp2
      go_roundg k1
      case measure => have := HK1.out; omega
      case rel => exact ⟨(wrap64 (Aa + 1)), (by first | rfl | (simp; done) | (simp [*]; done)), H', ⟨by have := HK1.out; omega⟩, by repeat (first | exact Drawn0.refl _ | apply Drawn0.step)⟩
def garnerref04_Less.f (a0_0 : Int) (a0_1 : Int) (a0_2 : Int) (a0_3 : Int) (a1_0 : Int) (a1_1 : Int) (a1_2 : Int) (a1_3 : Int) : Option (Bool) := if a0_0 = a1_0 then (some (decide (a0_1 < a1_1))) else (some (decide (a0_0 < a1_0)))
set_option maxHeartbeats 8000000 in
set_option maxRecDepth 100000 in
theorem garnerref04_Less.calls (a0_0 : Int) (a0_1 : Int) (a0_2 : Int) (a0_3 : Int) (a1_0 : Int) (a1_1 : Int) (a1_2 : Int) (a1_3 : Int) (r : Bool) (w : World) (h : garnerref04_Less.f a0_0 a0_1 a0_2 a0_3 a1_0 a1_1 a1_2 a1_3 = some r) :
    Calls Try.prog 54 #[.agg #[.int .i64 a0_0, .int .i64 a0_1, .int .i64 a0_2, .int .u32 a0_3], .agg #[.int .i64 a1_0, .int .i64 a1_1, .int .i64 a1_2, .int .u32 a1_3]] w fun e w' => e = .returned (.bool r) ∧ Below w.heap.size w w' := by
  have hu24 := Try.underlying24
  have HB := Am (Below.refl w.heap.size w)
  have H : (if a0_0 = a1_0 then (some (decide (a0_1 < a1_1))) else (some (decide (a0_0 < a1_0)))) = some r := h
  clear h
  by_cases c3 : a0_0 = a1_0
  · rw [if_pos c3] at H
    have c3b0 : (a0_0 == a1_0) = true := beq_iff_eq.mpr c3
    have c3b1 : (a0_0 != a1_0) = false := bne_eq_false_iff_eq.mpr c3
    clear c3
    obtain rfl := Option.some.inj H
    go_enter Try.func54, Try.ntmps54
    go_wp2_with (first | ((with_reducible refine gate_dst (N := 2) rfl ?_); refine box_event ?hg (N := 2) ?hd (cs := #[.int .i64 a0_0, .int .i64 a0_1, .int .i64 a0_2, .int .u32 a0_3]) (t := 24) ?hr ?_; (case hd => rfl); (case hg => rfl); (case hr => first | (go_simp; done) | (go_simp; rfl)); intro Ad hg w4 hbox hb; have Aa := Am (hbox); have Ah := Am ((by rw [hg]; exact (below_size (pB HB.out)) : w.heap.size ≤ Ad)); replace HB := Am (below_step (pB HB.out) hb); have Ae := Ah; clear hb hbox hg) | ((with_reducible refine gate_dst (N := 3) rfl ?_); refine box_event ?hg (N := 3) ?hd (cs := #[.int .i64 a1_0, .int .i64 a1_1, .int .i64 a1_2, .int .u32 a1_3]) (t := 24) ?hr ?_; (case hd => rfl); (case hg => rfl); (case hr => first | (go_simp; done) | (go_simp; rfl)); intro Af hg w5 hbox hb; have Ag := Am (hbox); have Ai := Am ((by rw [hg]; exact (below_size (pE HB.out Ae.out)) : w.heap.size ≤ Af)); replace HB := Am (below_step (pE HB.out Ae.out) hb); have Aj := Ai; have Ab := Am ((by rw [hg]; exact Nat.ne_of_lt (kL Aa.out) : Ad ≠ Af)); have Ac := Am ((by rw [hg]; exact Nat.ne_of_gt (kL Aa.out) : Af ≠ Ad)); replace Aa := kBa Aa hb; clear hb hbox hg; have hnb6 := Ab.out; have hnc6 := Ac.out; obtain ⟨_, _, _, _⟩ := bc4 Aa.out; obtain ⟨_, _, _, _⟩ := bf4 Aa.out; obtain ⟨_, _, _, _⟩ := bc4 Ag.out; obtain ⟨_, _, _, _⟩ := bf4 Ag.out))
    go_ret
    exact ⟨pX, pE2 HB.out Ae.out Aj.out⟩
  rw [if_neg c3] at H
  have c3b0 : (a0_0 == a1_0) = false := beq_eq_false_iff_ne.mpr c3
  have c3b1 : (a0_0 != a1_0) = true := bne_iff_ne.mpr c3
  obtain rfl := Option.some.inj H
  go_enter Try.func54, Try.ntmps54
  go_wp2_with (first | ((with_reducible refine gate_dst (N := 2) rfl ?_); refine box_event ?hg (N := 2) ?hd (cs := #[.int .i64 a0_0, .int .i64 a0_1, .int .i64 a0_2, .int .u32 a0_3]) (t := 24) ?hr ?_; (case hd => rfl); (case hg => rfl); (case hr => first | (go_simp; done) | (go_simp; rfl)); intro Ad hg w9 hbox hb; have Aa := Am (hbox); have Ah := Am ((by rw [hg]; exact (below_size (pB HB.out)) : w.heap.size ≤ Ad)); replace HB := Am (below_step (pB HB.out) hb); have Ae := Ah; clear hb hbox hg) | ((with_reducible refine gate_dst (N := 3) rfl ?_); refine box_event ?hg (N := 3) ?hd (cs := #[.int .i64 a1_0, .int .i64 a1_1, .int .i64 a1_2, .int .u32 a1_3]) (t := 24) ?hr ?_; (case hd => rfl); (case hg => rfl); (case hr => first | (go_simp; done) | (go_simp; rfl)); intro Af hg w10 hbox hb; have Ag := Am (hbox); have Ai := Am ((by rw [hg]; exact (below_size (pE HB.out Ae.out)) : w.heap.size ≤ Af)); replace HB := Am (below_step (pE HB.out Ae.out) hb); have Aj := Ai; have Ab := Am ((by rw [hg]; exact Nat.ne_of_lt (kL Aa.out) : Ad ≠ Af)); have Ac := Am ((by rw [hg]; exact Nat.ne_of_gt (kL Aa.out) : Af ≠ Ad)); replace Aa := kBa Aa hb; clear hb hbox hg; have hnb11 := Ab.out; have hnc11 := Ac.out; obtain ⟨_, _, _, _⟩ := bc4 Aa.out; obtain ⟨_, _, _, _⟩ := bf4 Aa.out; obtain ⟨_, _, _, _⟩ := bc4 Ag.out; obtain ⟨_, _, _, _⟩ := bf4 Ag.out))
  go_ret
  exact ⟨pX, pE2 HB.out Ae.out Aj.out⟩
section
variable {P : Program} {ops : Array Oper} {o : Oper} {a : Act} {Q : Exit → Act → World → Prop} {rest : List Oper} {α : Type}
/-- A row of the call's own, cut to its beginning with no room behind: an element appended makes a new row. -/
theorem garnerref04_Order.app_cut (d : Kd α) {w0 W : World} (base : Nat) (hgd : o.guard = none) (s x : Operand) (t e : TypeId) (z : Value) (bytes : Nat)
    (ho : o.op = .call { callee := .builtin .append, args := #[s, x], argTypes := #[t, t] })
    (ht : P.underlying t = some (.slice e)) (hinfo : (P.info? e).map (fun i => (i.zero, i.size, i.bytes)) = some (some z, d.sz, bytes)) (hz : z.cells.size = d.sz) (hs0 : 0 < d.sz) (hb0 : 0 < bytes)
    (A : Option Addr) (n c k : Nat) (xs : List α) (p : α) (cs : List Value) (ok okp : Nat → Prop) (hk : k ≤ xs.length) (hs : a.eval s = .slice A k k) (hx : a.eval x = .slice (some ⟨W.heap.size, 0, none⟩) 1 1) (hp : d.M W base okp p cs) (hflat : ∀ w1 okq (y : α) (ys : List Value) w2 ok2, d.M w1 base okq y ys → d.M w2 base ok2 y ys)
    (HO : d.R e W base ok (.slice A n c) xs) (HB : Below base w0 W) (hbase : base ≤ W.heap.size) (hl : (xs.length + 1) * bytes ≤ 140737488355328)
    (h : ∀ v1 w1, d.R e w1 base (fun k => W.heap.size ≤ k) v1 (xs.take k ++ [p]) → Below base w0 w1 → W.grownBy w1 none → wpList P ops Q rest (a.put o.dst v1) w1) :
    wpList P ops Q (o :: rest) a (W.alloc (.cells cs.toArray e)) := by
  obtain ⟨i0, hi, hzz⟩ := Option.map_eq_some_iff.1 hinfo
  simp only [Prod.mk.injEq] at hzz
  obtain ⟨hz0, hz1, hz2⟩ := hzz
  have hn := (Kd.R_reads' HO).1
  subst hn
  cases A with
  | none =>
    have hxs : xs = [] := by
      cases xs with
      | nil => rfl
      | cons y ys =>
        obtain ⟨ad, had, _⟩ := (Kd.R_reads' HO).2.2.2.2 (by simp)
        cases had
    subst hxs
    have hk0 : k = 0 := by simpa using hk
    subst hk0
    refine Kd.R_append d base hgd s x t e z bytes ho ht hinfo hz hs0 hb0 (.slice none 0 0) [] p cs (fun k => W.heap.size ≤ k) (fun _ => False) hs hx (hflat _ _ _ _ _ _ hp) (fun _ h => h.elim) (fun _ h => h) (Kd.R_nil _ _ _ _ _) HB hbase (by simpa using hl) ?_
    intro v1 w1 h1 h2 h3 h4
    exact h v1 w1 h1 h2 h3
  | some ad =>
    obtain ⟨h0, inner, hown, hr⟩ := Kd.R_take HO hk
    have hlen : inner.length = k * d.sz := by rw [hown.1, List.length_take, Nat.min_eq_left hk]
    obtain ⟨g, rfl⟩ : ∃ g, ad = ⟨g, 0, none⟩ := Kd.R_head HO
    have hcells : ∀ j u, inner[j]? = some u → (W.alloc (.cells cs.toArray e)).cell? ((⟨g, 0, none⟩ : Addr).add j) = some u := fun j u hj => by
      have h1 := (hown.alloc (.cells cs.toArray e)).cells (g := g) rfl j u hj
      exact h1
    have hcl := d.K_len (d.K_of_M hp)
    have h63 : k + 1 ≤ 140737488355328 := by
      have := Nat.le_mul_of_pos_right (xs.length + 1) hb0
      omega
    have hbk : (k + 1) * bytes ≤ 140737488355328 := Nat.le_trans (Nat.mul_le_mul_right bytes (by omega)) hl
    obtain ⟨v1, w1, hrun, hown1, hg1⟩ := run_append_arg_grows (P := P) (w := W.alloc (.cells cs.toArray e)) t o.type e i0 z d.sz bytes ht hi hz0 hz1 hz2 hz hs0 ⟨g, 0, none⟩ k k inner hlen hcells ⟨W.heap.size, 0, none⟩ 1 1 cs (by rw [hcl]; simp) (by simpa using World.news_of_block (cs := cs.toArray) (t := e) (fr := (0, 0)) (heap_alloc_new W (.cells cs.toArray e))) (by omega) (by simp only [maxLen]; omega) hbk
    refine wpList_plain hgd fun K hK => ?_
    unfold Oper.wp execOp
    simp only [ho, resolve, invoke, builtin, Sem.run_bind, Sem.run_pure, Result.andThen_ok, List.map_toArray, List.map_cons, List.map_nil, hs, hx, hrun]
    refine hK _ _ (h v1 w1 ?_ ((HB.alloc hbase _).grown hg1 (by simp; omega) (fun k hk => by cases hk)) (World.grownBy.trans (World.grownBy_alloc W _ _) hg1))
    refine ⟨fun k_ hk_ => ?_, inner ++ cs, ?_, ?_⟩
    · exact Nat.le_trans (Nat.le_succ _) (by have := own_base hown1 k_ hk_; simpa using this)
    · have hl1 : (xs.take k ++ [p]).length = k + 1 := by rw [List.length_append, List.length_take, Nat.min_eq_left hk]; rfl
      rw [hl1]
      exact own_weaken hown1 (by simp; omega)
    · exact (hr.imp_ (fun y ys hy => hflat _ _ _ _ _ _ hy)).snoc (hflat _ _ _ _ _ _ hp) hcl
theorem garnerref04_Order.app_cut_step {Kc : Act → World → Prop} {E : Prop} (d : Kd α) {w0 W : World} (base : Nat) (hgd : o.guard = none) (s x : Operand) (t e : TypeId) (z : Value) (bytes : Nat)
    (ho : o.op = .call { callee := .builtin .append, args := #[s, x], argTypes := #[t, t] })
    (ht : P.underlying t = some (.slice e)) (hinfo : (P.info? e).map (fun i => (i.zero, i.size, i.bytes)) = some (some z, d.sz, bytes)) (hz : z.cells.size = d.sz) (hs0 : 0 < d.sz) (hb0 : 0 < bytes)
    (A : Option Addr) (n c k : Nat) (xs : List α) (p : α) (cs : List Value) (ok okp : Nat → Prop) (hk : k ≤ xs.length) (hs : a.eval s = .slice A k k) (hx : a.eval x = .slice (some ⟨W.heap.size, 0, none⟩) 1 1) (hp : d.M W base okp p cs) (hflat : ∀ w1 okq (y : α) (ys : List Value) w2 ok2, d.M w1 base okq y ys → d.M w2 base ok2 y ys)
    (HO : d.R e W base ok (.slice A n c) xs) (HB : Below base w0 W) (hbase : base ≤ W.heap.size) (hl : (xs.length + 1) * bytes ≤ 140737488355328)
    (h : ∀ v1 w1, d.R e w1 base (fun k => W.heap.size ≤ k) v1 (xs.take k ++ [p]) → Below base w0 w1 → W.grownBy w1 none → Kc (a.put o.dst v1) w1) :
    if Region.wanted o (yielded ops a.tmps) = true then Oper.wp P o a (W.alloc (.cells cs.toArray e)) Kc Q else E := by
  have hw : Region.wanted o (yielded ops a.tmps) = true := by simp [Region.wanted, hgd]
  rw [if_pos hw]
  obtain ⟨i0, hi, hzz⟩ := Option.map_eq_some_iff.1 hinfo
  simp only [Prod.mk.injEq] at hzz
  obtain ⟨hz0, hz1, hz2⟩ := hzz
  have hn := (Kd.R_reads' HO).1
  subst hn
  cases A with
  | none =>
    have hxs : xs = [] := by
      cases xs with
      | nil => rfl
      | cons y ys =>
        obtain ⟨ad, had, _⟩ := (Kd.R_reads' HO).2.2.2.2 (by simp)
        cases had
    subst hxs
    have hk0 : k = 0 := by simpa using hk
    subst hk0
    have := Kd.R_append_step (Kc := Kc) (Q := Q) (P := P) (ops := ops) (a := a) d (w0 := w0) (W := W) base hw s x t e z bytes ho ht hinfo hz hs0 hb0 (.slice none 0 0) [] p cs (fun k => W.heap.size ≤ k) (fun _ => False) hs hx (hflat _ _ _ _ _ _ hp) (fun _ h => h.elim) (fun _ h => h) (Kd.R_nil _ _ _ _ _) HB hbase (by simpa using hl) (fun v1 w1 h1 h2 h3 h4 => h v1 w1 h1 h2 h3)
    rwa [if_pos hw] at this
  | some ad =>
    obtain ⟨h0, inner, hown, hr⟩ := Kd.R_take HO hk
    have hlen : inner.length = k * d.sz := by rw [hown.1, List.length_take, Nat.min_eq_left hk]
    obtain ⟨g, rfl⟩ : ∃ g, ad = ⟨g, 0, none⟩ := Kd.R_head HO
    have hcells : ∀ j u, inner[j]? = some u → (W.alloc (.cells cs.toArray e)).cell? ((⟨g, 0, none⟩ : Addr).add j) = some u := fun j u hj => by
      have h1 := (hown.alloc (.cells cs.toArray e)).cells (g := g) rfl j u hj
      exact h1
    have hcl := d.K_len (d.K_of_M hp)
    have h63 : k + 1 ≤ 140737488355328 := by
      have := Nat.le_mul_of_pos_right (xs.length + 1) hb0
      omega
    have hbk : (k + 1) * bytes ≤ 140737488355328 := Nat.le_trans (Nat.mul_le_mul_right bytes (by omega)) hl
    obtain ⟨v1, w1, hrun, hown1, hg1⟩ := run_append_arg_grows (P := P) (w := W.alloc (.cells cs.toArray e)) t o.type e i0 z d.sz bytes ht hi hz0 hz1 hz2 hz hs0 ⟨g, 0, none⟩ k k inner hlen hcells ⟨W.heap.size, 0, none⟩ 1 1 cs (by rw [hcl]; simp) (by simpa using World.news_of_block (cs := cs.toArray) (t := e) (fr := (0, 0)) (heap_alloc_new W (.cells cs.toArray e))) (by omega) (by simp only [maxLen]; omega) hbk
    unfold Oper.wp execOp
    simp only [ho, resolve, invoke, builtin, Sem.run_bind, Sem.run_pure, Result.andThen_ok, List.map_toArray, List.map_cons, List.map_nil, hs, hx, hrun]
    refine (h v1 w1 ?_ ((HB.alloc hbase _).grown hg1 (by simp; omega) (fun k hk => by cases hk)) (World.grownBy.trans (World.grownBy_alloc W _ _) hg1))
    refine ⟨fun k_ hk_ => ?_, inner ++ cs, ?_, ?_⟩
    · exact Nat.le_trans (Nat.le_succ _) (by have := own_base hown1 k_ hk_; simpa using this)
    · have hl1 : (xs.take k ++ [p]).length = k + 1 := by rw [List.length_append, List.length_take, Nat.min_eq_left hk]; rfl
      rw [hl1]
      exact own_weaken hown1 (by simp; omega)
    · exact (hr.imp_ (fun y ys hy => hflat _ _ _ _ _ _ hy)).snoc (hflat _ _ _ _ _ _ hp) hcl
end
theorem garnerref04_Order.cut_tight {P : Program} (t e : TypeId) (kh km : IntKind) {i : TypeInfo} (ht : P.underlying t = some (.slice e)) (hi : P.info? e = some i) (A : Option Addr) (n c : Nat) (j : Int) (h0 : 0 ≤ j) (hm : j ≤ n) (hc : n ≤ c) :
    ∀ W : World, (Instr.slice t (.slice A n c) none (some (.int kh j)) (some (.int km j))).run P W = .ok (.slice A j.toNat j.toNat) W := by
  intro W
  have hel : P.elem t = e := by simp [Program.elem, ht]
  have hu : P.underlying t = some (.slice (P.elem t)) := by rw [hel]; exact ht
  have ha : (A.map fun x => x.add 0) = A := by cases A <;> simp [Addr.add]
  rw [run_slice_hm W t A n c hu kh km j j h0 (Int.le_refl _) (by omega), hel]
  simp [sizeOf, typeInfo, hi, sliced, Result.andThen, ha]
/-- Is a point lesser. -/
def garnerref04_Order.less (a b : S24) : Bool := if a.f0 = b.f0 then decide (a.f1 < b.f1) else decide (a.f0 < b.f0)
def garnerref04_Order.pos (x : S24) (out : List S24) : Nat → Nat
  | 0 => 0
  | k + 1 => if garnerref04_Order.less x (rd_T24 out (k : Int)) = true then garnerref04_Order.pos x out k else k + 1
def garnerref04_Order.ins (out : List S24) (x : S24) : List S24 := out.take (garnerref04_Order.pos x out out.length) ++ x :: out.drop (garnerref04_Order.pos x out out.length)
def garnerref04_Order.f (l : List S24) : Option (List S24) := if l.length < 1000000000000 then some (l.foldl garnerref04_Order.ins []) else none
theorem garnerref04_Order.less_eq (a b : S24) : garnerref04_Less.f a.f0 a.f1 a.f2 a.f3 b.f0 b.f1 b.f2 b.f3 = some (garnerref04_Order.less a b) := by
  unfold garnerref04_Less.f garnerref04_Order.less
  split <;> rfl
theorem garnerref04_Order.pos_le (x : S24) (out : List S24) : ∀ j, garnerref04_Order.pos x out j ≤ j
  | 0 => Nat.le_refl _
  | j + 1 => by
    simp only [garnerref04_Order.pos]
    split
    · exact Nat.le_succ_of_le (garnerref04_Order.pos_le x out j)
    · exact Nat.le_refl _
def garnerref04_Order.T6 : Bool × List (List Nat × List Nat) := (true, [([], []), ([0], [0]), ([1], [1]), ([2], [2]), ([2], [2]), ([3, 4, 2], [2, 3, 4]), ([5, 2], [2, 5]), ([2], [2]), ([2], [2]), ([8, 2], [2, 8]), ([7, 9, 2], [2, 7, 9]), ([10, 2], [2, 10]), ([6, 11, 2, 2], [2, 6, 11]), ([2, 12], [2, 12])])
def garnerref04_Order.B6 : List Nat := [0, 1, 3, 7, 7, 31, 63, 7, 7, 263, 903, 1927, 4095, 8191]
theorem garnerref04_Order.tab6 : rtab .any (opsOf Try.f35 6) = garnerref04_Order.T6 := by kernel_rfl
theorem garnerref04_Order.bits6 : waitsOk garnerref04_Order.T6.2 garnerref04_Order.B6 = true := by kernel_rfl
def garnerref04_Order.T9 : Bool × List (List Nat × List Nat) := (true, [([], []), ([], []), ([], []), ([0, 1, 2], [0, 1, 2]), ([], []), ([], []), ([4, 5], [4, 5]), ([6], [6]), ([7], [7]), ([3, 8], [3, 8]), ([], []), ([9, 10, 9], [9, 10]), ([11, 11, 0, 1, 2, 3, 4, 5, 6, 7, 8, 9, 10, 11], [0, 11])])
def garnerref04_Order.B9 : List Nat := [0, 0, 0, 7, 0, 0, 48, 112, 240, 511, 0, 2047, 4095]
theorem garnerref04_Order.tab9 : rtab .any (opsOf Try.f35 9) = garnerref04_Order.T9 := by kernel_rfl
theorem garnerref04_Order.bits9 : waitsOk garnerref04_Order.T9.2 garnerref04_Order.B9 = true := by kernel_rfl
set_option maxHeartbeats 8000000 in
set_option maxRecDepth 100000 in
theorem garnerref04_Order.calls (A0 : Option Addr) (c0 : Nat) (l0 : List S24) (r : List S24) (w : World) (hr0 : Kd.C k24 w A0 l0.length l0) (hc0 : l0.length ≤ c0) (h : garnerref04_Order.f l0 = some r) :
    Calls Try.prog 35 #[.slice A0 l0.length c0] w fun e w' => ∃ v0_ : Value, e = .returned v0_ ∧ Kd.R k24 24 w' w.heap.size (fun _ => True) v0_ r ∧ Below w.heap.size w w' := by
  have hu24 := Try.underlying24
  have hu36 := Try.underlying36
  unfold garnerref04_Order.f at h
  by_cases hl : l0.length < 1000000000000
  rotate_left
  · rw [if_neg hl] at h
    exact absurd h (by simp)
  rw [if_pos hl] at h
  have HE := Am (Option.some.inj h)
  have HR0 := Am hr0
  have HC0 := Am hc0
  have HL := Am hl
  clear hr0 hc0 h hl
  go_enter Try.func35, Try.ntmps35
  go_wp2_with ((with_reducible refine gate_dst (N := 7) rfl ?_); go_loud (refine Kd.R_lit k24 _ 24 ?hg (N := 7) ?hd (xs := ([] : List S24)) (inner := []) (ok := fun _ => True) (okp := fun _ => True) ?hr ?hp (fun _ hk => hk) trivial (Below.refl _ _) (Nat.le_refl _) (by simp) ?_; (case hd => rfl); (case hg => rfl); (case hr => first | (go_simp; done) | (go_simp; rfl)); (case hp => exact (Reps.none _ _)); intro v1 w1 ho1 hb1 hg_ hnew_; have R1 := Aside0.mk ho1; have B1 := Aside0.mk hb1; clear ho1 hb1 hg_ hnew_))
  go_loopg [3, 4] l0.length (fun kq v3 v4 w' => ∃ (i : Nat) (acc : List S24), v4 = .int .i64 (i : Int) ∧ Aside0 (i + kq = l0.length) ∧ Aside0 ((l0.drop i).foldl garnerref04_Order.ins acc = r) ∧ Aside0 (acc.length = i) ∧ Aside0 (Kd.R k24 24 w' w.heap.size (fun _ => True) v3 acc) ∧ Aside0 (Below w.heap.size w w'))
  case atStart => exact ⟨0, [], rfl, ⟨by omega⟩, ⟨by rw [List.drop_zero]; exact HE.out⟩, ⟨rfl⟩, R1, B1⟩
  case round =>
    clear HE R1 B1
    obtain ⟨i, acc, rfl, HI, HF, HA, HR, HB⟩ := hrel
    obtain ⟨Av, cv, hv⟩ := Kd.R_slice HR.out
    subst hv
    obtain ⟨I, hI⟩ : ∃ I : Int, I = (i : Int) := ⟨_, rfl⟩
    rw [← hI]
    have HIE := Am hI
    clear hI
    cases gk with
    | zero =>
      have c1b : decide (I < (l0.length : Int)) = false := decide_eq_false (by have := HI.out; have := HIE.out; omega)
      go_wp2_with fail
      go_ret
      have h_ := HF.out
      rw [List.drop_eq_nil_of_le (by have := HI.out; omega)] at h_
      rw [← h_]
      exact ⟨_, rfl, HR.out, HB.out⟩
    | succ k2 =>
      have hil : i < l0.length := by have := HI.out; omega
      have c1b : decide (I < (l0.length : Int)) = true := decide_eq_true (by have := HIE.out; omega)
      have p4 : (0 ≤ I) = True := eq_true (by have := HIE.out; omega)
      have q4 : (I < (l0.length : Int)) = True := eq_true (by have := HIE.out; omega)
      have HIL := Am hil
      obtain ⟨x, hx⟩ : ∃ x, x = rd_T24 l0 I := ⟨_, rfl⟩
      have HX := Am hx
      clear hil hx
      obtain ⟨ax, hax, HSx⟩ : ∃ ax, A0 = some ax ∧ Aside0 (∀ W, Below w.heap.size w W → W.cell? (ax.add (I.toNat * 4)) = some (.int .i64 x.f0) ∧ cA W (ax.add (I.toNat * 4)) 1 (.int .i64 x.f1) ∧ cA W (ax.add (I.toNat * 4)) 2 (.int .i64 x.f2) ∧ cA W (ax.add (I.toNat * 4)) 3 (.int .u32 x.f3)) := by
        obtain ⟨ax, e0, _⟩ := at_T24 HR0.out I (of_eq_true p4) (of_eq_true q4)
        refine ⟨ax, e0, ⟨fun W hW => ?_⟩⟩
        obtain ⟨ax', e0', h⟩ := at_T24 (Kd.C_below HR0.out hW) I (of_eq_true p4) (of_eq_true q4)
        rw [e0] at e0'
        cases e0'
        rw [HX.out]
        exact h
      subst hax
      have hlen : acc.length < 1000000000000 := by have := HA.out; have := HIL.out; have := HL.out; omega
      have HLEN := Am hlen
      clear hlen
      go_upto_block 2 with fail
      go_cut [5] (fun v5 wx => ∃ p : Nat, v5 = .int .i64 (p : Int) ∧ Aside0 (p ≤ acc.length) ∧ Aside0 (p = garnerref04_Order.pos x acc acc.length) ∧ Aside0 (Kd.R k24 24 wx w.heap.size (fun _ => True) (.slice Av acc.length cv) acc) ∧ Aside0 (Below w.heap.size w wx))
      case first =>
       as_aux_lemma =>
        go_wp2_with fail
        go_loopg [5] acc.length (fun kq v5 w' => ∃ j : Nat, v5 = .int .i64 (j : Int) ∧ Aside0 (j ≤ acc.length) ∧ Aside0 (garnerref04_Order.pos x acc j = garnerref04_Order.pos x acc acc.length) ∧ Aside0 (kq = j) ∧ Aside0 (Kd.R k24 24 w' w.heap.size (fun _ => True) (.slice Av acc.length cv) acc) ∧ Aside0 (Below w.heap.size w w'))
        case atStart => exact ⟨acc.length, rfl, ⟨Nat.le_refl _⟩, ⟨rfl⟩, ⟨rfl⟩, HR, HB⟩
        case round =>
          obtain ⟨j, rfl, HJ, HPZ, HKQ, HR7, HB7⟩ := hrel
          by_cases hj0 : j = 0
          · subst hj0
            go_upto_region 6 with fail
            go_big_quiet (fail)
            go_wp2_with fail
            go_meet
            case rel => exact ⟨0, rfl, ⟨Nat.zero_le _⟩, ⟨HPZ.out.symm ▸ HPZ.out⟩, ⟨Kd.R_drewN HR7.out _⟩, ⟨pw_below_drewN HB7.out _⟩⟩
          · obtain ⟨m, rfl⟩ : ∃ m, j = m + 1 := ⟨j - 1, by omega⟩
            obtain ⟨M, hM⟩ : ∃ M : Int, M = (m : Int) := ⟨_, rfl⟩
            obtain ⟨J, hJ⟩ : ∃ J : Int, J = ((m + 1 : Nat) : Int) := ⟨_, rfl⟩
            rw [← hJ]
            have hjl := HJ.out
            have hlen := HLEN.out
            have g1 : decide ((0 : Int) < J) = true := decide_eq_true (by omega)
            have g2b : decide (0 ≤ M) = true := decide_eq_true (by omega)
            have g3b : decide (M < (acc.length : Int)) = true := decide_eq_true (by omega)
            have g2 : (0 ≤ M) = True := eq_true (by omega)
            have g3 : (M < (acc.length : Int)) = True := eq_true (by omega)
            have hMw : (IntKind.i64.wrap (J - 1)) = M := by
              have h2 := IntWalk.i64_in (J - 1) (by omega)
              omega
            have hMw2 : wrap64 (J - 1) = M := (i64_w _).symm.trans hMw
            obtain ⟨y, hy⟩ : ∃ y, y = rd_T24 acc M := ⟨_, rfl⟩
            have HY := Am hy
            have HM := Am hM
            have HJv := Am hJ
            clear hj0 hjl hlen hM hJ hy
            by_cases hless : garnerref04_Order.less x y = true
            · skip
              have HLE : Aside0 (garnerref04_Less.f x.f0 x.f1 x.f2 x.f3 y.f0 y.f1 y.f2 y.f3 = some true) := ⟨(garnerref04_Order.less_eq x y).trans (congrArg some hless)⟩
              have HS := Am hless
              clear hless
              go_wp2_with fail
              replace HR7 := dRa HR7
              replace HB7 := bDa HB7
              obtain ⟨x0, x1, x2, x3⟩ := HSx.out _ HB7.out
              obtain ⟨ay, e1, y0, y1, y2, y3⟩ := at_T24 (Kd.R_reads' HR7.out).2.2 M (of_decide_eq_true g2b) (of_decide_eq_true g3b)
              rw [← HY.out] at y0 y1 y2 y3
              subst e1
              refine start_ (n := 14) (S := fun w' => w'.cell? (ax.add (I.toNat * 4)) = some (.int .i64 x.f0) ∧ cA w' (ax.add (I.toNat * 4)) 1 (.int .i64 x.f1) ∧ cA w' (ax.add (I.toNat * 4)) 2 (.int .i64 x.f2) ∧ cA w' (ax.add (I.toNat * 4)) 3 (.int .u32 x.f3) ∧ w'.cell? (ay.add (M.toNat * 4)) = some (.int .i64 y.f0) ∧ cA w' (ay.add (M.toNat * 4)) 1 (.int .i64 y.f1) ∧ cA w' (ay.add (M.toNat * 4)) 2 (.int .i64 y.f2) ∧ cA w' (ay.add (M.toNat * 4)) 3 (.int .u32 y.f3)) (ds := []) #[false, false, false, false, false, false, false, false, false, false, false, false, false, false] (by kernel_rfl) rfl rfl ⟨x0, x1, x2, x3, y0, y1, y2, y3⟩ (fun hHeld => ?_); refine with_tabW garnerref04_Order.tab6 garnerref04_Order.bits6 (fun HT_ HW_ => ?_)
              generalize wr.drew = w22 at HR7 HB7 x0 x1 x2 x3 y0 y1 y2 y3 hHeld ⊢
              refine pui 0 16 14 1 HT_ ?_
              refine pui 1 17 14 3 HT_ ?_
              refine pui 2 18 14 7 HT_ ?_
              refine pui 3 19 14 15 HT_ ?_
              refine pui 4 20 14 31 HT_ ?_
              refine pui 5 21 14 63 HT_ ?_
              refine pui 7 23 14 191 HT_ ?_
              refine pui 8 24 14 447 HT_ ?_
              refine pui 9 25 14 959 HT_ ?_
              refine pui 10 26 14 1983 HT_ ?_
              refine tki 6 22 14 2047 HT_ HW_ hHeld ?_
              refine tki 11 27 14 4095 HT_ HW_ hHeld ?_
              refine onei 12 28 14 8191 HT_ (fun K hK => ?_)
              refine goes_ Try.func54 (by kernel_rfl) rfl #[.agg #[.int .i64 x.f0, .int .i64 x.f1, .int .i64 x.f2, .int .u32 x.f3], .agg #[.int .i64 y.f0, .int .i64 y.f1, .int .i64 y.f2, .int .u32 y.f3]] (by rfl) rfl rfl (by (try simp only [List.map_toArray, List.map_cons, List.map_nil]); rfl) ?_
              with_reducible refine (garnerref04_Less.calls x.f0 x.f1 x.f2 x.f3 y.f0 y.f1 y.f2 y.f3 true _ HLE.out).mono ?_
              rintro e w24 ⟨rfl, hb⟩
              have HS0_ := (hb.cell (World.block_lt_of_cell? _ _ (hHeld.1))).trans (hHeld.1)
              have HS1_ := (hb.cell (World.block_lt_of_cell? _ _ (hHeld.2.1))).trans (hHeld.2.1)
              have HS2_ := (hb.cell (World.block_lt_of_cell? _ _ (hHeld.2.2.1))).trans (hHeld.2.2.1)
              have HS3_ := (hb.cell (World.block_lt_of_cell? _ _ (hHeld.2.2.2.1))).trans (hHeld.2.2.2.1)
              have HS4_ := (hb.cell (World.block_lt_of_cell? _ _ (hHeld.2.2.2.2.1))).trans (hHeld.2.2.2.2.1)
              have HS5_ := (hb.cell (World.block_lt_of_cell? _ _ (hHeld.2.2.2.2.2.1))).trans (hHeld.2.2.2.2.2.1)
              have HS6_ := (hb.cell (World.block_lt_of_cell? _ _ (hHeld.2.2.2.2.2.2.1))).trans (hHeld.2.2.2.2.2.2.1)
              have HS7_ := (hb.cell (World.block_lt_of_cell? _ _ (hHeld.2.2.2.2.2.2.2))).trans (hHeld.2.2.2.2.2.2.2)
              refine ⟨_, rfl, ?_⟩
              replace HR7 := bRa HR7 hb
              replace HB7 := Am (below_step (pB HB7.out) hb)
              clear hb
              refine hK.out _ _ ⟨HS0_, HS1_, HS2_, HS3_, HS4_, HS5_, HS6_, HS7_⟩ (fun hHeld => ?_)
              clear hK K
              refine norm_ (a' := ?_) ?_ ?_
              rotate_left
              · show Act.put _ (some 28) _ = _
                simp only [Act.put, List.setIfInBounds_toArray, List.set_cons_zero, List.set_cons_succ, i64_w, i32_w]
                rfl
              refine pui 13 29 14 16383 HT_ ?_
              refine done_ (done_of HT_.out (by kernel_rfl)) ?_
              try go_wp2_with fail
              go_roundg m
              case measure => have := HKQ.out; omega
              case rel => exact ⟨m, by rw [HM.out], ⟨by have := HJ.out; omega⟩, ⟨by rw [← HPZ.out, garnerref04_Order.pos, ← HM.out, ← HY.out, if_pos HS.out]⟩, ⟨rfl⟩, ⟨HR7.out⟩, ⟨pB HB7.out⟩⟩
            · replace hless : garnerref04_Order.less x y = false := by simpa using hless
              have HLE : Aside0 (garnerref04_Less.f x.f0 x.f1 x.f2 x.f3 y.f0 y.f1 y.f2 y.f3 = some false) := ⟨(garnerref04_Order.less_eq x y).trans (congrArg some hless)⟩
              have HS := Am hless
              clear hless
              go_wp2_with fail
              replace HR7 := dRa HR7
              replace HB7 := bDa HB7
              obtain ⟨x0, x1, x2, x3⟩ := HSx.out _ HB7.out
              obtain ⟨ay, e1, y0, y1, y2, y3⟩ := at_T24 (Kd.R_reads' HR7.out).2.2 M (of_decide_eq_true g2b) (of_decide_eq_true g3b)
              rw [← HY.out] at y0 y1 y2 y3
              subst e1
              refine start_ (n := 14) (S := fun w' => w'.cell? (ax.add (I.toNat * 4)) = some (.int .i64 x.f0) ∧ cA w' (ax.add (I.toNat * 4)) 1 (.int .i64 x.f1) ∧ cA w' (ax.add (I.toNat * 4)) 2 (.int .i64 x.f2) ∧ cA w' (ax.add (I.toNat * 4)) 3 (.int .u32 x.f3) ∧ w'.cell? (ay.add (M.toNat * 4)) = some (.int .i64 y.f0) ∧ cA w' (ay.add (M.toNat * 4)) 1 (.int .i64 y.f1) ∧ cA w' (ay.add (M.toNat * 4)) 2 (.int .i64 y.f2) ∧ cA w' (ay.add (M.toNat * 4)) 3 (.int .u32 y.f3)) (ds := []) #[false, false, false, false, false, false, false, false, false, false, false, false, false, false] (by kernel_rfl) rfl rfl ⟨x0, x1, x2, x3, y0, y1, y2, y3⟩ (fun hHeld => ?_); refine with_tabW garnerref04_Order.tab6 garnerref04_Order.bits6 (fun HT_ HW_ => ?_)
              generalize wr.drew = w22 at HR7 HB7 x0 x1 x2 x3 y0 y1 y2 y3 hHeld ⊢
              refine pui 0 16 14 1 HT_ ?_
              refine pui 1 17 14 3 HT_ ?_
              refine pui 2 18 14 7 HT_ ?_
              refine pui 3 19 14 15 HT_ ?_
              refine pui 4 20 14 31 HT_ ?_
              refine pui 5 21 14 63 HT_ ?_
              refine pui 7 23 14 191 HT_ ?_
              refine pui 8 24 14 447 HT_ ?_
              refine pui 9 25 14 959 HT_ ?_
              refine pui 10 26 14 1983 HT_ ?_
              refine tki 6 22 14 2047 HT_ HW_ hHeld ?_
              refine tki 11 27 14 4095 HT_ HW_ hHeld ?_
              refine onei 12 28 14 8191 HT_ (fun K hK => ?_)
              refine goes_ Try.func54 (by kernel_rfl) rfl #[.agg #[.int .i64 x.f0, .int .i64 x.f1, .int .i64 x.f2, .int .u32 x.f3], .agg #[.int .i64 y.f0, .int .i64 y.f1, .int .i64 y.f2, .int .u32 y.f3]] (by rfl) rfl rfl (by (try simp only [List.map_toArray, List.map_cons, List.map_nil]); rfl) ?_
              with_reducible refine (garnerref04_Less.calls x.f0 x.f1 x.f2 x.f3 y.f0 y.f1 y.f2 y.f3 false _ HLE.out).mono ?_
              rintro e w24 ⟨rfl, hb⟩
              have HS0_ := (hb.cell (World.block_lt_of_cell? _ _ (hHeld.1))).trans (hHeld.1)
              have HS1_ := (hb.cell (World.block_lt_of_cell? _ _ (hHeld.2.1))).trans (hHeld.2.1)
              have HS2_ := (hb.cell (World.block_lt_of_cell? _ _ (hHeld.2.2.1))).trans (hHeld.2.2.1)
              have HS3_ := (hb.cell (World.block_lt_of_cell? _ _ (hHeld.2.2.2.1))).trans (hHeld.2.2.2.1)
              have HS4_ := (hb.cell (World.block_lt_of_cell? _ _ (hHeld.2.2.2.2.1))).trans (hHeld.2.2.2.2.1)
              have HS5_ := (hb.cell (World.block_lt_of_cell? _ _ (hHeld.2.2.2.2.2.1))).trans (hHeld.2.2.2.2.2.1)
              have HS6_ := (hb.cell (World.block_lt_of_cell? _ _ (hHeld.2.2.2.2.2.2.1))).trans (hHeld.2.2.2.2.2.2.1)
              have HS7_ := (hb.cell (World.block_lt_of_cell? _ _ (hHeld.2.2.2.2.2.2.2))).trans (hHeld.2.2.2.2.2.2.2)
              refine ⟨_, rfl, ?_⟩
              replace HR7 := bRa HR7 hb
              replace HB7 := Am (below_step (pB HB7.out) hb)
              clear hb
              refine hK.out _ _ ⟨HS0_, HS1_, HS2_, HS3_, HS4_, HS5_, HS6_, HS7_⟩ (fun hHeld => ?_)
              clear hK K
              refine norm_ (a' := ?_) ?_ ?_
              rotate_left
              · show Act.put _ (some 28) _ = _
                simp only [Act.put, List.setIfInBounds_toArray, List.set_cons_zero, List.set_cons_succ, i64_w, i32_w]
                rfl
              refine pui 13 29 14 16383 HT_ ?_
              refine done_ (done_of HT_.out (by kernel_rfl)) ?_
              try go_wp2_with fail
              go_meet
              case rel => exact ⟨m + 1, by rw [HJv.out], HJ, ⟨by rw [← HPZ.out, garnerref04_Order.pos, ← HM.out, ← HY.out, if_neg (by rw [HS.out]; decide)]⟩, ⟨HR7.out⟩, ⟨pB HB7.out⟩⟩
      case rest =>
       as_aux_lemma =>
        obtain ⟨p, rfl, HP1, HP2, HR7, HB7⟩ := hcut
        have hpl := HP1.out
        have hcl := (Kd.R_reads' HR7.out).2.1
        have hlen := HLEN.out
        obtain ⟨i0, hi0, _, Ai, _⟩ := info_parts info24
        obtain ⟨Pz, hPz⟩ : ∃ P : Int, P = (p : Int) := ⟨_, rfl⟩
        rw [← hPz]
        have Ao := cut_from (P := Try.prog) 36 24 .i64 Try.underlying36 hi0 4 Ai Av acc.length cv Pz (by omega) (by omega)
        have Ag := garnerref04_Order.cut_tight (P := Try.prog) 36 24 .i64 .i64 Try.underlying36 hi0 Av acc.length cv Pz (by omega) (by omega) hcl
        have hPn : Pz.toNat = p := by rw [hPz]; simp
        rw [hPn] at Ao Ag
        obtain ⟨tl, htl⟩ : ∃ q, q = acc.drop p := ⟨_, rfl⟩
        obtain ⟨A14, hA14⟩ : ∃ AX, AX = (if cv = p then Av else Av.map (·.add (p * 4))) := ⟨_, rfl⟩
        obtain ⟨c14, hc14⟩ : ∃ c, c = cv - p := ⟨_, rfl⟩
        have hrl : tl.length = acc.length - p := by rw [htl, List.length_drop]
        have HCd : Aside0 (∀ W, Kd.C k24 W Av acc.length acc → Kd.C k24 W A14 tl.length tl) := ⟨fun W h => by rw [hA14, htl]; exact Kd.C_drop h hpl hcl⟩
        rw [← hrl, ← hA14, ← hc14] at Ao
        have HTL := Am htl
        have HRL := Am hrl
        obtain ⟨I1, hI1⟩ : ∃ I1 : Int, I1 = ((i + 1 : Nat) : Int) := ⟨_, rfl⟩
        have hIw : (IntKind.i64.wrap (I + 1)) = I1 := by
          have h1 := HIE.out
          have h3 := HIL.out
          have h4 := HL.out
          have h2 := IntWalk.i64_in (I + 1) (by omega)
          omega
        have hIw2 : wrap64 (I + 1) = I1 := (i64_w _).symm.trans hIw
        have HI1 := Am hI1
        clear hpl hcl hlen hPz hPn hA14 hc14 hrl htl hi0 Ai hI1
        go_upto_region 9 with (first | ((with_reducible refine gate_dst (N := 32) rfl ?_); refine Kd.R_lit k24 _ 24 ?hg (N := 32) ?hd (xs := ([] : List S24)) (inner := []) (ok := fun _ => True) (okp := fun _ => True) ?hr ?hp (fun _ hk => hk) trivial (Below.refl _ _) (Nat.le_refl _) (by simp) ?_; (case hd => rfl); (case hg => rfl); (case hr => first | (go_simp; done) | (go_simp; rfl)); (case hp => exact (Reps.none _ _)); intro v8 w8 ho8 hb8 hg_ hnew_; have L8 := Am ho8; have W8 := Am hb8; clear ho8 hb8 hg_ hnew_) | ((with_reducible refine gate_builtin (b := .append) (xs := #[.tmp 32, .tmp 35]) rfl ?_); at_builtin; have C8 := Kd.C_below (Kd.R_reads' HR7.out).2.2 W8.out; refine Kd.R_append_rows k24 (w0 := w) w.heap.size rfl (.tmp 32) (.tmp 35) 36 24 (.agg #[.int .i64 0, .int .i64 0, .int .i64 0, .int .u32 0]) 32 rfl Try.underlying36 info24 rfl (by decide) (by omega) v8 [] tl A14 tl.length c14 (fun k => wc.heap.size ≤ k) (fun _ => False) rfl rfl ?aO (HCd.out _ C8) ?aK (fun _ h => h.elim) ?aF ?aB ?aS ?aL ?_; (case aK => intro y cs hk; rw [k24_open hk]; exact k24_mkM _ _ _ y); (case aB => exact HB7.out.trans (W8.out.mono HB7.out.size)); (case aF => have h_ := W8.out.size; exact fun k hk => Nat.le_trans h_ hk); (case aO => exact Kd.R_lower (Kd.R_mono (Kd.R_bound L8.out) (fun _ hk => hk.2.1)) HB7.out.size); (case aS => exact Nat.le_trans HB7.out.size W8.out.size); (case aL => have := HLEN.out; have := HRL.out; simp only [List.length_nil]; omega); intro v9 w9 ho hb hg hat; have hlt8 := Kd.R_base L8.out; have R9 : Aside0 (Kd.R k24 24 w9 w.heap.size (fun k => k < wc.heap.size) (.slice Av acc.length cv) acc) := ⟨Kd.R_grown (Kd.R_below (Kd.R_mono (Kd.R_bound HR7.out) (fun k hk => (hk.2.2.1 : k < wc.heap.size))) W8.out) hg (fun k hk e_ => (by have h_ := hlt8 k e_.symm; omega))⟩; have L9 : Aside0 (Kd.R k24 24 w9 w.heap.size (fun k => wc.heap.size ≤ k) v9 tl) := ⟨ho⟩; have B9 := Am hb; clear ho hb hg hat hlt8 C8))
        clear L8 W8 HR7 HB7
        obtain ⟨A9', c9', hv9⟩ := Kd.R_slice L9.out
        subst hv9
        replace R9 := dRa R9
        replace L9 := dRa L9
        replace B9 := bDa B9
        obtain ⟨x0, x1, x2, x3⟩ := HSx.out _ B9.out
        refine start_ (n := 13) (S := fun w' => w'.cell? (ax.add (I.toNat * 4)) = some (.int .i64 x.f0) ∧ cA w' (ax.add (I.toNat * 4)) 1 (.int .i64 x.f1) ∧ cA w' (ax.add (I.toNat * 4)) 2 (.int .i64 x.f2) ∧ cA w' (ax.add (I.toNat * 4)) 3 (.int .u32 x.f3)) (ds := []) #[false, false, false, false, false, false, false, false, false, false, false, false, false] (by kernel_rfl) rfl rfl ⟨x0, x1, x2, x3⟩ (fun hHeld => ?_); refine with_tabW garnerref04_Order.tab9 garnerref04_Order.bits9 (fun HT_ HW_ => ?_)
        generalize w9.drew = w5 at R9 B9 L9 x0 x1 x2 x3 hHeld ⊢
        refine pui 0 37 13 1 HT_ ?_
        refine pui 1 38 13 3 HT_ ?_
        refine pui 2 39 13 7 HT_ ?_
        refine pui 3 40 13 15 HT_ ?_
        refine pui 4 41 13 31 HT_ ?_
        refine pui 5 42 13 63 HT_ ?_
        refine pui 6 43 13 127 HT_ ?_
        refine pui 10 47 13 1151 HT_ ?_
        refine tki 7 44 13 1279 HT_ HW_ hHeld ?_
        refine onei 8 45 13 1535 HT_ (fun K hK => ?_)
        refine value_ (w1 := ?_) (v := ?_) (by rfl) rfl ?_ ?_
        rotate_left 2
        · go_simp
          constructor
          · rfl
          · rfl
        refine hK.out _ _ (HSx.out _ (B9.out.alloc B9.out.size _)) (fun hHeld => ?_)
        clear hK K
        refine norm_ (a' := ?_) ?_ ?_
        rotate_left
        · show Act.put _ (some 45) _ = _
          simp only [Act.put, List.setIfInBounds_toArray, List.set_cons_zero, List.set_cons_succ, i64_w, i32_w]
          rfl
        refine onei 9 46 13 2047 HT_ (fun K hK => ?_)
        refine garnerref04_Order.app_cut_step k24 (w0 := w) (W := w5) w.heap.size (by rfl) (.tmp 40) (.tmp 45) 36 24 (.agg #[.int .i64 0, .int .i64 0, .int .i64 0, .int .u32 0]) 32 rfl Try.underlying36 info24 rfl (by decide) (by omega) Av acc.length cv p acc x [.int .i64 x.f0, .int .i64 x.f1, .int .i64 x.f2, .int .u32 x.f3] (fun k => k < wc.heap.size) (fun _ => True) HP1.out rfl rfl (k24_mkM _ _ _ x) (fun _ _ _ _ _ _ h => by rw [k24_openM h]; exact k24_mkM _ _ _ _) R9.out B9.out B9.out.size ?aL ?_
        (case aL => have := HLEN.out; omega)
        intro v10 w10 ho hb hg
        have R10 := Am ho
        have L10 := Am (Kd.R_grown (row := none) L9.out hg (fun _ _ => by simp))
        have B10 := Am hb
        clear ho hb hg R9 L9 B9
        refine hK.out _ _ (HSx.out _ B10.out) (fun hHeld => ?_)
        clear hK K
        refine norm_ (a' := ?_) ?_ ?_
        rotate_left
        · show Act.put _ (some 46) _ = _
          simp only [Act.put, List.setIfInBounds_toArray, List.set_cons_zero, List.set_cons_succ, i64_w, i32_w]
          rfl
        refine onei 11 48 13 4095 HT_ (fun K hK => ?_)
        refine Kd.R_append_rows_step k24 (w0 := w) w.heap.size (by rfl) (.tmp 46) (.tmp 47) 36 24 (.agg #[.int .i64 0, .int .i64 0, .int .i64 0, .int .u32 0]) 32 rfl Try.underlying36 info24 rfl (by decide) (by omega) v10 (acc.take p ++ [x]) tl A9' tl.length c9' (fun _ => True) (fun _ => False) rfl rfl (Kd.R_mono R10.out (fun _ _ => trivial)) (Kd.R_reads' L10.out).2.2 ?aK (fun _ h => h.elim) (fun _ _ => trivial) B10.out B10.out.size ?aL ?_
        (case aK => intro y cs hk; rw [k24_open hk]; exact k24_mkM _ _ _ y)
        (case aL => have := HLEN.out; have := HRL.out; have := HP1.out; simp only [List.length_append, List.length_take, List.length_cons, List.length_nil]; omega)
        intro v11 w11 ho hb hg hat
        have R11 := Am ho
        have B11 := Am hb
        clear ho hb hg hat R10 L10 B10
        refine hK.out _ _ (HSx.out _ B11.out) (fun hHeld => ?_)
        clear hK K
        refine norm_ (a' := ?_) ?_ ?_
        rotate_left
        · show Act.put _ (some 48) _ = _
          simp only [Act.put, List.setIfInBounds_toArray, List.set_cons_zero, List.set_cons_succ, i64_w, i32_w]
          rfl
        refine pui 12 3 13 8191 HT_ ?_
        refine done_ (done_of HT_.out (by kernel_rfl)) ?_
        try go_wp2_with fail
        go_roundg k2
        case measure => have := HI.out; omega
        case rel =>
          refine ⟨i + 1, garnerref04_Order.ins acc x, by rw [HI1.out], ⟨by have := HI.out; omega⟩, ⟨?_⟩, ⟨?_⟩, ⟨?_⟩, B11⟩
          · have h_ := HF.out
            rw [List.drop_eq_getElem_cons HIL.out, List.foldl_cons] at h_
            rw [HX.out]
            have hx : rd_T24 l0 I = l0[i]'HIL.out := by
              rw [HIE.out]
              simp [rd_T24, List.getD_eq_getElem?_getD, HIL.out]
            rw [hx]
            exact h_
          · have h1 := garnerref04_Order.pos_le x acc acc.length
            simp only [garnerref04_Order.ins, List.length_append, List.length_take, List.length_cons, List.length_drop]
            have := HA.out
            omega
          · have h_ := R11.out
            rw [HTL.out, HP2.out, List.append_assoc] at h_
            exact h_
end
section
attribute [local go_sem] max2_int min2_int max_two min_two max_three min_three max_four min_four
attribute [local go_sem] wrap64_l1 wrap64_l2 wrap64_l3 wrap64_l4 wrap64_l5
attribute [local go_sem high] eqA24
def garnerref28_Put.l0 : Nat → List (S24) → List (S24) → Int → Option ((List (S24)))
 | 0, _, _, _ => none
 | k + 1, x0, x1, x5 => if x5 < (x1.length : Int) then (if 0 ≤ x5 then ((garnerref28_Has.f k x0 ((rd_T24 x1 x5).f0) ((rd_T24 x1 x5).f1)).bind fun t210 => (if t210 = true then (garnerref28_Put.l0 k x0 x1 (wrap64 (x5 + 1))) else ((some (([] : List (S24)) : List (S24))).bind fun y211 => (if y211.length + x0.length < 4398046511104 then ((some (y211 ++ x0 : List (S24))).bind fun y214 => ((some (([(⟨(rd_T24 x1 x5).f0, (rd_T24 x1 x5).f1, (rd_T24 x1 x5).f2, (rd_T24 x1 x5).f3⟩ : S24)] : List (S24)) : List (S24))).bind fun y218 => (if y214.length + y218.length < 4398046511104 then ((garnerref04_Order.f (y214 ++ y218)).bind fun t224 => (garnerref28_Put.l0 k t224 x1 (wrap64 (x5 + 1)))) else (none)))) else (none))))) else (none)) else (some x0)
def garnerref28_Put.f (k : Nat) (l0 : List (S24)) (l1 : List (S24)) : Option ((List (S24))) := garnerref28_Put.l0 k l0 l1 0
theorem garnerref28_Put.mono_l : ∀ k, (∀ y0 y1 y2, LeO (garnerref28_Put.l0 k y0 y1 y2) (garnerref28_Put.l0 (k + 1) y0 y1 y2))
 | 0 => fun _ _ _ r h => by simp [garnerref28_Put.l0] at h
 | k + 1 => by
  have ih0 := garnerref28_Put.mono_l k
  ·intro y0 y1 y2
   unfold garnerref28_Put.l0
   repeat' first
   | (with_reducible exact ih0 _ _ _)
   | (with_reducible exact garnerref28_Has.mono _ _ _ _)
   | (with_reducible exact LeO.refl _)
   | (with_reducible exact LeO.none _)
   | (with_reducible refine LeO.ite ?_ ?_)
   | (with_reducible refine LeO.bind ?_ (fun _ => ?_))
   | exact ih0 _ _ _
   | exact garnerref28_Has.mono _ _ _ _
   | exact LeO.none _
   | refine LeO.ite ?_ ?_
   | refine LeO.bind ?_ (fun _ => ?_)
theorem garnerref28_Put.mono : ∀ a0 a1 k, LeO (garnerref28_Put.f k a0 a1) (garnerref28_Put.f (k + 1) a0 a1) := by
 intro a0 a1 k
 have ih0 := garnerref28_Put.mono_l k
 unfold garnerref28_Put.f
 repeat' first
   | (with_reducible exact ih0 _ _ _)
   | (with_reducible exact garnerref28_Has.mono _ _ _ _)
   | (with_reducible exact LeO.refl _)
   | (with_reducible exact LeO.none _)
   | (with_reducible refine LeO.ite ?_ ?_)
   | (with_reducible refine LeO.bind ?_ (fun _ => ?_))
   | exact ih0 _ _ _
   | exact garnerref28_Has.mono _ _ _ _
   | exact LeO.none _
   | refine LeO.ite ?_ ?_
   | refine LeO.bind ?_ (fun _ => ?_)
def garnerref28_Put.T4 : Bool × List (List Nat × List Nat) := (true, [([], []), ([], []), ([], []), ([1, 2], [1, 2]), ([3], [3]), ([4], [4]), ([], []), ([], []), ([6, 7], [6, 7]), ([8], [8]), ([9], [9]), ([0, 5, 10], [0, 5, 10]), ([11], [11])])
def garnerref28_Put.B4 : List Nat := [0, 0, 0, 6, 14, 30, 0, 0, 192, 448, 960, 2047, 4095]
theorem garnerref28_Put.tab4 : rtab .any (opsOf Try.f17 4) = garnerref28_Put.T4 := by kernel_rfl
theorem garnerref28_Put.bits4 : waitsOk garnerref28_Put.T4.2 garnerref28_Put.B4 = true := by kernel_rfl
def garnerref28_Put.T5 : Bool × List (List Nat × List Nat) := (true, [([], []), ([], []), ([0, 1], [0, 1]), ([], []), ([], []), ([3, 4], [3, 4]), ([5], [5]), ([6], [6]), ([2, 7, 2], [2, 7]), ([8, 8], [8]), ([9, 9, 0, 1, 2, 3, 4, 5, 6, 7, 8, 9], [1, 9])])
def garnerref28_Put.B5 : List Nat := [0, 0, 3, 0, 0, 24, 56, 120, 255, 511, 1023]
theorem garnerref28_Put.tab5 : rtab .any (opsOf Try.f17 5) = garnerref28_Put.T5 := by kernel_rfl
theorem garnerref28_Put.bits5 : waitsOk garnerref28_Put.T5.2 garnerref28_Put.B5 = true := by kernel_rfl
set_option maxHeartbeats 8000000 in
set_option maxRecDepth 100000 in
theorem garnerref28_Put.calls (k : Nat) (P0_ : Nat → Prop) (A0 : Option Addr) (c0 : Nat) (l0 : List (S24)) (A1 : Option Addr) (c1 : Nat) (l1 : List (S24)) (r : List (S24)) (w : World) (hs0 : Kd.V k24 24 w w.heap.size (fun k_ => P0_ k_) (.slice A0 l0.length c0) l0) (hr1 : Kd.C k24 w A1 l1.length l1) (hc1 : l1.length ≤ c1) (h : garnerref28_Put.f k l0 l1 = some r) :
  Calls Try.prog 17 #[.slice A0 l0.length c0, .slice A1 l1.length c1] w fun e w' => ∃ v0_ : Value, e = .returned (v0_) ∧ Kd.V k24 24 w' w.heap.size (fun k_ => (P0_ k_ ∨ w.heap.size ≤ k_)) v0_ r ∧ Below w.heap.size w w' := by
 have hu24 := Try.underlying24
 have Bg := Am (show Kd.V k24 24 w w.heap.size (fun k_ => (P0_ k_ ∨ w.heap.size ≤ k_)) (.slice A0 l0.length c0) l0 from Kd.V_mono hs0 (fun k_ hk => .inl hk))
 have HR1 := Am hr1
 have HC1 := Am hc1
 clear hr1 hc1
 have HB := Am (Below.refl w.heap.size w)
 have H : (garnerref28_Put.l0 k l0 l1 0) = some r := h
 clear h
 have H' := Am H
 clear H
 go_enter Try.func17, Try.ntmps17
 go_wp2
 go_loopg [0, 5] k (fun kq v0 v5 w' => ∃ (Ai : List (S24)) (Aa : Int), v5 = .int .i64 Aa ∧ Aside0 (garnerref28_Put.l0 kq Ai l1 Aa = some r) ∧ Aside0 (kq ≤ k) ∧ Aside0 (Kd.V k24 24 w' w.heap.size (fun k_ => (P0_ k_ ∨ w.heap.size ≤ k_)) v0 Ai) ∧ Aside0 (Below w.heap.size w w'))
 case atStart => exact ⟨(l0), (0), (by first | rfl | (simp; done) | (simp [*]; done)), H', ⟨Nat.le_refl _⟩, ⟨by (with_reducible repeat (first | apply Kd.V_alloc | apply Kd.V_drewN | apply Kd.V_drew)); exact Bg.out⟩, ⟨pB HB.out⟩⟩
 case round =>
  clear H'
  try clear c1
  try clear p2
  obtain ⟨Ai, Aa, rfl, HA, HK1, Ab, HB⟩ := hrel
  cases gk with
  | zero => exact absurd HA.out (by simp [garnerref28_Put.l0])
  | succ k1 =>
   have H := HA.out
   clear HA
   simp only [garnerref28_Put.l0] at H
   by_cases c3 : Aa < (l1.length : Int)
   rotate_left
   ·rw [if_neg c3] at H
    have c3b0 : decide (Aa < (l1.length : Int)) = false := decide_eq_false c3
    clear c3
    obtain rfl := Option.some.inj H
    go_wp2
    go_ret
    exact ⟨_, pX, by (with_reducible repeat (first | apply Kd.V_alloc | apply Kd.V_drewN | apply Kd.V_drew)); exact Ab.out, pB HB.out⟩
   rw [if_pos c3] at H
   have c3b0 : decide (Aa < (l1.length : Int)) = true := decide_eq_true c3
   clear c3
   by_cases c4 : 0 ≤ Aa
   rotate_left
   ·rw [if_neg c4] at H
    exact absurd H (by simp)
   rw [if_pos c4] at H
   have c4b0 : decide (0 ≤ Aa) = true := decide_eq_true c4
   clear c4
   replace H := Option.bind_eq_some_iff.mp H
   obtain ⟨t210, A50, H⟩ := H
   replace H : (if t210 = true then (garnerref28_Put.l0 k1 Ai l1 (wrap64 (Aa + 1))) else ((some (([] : List (S24)) : List (S24))).bind fun y211 => (if y211.length + Ai.length < 4398046511104 then ((some (y211 ++ Ai : List (S24))).bind fun y214 => ((some (([(⟨(rd_T24 l1 Aa).f0, (rd_T24 l1 Aa).f1, (rd_T24 l1 Aa).f2, (rd_T24 l1 Aa).f3⟩ : S24)] : List (S24)) : List (S24))).bind fun y218 => (if y214.length + y218.length < 4398046511104 then ((garnerref04_Order.f (y214 ++ y218)).bind fun t224 => (garnerref28_Put.l0 k1 t224 l1 (wrap64 (Aa + 1)))) else (none)))) else (none)))) = some r := H
   have A5 := Am A50
   clear A50
   by_cases c6 : t210 = true
   ·subst c6
    have H1 : (garnerref28_Put.l0 k1 Ai l1 (wrap64 (Aa + 1))) = some r := by rw [if_pos rfl] at H; exact H
    clear H
    have H := H1
    clear H1
    have H' := Am H
    clear H
    try go_wp2
    replace Ab := dVa Ab
    replace HB := bDa HB
    have p208 : 0 ≤ (Aa : Int) := of_decide_eq_true pS
    have q208 : Aa < (l1.length : Int) := of_decide_eq_true pS
    obtain ⟨Ad, e208, Al, An, Ao, Ap, Aq, Ar, A3, A4⟩ := at_T24w HR1.out Aa p208 q208 HB.out
    cases e208
    replace p208 := eq_true p208
    replace q208 := eq_true q208
    obtain ⟨Bh, Bi, Bf⟩ := Kd.V_slice Ab.out
    (first | subst Bf | (injection Bf with f1_ f2_ f3_; have f4_ := f1_.symm; have f5_ := f3_.symm; clear f1_ f2_ f3_; subst f4_; subst f5_))
    refine start_ (n := 13) (S := fun w' => w'.cell? (Ad.add ((Aa).toNat * 4)) = some (.int .i64 ((rd_T24 l1 Aa).f0)) ∧ cA w' (Ad.add ((Aa).toNat * 4)) 1 (.int .i64 ((rd_T24 l1 Aa).f1))) (ds := []) #[false, false, false, false, false, false, false, false, false, false, false, false, false] (by kernel_rfl) rfl rfl ⟨(cT HB.out Aq), (cT HB.out Ar)⟩ (fun hHeld => ?_); refine with_tabW garnerref28_Put.tab4 garnerref28_Put.bits4 (fun HT_ HW_ => ?_)
    (first | generalize wr.drew = w7 at Ab HB Al An Ao Ap hHeld ⊢ | generalize wr.drew = w7 at HB Al An Ao Ap hHeld ⊢)
    refine pui 0 12 13 1 HT_ ?_
    refine pui 1 13 13 3 HT_ ?_
    refine pui 2 14 13 7 HT_ ?_
    refine pui 3 15 13 15 HT_ ?_
    refine pui 4 16 13 31 HT_ ?_
    refine pui 6 18 13 95 HT_ ?_
    refine pui 7 19 13 223 HT_ ?_
    refine pui 8 20 13 479 HT_ ?_
    refine pui 9 21 13 991 HT_ ?_
    refine tki 5 17 13 1023 HT_ HW_ hHeld ?_
    refine tki 10 22 13 2047 HT_ HW_ hHeld ?_
    refine onei 11 23 13 4095 HT_ (fun K hK => ?_)
    refine goes_ Try.func34 (by kernel_rfl) rfl #[.slice Bh Ai.length Bi, .int .i64 ((rd_T24 l1 Aa).f0), .int .i64 ((rd_T24 l1 Aa).f1)] (by rfl) rfl rfl pL ?_
    with_reducible refine (garnerref28_Has.calls k1 _ _ Ai ((rd_T24 l1 Aa).f0) ((rd_T24 l1 Aa).f1) true _ ?At ?Au A5.out).mono ?_
    (case At => exact pC (Kd.V_reads' Ab.out).2.2)
    (case Au => exact (Kd.V_reads' Ab.out).2.1)
    rintro e w' ⟨rfl, ⟨nd, rfl⟩⟩
    refine ⟨_, rfl, ?_⟩
    refine hK.out _ _ ⟨(cT HB.out Aq), (cT HB.out Ar)⟩ (fun hHeld => ?_)
    clear hK K
    refine norm_ (a' := ?_) ?_ ?_
    rotate_left
    ·show Act.put _ (some 23) _ = _
     simp only [Act.put, List.setIfInBounds_toArray, List.set_cons_zero, List.set_cons_succ, i64_w, i32_w]
     rfl
    refine pui 12 24 13 8191 HT_ ?_
    refine done_ (done_of HT_.out (by kernel_rfl)) ?_
    try go_wp2
    go_roundg k1
    case measure => have := HK1.out; omega
    case rel => exact ⟨(Ai), (wrap64 (Aa + 1)), (by first | rfl | (simp; done) | (simp [*]; done)), H', ⟨by have := HK1.out; omega⟩, ⟨by (with_reducible repeat (first | apply Kd.V_alloc | apply Kd.V_drewN | apply Kd.V_drew)); exact Ab.out⟩, ⟨pB HB.out⟩⟩
   replace c6 := Bool.eq_false_iff.mpr c6
   subst c6
   have H1 : ((some (([] : List (S24)) : List (S24))).bind fun y211 => (if y211.length + Ai.length < 4398046511104 then ((some (y211 ++ Ai : List (S24))).bind fun y214 => ((some (([(⟨(rd_T24 l1 Aa).f0, (rd_T24 l1 Aa).f1, (rd_T24 l1 Aa).f2, (rd_T24 l1 Aa).f3⟩ : S24)] : List (S24)) : List (S24))).bind fun y218 => (if y214.length + y218.length < 4398046511104 then ((garnerref04_Order.f (y214 ++ y218)).bind fun t224 => (garnerref28_Put.l0 k1 t224 l1 (wrap64 (Aa + 1)))) else (none)))) else (none))) = some r := by rw [if_neg (show ¬ (false = true) by decide)] at H; exact H
   clear H
   have H := H1
   clear H1
   obtain ⟨y211, hy211⟩ : ∃ y_ : List (S24), y_ = (([] : List (S24))) := ⟨_, rfl⟩
   replace H : (if y211.length + Ai.length < 4398046511104 then ((some (y211 ++ Ai : List (S24))).bind fun y214 => ((some (([(⟨(rd_T24 l1 Aa).f0, (rd_T24 l1 Aa).f1, (rd_T24 l1 Aa).f2, (rd_T24 l1 Aa).f3⟩ : S24)] : List (S24)) : List (S24))).bind fun y218 => (if y214.length + y218.length < 4398046511104 then ((garnerref04_Order.f (y214 ++ y218)).bind fun t224 => (garnerref28_Put.l0 k1 t224 l1 (wrap64 (Aa + 1)))) else (none)))) else (none)) = some r := by first | (rw [hy211]; with_reducible exact H) | (have H2_ := (Option.bind_some _ _).symm.trans H; rw [hy211]; with_reducible exact H2_) | (have H2_ := (Option.bind_some _ _).symm.trans H; with_reducible exact H2_) | with_reducible exact H | (rw [hy211]; exact H) | exact H
   have Ny211 := Am hy211
   clear hy211
   by_cases c9 : y211.length + Ai.length < 4398046511104
   rotate_left
   ·rw [if_neg c9] at H
    exact absurd H (by simp)
   rw [if_pos c9] at H
   have LMc9 := Am c9
   clear c9
   obtain ⟨y214, hy214⟩ : ∃ y_ : List (S24), y_ = (y211 ++ Ai) := ⟨_, rfl⟩
   replace H : ((some (([(⟨(rd_T24 l1 Aa).f0, (rd_T24 l1 Aa).f1, (rd_T24 l1 Aa).f2, (rd_T24 l1 Aa).f3⟩ : S24)] : List (S24)) : List (S24))).bind fun y218 => (if y214.length + y218.length < 4398046511104 then ((garnerref04_Order.f (y214 ++ y218)).bind fun t224 => (garnerref28_Put.l0 k1 t224 l1 (wrap64 (Aa + 1)))) else (none))) = some r := by first | (rw [hy214]; with_reducible exact H) | (have H2_ := (Option.bind_some _ _).symm.trans H; rw [hy214]; with_reducible exact H2_) | (have H2_ := (Option.bind_some _ _).symm.trans H; with_reducible exact H2_) | with_reducible exact H | (rw [hy214]; exact H) | exact H
   have Ny214 := Am hy214
   clear hy214
   obtain ⟨y218, hy218⟩ : ∃ y_ : List (S24), y_ = (([(⟨(rd_T24 l1 Aa).f0, (rd_T24 l1 Aa).f1, (rd_T24 l1 Aa).f2, (rd_T24 l1 Aa).f3⟩ : S24)] : List (S24))) := ⟨_, rfl⟩
   replace H : (if y214.length + y218.length < 4398046511104 then ((garnerref04_Order.f (y214 ++ y218)).bind fun t224 => (garnerref28_Put.l0 k1 t224 l1 (wrap64 (Aa + 1)))) else (none)) = some r := by first | (rw [hy218]; with_reducible exact H) | (have H2_ := (Option.bind_some _ _).symm.trans H; rw [hy218]; with_reducible exact H2_) | (have H2_ := (Option.bind_some _ _).symm.trans H; with_reducible exact H2_) | with_reducible exact H | (rw [hy218]; exact H) | exact H
   have Ny218 := Am hy218
   clear hy218
   by_cases c10 : y214.length + y218.length < 4398046511104
   rotate_left
   ·rw [if_neg c10] at H
    exact absurd H (by simp)
   rw [if_pos c10] at H
   have LMc10 := Am c10
   clear c10
   obtain ⟨y221, hy221⟩ : ∃ y_ : List (S24), y_ = (y214 ++ y218) := ⟨_, rfl⟩
   replace H : ((garnerref04_Order.f y221).bind fun t224 => (garnerref28_Put.l0 k1 t224 l1 (wrap64 (Aa + 1)))) = some r := by first | (rw [hy221]; with_reducible exact H) | (have H2_ := (Option.bind_some _ _).symm.trans H; rw [hy221]; with_reducible exact H2_) | (have H2_ := (Option.bind_some _ _).symm.trans H; with_reducible exact H2_) | with_reducible exact H | (rw [hy221]; exact H) | exact H
   have Ny221 := Am hy221
   clear hy221
   replace H := Option.bind_eq_some_iff.mp H
   obtain ⟨t224, A110, H⟩ := H
   replace H : (garnerref28_Put.l0 k1 t224 l1 (wrap64 (Aa + 1))) = some r := H
   have A11 := Am A110
   clear A110
   have H' := Am H
   clear H
   try go_wp2
   replace Ab := dVa Ab
   replace HB := bDa HB
   have p208 : 0 ≤ (Aa : Int) := of_decide_eq_true pS
   have q208 : Aa < (l1.length : Int) := of_decide_eq_true pS
   obtain ⟨Ad, e208, Al, An, Ao, Ap, Aq, Ar, A3, A4⟩ := at_T24w HR1.out Aa p208 q208 HB.out
   cases e208
   replace p208 := eq_true p208
   replace q208 := eq_true q208
   obtain ⟨Az, A2, A6⟩ := Kd.V_slice Ab.out
   (first | subst A6 | (injection A6 with f1_ f2_ f3_; have f4_ := f1_.symm; have f5_ := f3_.symm; clear f1_ f2_ f3_; subst f4_; subst f5_))
   refine start_ (n := 13) (S := fun w' => w'.cell? (Ad.add ((Aa).toNat * 4)) = some (.int .i64 ((rd_T24 l1 Aa).f0)) ∧ cA w' (Ad.add ((Aa).toNat * 4)) 1 (.int .i64 ((rd_T24 l1 Aa).f1))) (ds := []) #[false, false, false, false, false, false, false, false, false, false, false, false, false] (by kernel_rfl) rfl rfl ⟨(cT HB.out Aq), (cT HB.out Ar)⟩ (fun hHeld => ?_); refine with_tabW garnerref28_Put.tab4 garnerref28_Put.bits4 (fun HT_ HW_ => ?_)
   (first | generalize wr.drew = w12 at Ab HB Al An Ao Ap hHeld ⊢ | generalize wr.drew = w12 at HB Al An Ao Ap hHeld ⊢)
   refine pui 0 12 13 1 HT_ ?_
   refine pui 1 13 13 3 HT_ ?_
   refine pui 2 14 13 7 HT_ ?_
   refine pui 3 15 13 15 HT_ ?_
   refine pui 4 16 13 31 HT_ ?_
   refine pui 6 18 13 95 HT_ ?_
   refine pui 7 19 13 223 HT_ ?_
   refine pui 8 20 13 479 HT_ ?_
   refine pui 9 21 13 991 HT_ ?_
   refine tki 5 17 13 1023 HT_ HW_ hHeld ?_
   refine tki 10 22 13 2047 HT_ HW_ hHeld ?_
   refine onei 11 23 13 4095 HT_ (fun K hK => ?_)
   refine goes_ Try.func34 (by kernel_rfl) rfl #[.slice Az Ai.length A2, .int .i64 ((rd_T24 l1 Aa).f0), .int .i64 ((rd_T24 l1 Aa).f1)] (by rfl) rfl rfl pL ?_
   with_reducible refine (garnerref28_Has.calls k1 _ _ Ai ((rd_T24 l1 Aa).f0) ((rd_T24 l1 Aa).f1) false _ ?At ?Au A5.out).mono ?_
   (case At => exact pC (Kd.V_reads' Ab.out).2.2)
   (case Au => exact (Kd.V_reads' Ab.out).2.1)
   rintro e w' ⟨rfl, ⟨nd, rfl⟩⟩
   refine ⟨_, rfl, ?_⟩
   refine hK.out _ _ ⟨(cT HB.out Aq), (cT HB.out Ar)⟩ (fun hHeld => ?_)
   clear hK K
   refine norm_ (a' := ?_) ?_ ?_
   rotate_left
   ·show Act.put _ (some 23) _ = _
    simp only [Act.put, List.setIfInBounds_toArray, List.set_cons_zero, List.set_cons_succ, i64_w, i32_w]
    rfl
   refine pui 12 24 13 8191 HT_ ?_
   refine done_ (done_of HT_.out (by kernel_rfl)) ?_
   try go_wp2
   (try (rw [drewN_self w12]; generalize hq_ : World.drewN w12 _ = w12; replace Ab : Aside0 (Kd.V k24 24 w12 w.heap.size (fun k_ => (P0_ k_ ∨ w.heap.size ≤ k_)) (.slice Az Ai.length A2) Ai) := ⟨by rw [← hq_]; exact (pV Ab.out)⟩; replace HB : Aside0 (Below w.heap.size w w12) := ⟨by rw [← hq_]; exact (pB HB.out)⟩; clear hq_))
   replace Ab := dVa Ab
   replace HB := bDa HB
   have p217 : 0 ≤ (Aa : Int) := of_decide_eq_true pS
   have q217 : Aa < (l1.length : Int) := of_decide_eq_true pS
   obtain ⟨Bb, e217, Av, Aw, Ax, Ay, Ae, Af, Ag, Ah⟩ := at_T24w HR1.out Aa p217 q217 HB.out
   obtain rfl : Ad = Bb := (by injection e217)
   replace p217 := eq_true p217
   replace q217 := eq_true q217
   refine start_ (n := 11) (S := fun w' => w'.cell? (Ad.add ((Aa).toNat * 4)) = some (.int .i64 ((rd_T24 l1 Aa).f0)) ∧ cA w' (Ad.add ((Aa).toNat * 4)) 1 (.int .i64 ((rd_T24 l1 Aa).f1)) ∧ cA w' (Ad.add ((Aa).toNat * 4)) 2 (.int .i64 ((rd_T24 l1 Aa).f2)) ∧ cA w' (Ad.add ((Aa).toNat * 4)) 3 (.int .u32 ((rd_T24 l1 Aa).f3))) (ds := []) #[false, false, false, false, false, false, false, false, false, false, false] (by kernel_rfl) rfl rfl ⟨(cT HB.out Ae), (cT HB.out Af), (cT HB.out Ag), (cT HB.out Ah)⟩ (fun hHeld => ?_); refine with_tabW garnerref28_Put.tab5 garnerref28_Put.bits5 (fun HT_ HW_ => ?_)
   (first | generalize w12.drew = w14 at Ab HB Av Aw Ax Ay hHeld ⊢ | generalize w12.drew = w14 at HB Av Aw Ax Ay hHeld ⊢)
   refine pui 1 26 11 2 HT_ ?_
   refine pui 3 28 11 10 HT_ ?_
   refine pui 4 29 11 26 HT_ ?_
   refine pui 5 30 11 58 HT_ ?_
   refine tki 6 31 11 122 HT_ HW_ hHeld ?_
   refine join_ (σ := Value × Value × Value) 3 #[true, true, true, true, true, true, true, true, false, false, false] (fun s_ => [(25, s_.1), (27, s_.2.1), (32, s_.2.2)]) (fun s_ w' => (w'.cell? (Ad.add ((Aa).toNat * 4)) = some (.int .i64 ((rd_T24 l1 Aa).f0)) ∧ cA w' (Ad.add ((Aa).toNat * 4)) 1 (.int .i64 ((rd_T24 l1 Aa).f1)) ∧ cA w' (Ad.add ((Aa).toNat * 4)) 2 (.int .i64 ((rd_T24 l1 Aa).f2)) ∧ cA w' (Ad.add ((Aa).toNat * 4)) 3 (.int .u32 ((rd_T24 l1 Aa).f3))) ∧ (Kd.R k24 24 w' w.heap.size (fun k_ => (w.heap.size ≤ k_) ∧ some k_ ≠ (s_.2.2 : Value).ownBlock) s_.2.1 y214) ∧ (Kd.R k24 24 w' w.heap.size (fun k_ => (w.heap.size ≤ k_) ∧ some k_ ≠ (s_.2.1 : Value).ownBlock) s_.2.2 y218) ∧ (Kd.V k24 24 w' w.heap.size (fun k_ => (P0_ k_ ∨ w.heap.size ≤ k_) ∧ some k_ ≠ (s_.2.1 : Value).ownBlock ∧ some k_ ≠ (s_.2.2 : Value).ownBlock) (.slice Az Ai.length A2) Ai) ∧ (Below w.heap.size w w')) ?_ ?_
   rotate_left
   ·intro hCont
    refine two_ (i := 0) (j := 7) (Ni := some 25) (Nj := some 32) (bw 11 123) #[false, true, false, true, true, true, true, true, false, false, false] rfl rfl rfl rfl (two_of HT_.out (by kernel_rfl)) (by decide) (by decide) (fun K hK => ?_) (fun K hK => ?_)
    ·skip
     refine Kd.R_lit_step k24 _ 24 ?hg (N := 25) ?hd (xs := ([] : List (S24))) (inner := []) (ok := fun _ => True) (okp := fun _ => True) ?hr ?hp (fun _ hk => hk) trivial (Below.refl _ _) (Nat.le_refl _) (by simp) ?_; (case hd => rfl); (case hg => rfl); (case hr => first | (go_simp; done) | (go_simp; rfl)); (case hp => exact (Reps.none _ _))
     intro v212 w15 ho16 hb hg_ hnew_
     clear hg_ hnew_
     (first | rw [← Ny211.out] at ho16 | (simp only [Int.reduceToNat] at ho16; rw [← Ny211.out] at ho16))
     replace Ab := Am (Kd.V_elder' (pV Ab.out) (Kd.R_base ho16) hb)
     have Ak := Am (Kd.R_lower (Kd.R_newM (M := fun k_ => (w.heap.size ≤ k_)) ho16 (below_size (pB HB.out)) (fun k_ h_ => h_)) (below_size (pB HB.out)))
     replace HB := Am (below_step (pB HB.out) hb)
     clear hb ho16
     refine hK.out _ _ ⟨(cT HB.out Ae), (cT HB.out Af), (cT HB.out Ag), (cT HB.out Ah)⟩ (fun hHeld => ?_)
     clear hK K
     refine norm_ (a' := ?_) ?_ ?_
     rotate_left
     ·show Act.put _ (some 25) _ = _
      simp only [Act.put, List.setIfInBounds_toArray, List.set_cons_zero, List.set_cons_succ, i64_w, i32_w]
      rfl
     refine two_ (i := 2) (j := 7) (Ni := some 27) (Nj := some 32) (bw 11 127) #[true, true, false, true, true, true, true, true, false, false, false] rfl rfl rfl rfl (two_of HT_.out (by kernel_rfl)) (by decide) (by decide) (fun K hK => ?_) (fun K hK => ?_)
     ·skip
      refine Kd.R_append_rows_step k24 (w0 := w) w.heap.size (by rfl) (.tmp 25) (.tmp 26) 36 24 (.agg #[(.int .i64 0), (.int .i64 0), (.int .i64 0), (.int .u32 0)]) 32 rfl Try.underlying36 info24 rfl (by decide) (by omega) v212 y211 Ai _ _ _ (fun k_ => (w.heap.size ≤ k_)) (fun _ => False) rfl rfl ?aO ?aR (fun _ _ h => h) (fun _ h => h.elim) ?aF ?aB ?aS ?aL ?_
      (case aR => exact pC (Kd.V_reads' Ab.out).2.2)
      (case aB => exact (pB HB.out))
      (case aF => exact (fun k_ hk => (Nat.le_trans (below_size (pB HB.out)) hk)))
      (case aO => exact (by (with_reducible repeat (first | apply Kd.R_alloc | apply Kd.R_drewN | apply Kd.R_drew)); exact Kd.R_mono Ak.out (fun _ hk => hk.1)))
      (case aS => exact (below_size (pB HB.out)))
      (case aL => have := LMc9.out; omega)
      intro v215 w17 ho hb hg hat
      rw [← Ny214.out] at ho
      replace Ab := Am (Kd.V_afterv (ok := (fun k_ => (P0_ k_ ∨ w.heap.size ≤ k_))) (pV Ab.out) hg hat)
      replace HB := Am (hb)
      have Aj := Am (ho)
      clear Ak
      clear ho hb hg hat
      refine hK.out _ _ ⟨(cT HB.out Ae), (cT HB.out Af), (cT HB.out Ag), (cT HB.out Ah)⟩ (fun hHeld => ?_)
      clear hK K
      refine norm_ (a' := ?_) ?_ ?_
      rotate_left
      ·show Act.put _ (some 27) _ = _
       simp only [Act.put, List.setIfInBounds_toArray, List.set_cons_zero, List.set_cons_succ, i64_w, i32_w]
       rfl
      refine onei 7 32 11 255 HT_ (fun K hK => ?_)
      refine Kd.R_lit_step k24 _ 24 ?hg (N := 32) ?hd (xs := ([(⟨(rd_T24 l1 Aa).f0, (rd_T24 l1 Aa).f1, (rd_T24 l1 Aa).f2, (rd_T24 l1 Aa).f3⟩ : S24)] : List (S24))) (inner := [.int .i64 ((rd_T24 l1 Aa).f0), .int .i64 ((rd_T24 l1 Aa).f1), .int .i64 ((rd_T24 l1 Aa).f2), .int .u32 ((rd_T24 l1 Aa).f3)]) (ok := fun _ => True) (okp := fun _ => True) ?hr ?hp (fun _ hk => hk) trivial (Below.refl _ _) (Nat.le_refl _) (by simp) ?_; (case hd => rfl); (case hg => rfl); (case hr => first | (go_simp; done) | (go_simp; rfl)); (case hp => exact (Reps.c4 (show Kd.M k24 _ _ _ (⟨(rd_T24 l1 Aa).f0, (rd_T24 l1 Aa).f1, (rd_T24 l1 Aa).f2, (rd_T24 l1 Aa).f3⟩ : S24) [.int .i64 ((rd_T24 l1 Aa).f0), .int .i64 ((rd_T24 l1 Aa).f1), .int .i64 ((rd_T24 l1 Aa).f2), .int .u32 ((rd_T24 l1 Aa).f3)] from (k24_mkM _ _ _ (⟨(rd_T24 l1 Aa).f0, (rd_T24 l1 Aa).f1, (rd_T24 l1 Aa).f2, (rd_T24 l1 Aa).f3⟩ : S24) )) (Reps.none _ _)))
      intro v219 w18 ho19 hb hg_ hnew_
      clear hg_ hnew_
      (first | rw [← Ny218.out] at ho19 | (simp only [Int.reduceToNat] at ho19; rw [← Ny218.out] at ho19))
      replace Ab := Am (Kd.V_elder' (pV Ab.out) (Kd.R_base ho19) hb)
      have Ac := Am (Kd.R_lower (Kd.R_new' (Kd.R_newM (M := fun k_ => (w.heap.size ≤ k_)) ho19 (below_size (pB HB.out)) (fun k_ h_ => h_)) (Kd.R_lt (pR Aj.out))) (below_size (pB HB.out)))
      replace Aj := Am (Kd.R_elder' (pR Aj.out) (Kd.R_base ho19) hb)
      replace HB := Am (below_step (pB HB.out) hb)
      clear hb ho19
      refine hK.out _ _ ⟨(cT HB.out Ae), (cT HB.out Af), (cT HB.out Ag), (cT HB.out Ah)⟩ (fun hHeld => ?_)
      clear hK K
      refine norm_ (a' := ?_) ?_ ?_
      rotate_left
      ·show Act.put _ (some 32) _ = _
       simp only [Act.put, List.setIfInBounds_toArray, List.set_cons_zero, List.set_cons_succ, i64_w, i32_w]
       rfl
      exact norm_ (by simp only [putAll, Act.put, List.setIfInBounds_toArray, List.set_cons_zero, List.set_cons_succ]) (hCont (v212, v215, v219) _ ⟨hHeld, (pR Aj.out), (by (with_reducible repeat (first | apply Kd.R_alloc | apply Kd.R_drewN | apply Kd.R_drew)); exact Kd.R_mono Ac.out (fun _ hk => ⟨hk.1.1, hk.2⟩)), (by (with_reducible repeat (first | apply Kd.V_alloc | apply Kd.V_drewN | apply Kd.V_drew)); exact Kd.V_mono Ab.out (fun _ hk => ⟨hk.1.1, ⟨hk.1.2, hk.2⟩⟩)), (pB HB.out)⟩)
     skip
     refine Kd.R_lit_step k24 _ 24 ?hg (N := 32) ?hd (xs := ([(⟨(rd_T24 l1 Aa).f0, (rd_T24 l1 Aa).f1, (rd_T24 l1 Aa).f2, (rd_T24 l1 Aa).f3⟩ : S24)] : List (S24))) (inner := [.int .i64 ((rd_T24 l1 Aa).f0), .int .i64 ((rd_T24 l1 Aa).f1), .int .i64 ((rd_T24 l1 Aa).f2), .int .u32 ((rd_T24 l1 Aa).f3)]) (ok := fun _ => True) (okp := fun _ => True) ?hr ?hp (fun _ hk => hk) trivial (Below.refl _ _) (Nat.le_refl _) (by simp) ?_; (case hd => rfl); (case hg => rfl); (case hr => first | (go_simp; done) | (go_simp; rfl)); (case hp => exact (Reps.c4 (show Kd.M k24 _ _ _ (⟨(rd_T24 l1 Aa).f0, (rd_T24 l1 Aa).f1, (rd_T24 l1 Aa).f2, (rd_T24 l1 Aa).f3⟩ : S24) [.int .i64 ((rd_T24 l1 Aa).f0), .int .i64 ((rd_T24 l1 Aa).f1), .int .i64 ((rd_T24 l1 Aa).f2), .int .u32 ((rd_T24 l1 Aa).f3)] from (k24_mkM _ _ _ (⟨(rd_T24 l1 Aa).f0, (rd_T24 l1 Aa).f1, (rd_T24 l1 Aa).f2, (rd_T24 l1 Aa).f3⟩ : S24) )) (Reps.none _ _)))
     intro v219 w17 ho18 hb hg_ hnew_
     clear hg_ hnew_
     (first | rw [← Ny218.out] at ho18 | (simp only [Int.reduceToNat] at ho18; rw [← Ny218.out] at ho18))
     replace Ab := Am (Kd.V_elder' (pV Ab.out) (Kd.R_base ho18) hb)
     have Ac := Am (Kd.R_lower (Kd.R_new' (Kd.R_newM (M := fun k_ => (w.heap.size ≤ k_)) ho18 (below_size (pB HB.out)) (fun k_ h_ => h_)) (Kd.R_lt (pR Ak.out))) (below_size (pB HB.out)))
     replace Ak := Am (Kd.R_elder' (pR Ak.out) (Kd.R_base ho18) hb)
     replace HB := Am (below_step (pB HB.out) hb)
     clear hb ho18
     refine hK.out _ _ ⟨(cT HB.out Ae), (cT HB.out Af), (cT HB.out Ag), (cT HB.out Ah)⟩ (fun hHeld => ?_)
     clear hK K
     refine norm_ (a' := ?_) ?_ ?_
     rotate_left
     ·show Act.put _ (some 32) _ = _
      simp only [Act.put, List.setIfInBounds_toArray, List.set_cons_zero, List.set_cons_succ, i64_w, i32_w]
      rfl
     refine onei 2 27 11 255 HT_ (fun K hK => ?_)
     refine Kd.R_append_rows_step k24 (w0 := w) w.heap.size (by rfl) (.tmp 25) (.tmp 26) 36 24 (.agg #[(.int .i64 0), (.int .i64 0), (.int .i64 0), (.int .u32 0)]) 32 rfl Try.underlying36 info24 rfl (by decide) (by omega) v212 y211 Ai _ _ _ (fun k_ => (w.heap.size ≤ k_) ∧ some k_ ≠ (v219 : Value).ownBlock) (fun _ => False) rfl rfl ?aO ?aR (fun _ _ h => h) (fun _ h => h.elim) ?aF ?aB ?aS ?aL ?_
     (case aR => exact pC (Kd.V_reads' Ab.out).2.2)
     (case aB => exact (pB HB.out))
     (case aF => exact (fun k_ hk => ⟨(Nat.le_trans (below_size (pB HB.out)) hk), Kd.fresh' (Kd.R_lt (pR Ac.out)) k_ hk⟩))
     (case aO => exact (by (with_reducible repeat (first | apply Kd.R_alloc | apply Kd.R_drewN | apply Kd.R_drew)); exact Kd.R_mono Ak.out (fun _ hk => ⟨hk.1.1, hk.2⟩)))
     (case aS => exact (below_size (pB HB.out)))
     (case aL => have := LMc9.out; omega)
     intro v215 w19 ho hb hg hat
     rw [← Ny214.out] at ho
     replace Ab := Am (Kd.V_afterv (ok := (fun k_ => (P0_ k_ ∨ w.heap.size ≤ k_) ∧ some k_ ≠ (v219 : Value).ownBlock)) (by (with_reducible repeat (first | apply Kd.V_alloc | apply Kd.V_drewN | apply Kd.V_drew)); exact Kd.V_mono Ab.out (fun _ hk => ⟨⟨hk.1.1, hk.2⟩, hk.1.2⟩)) hg hat)
     replace Ac := Am (Kd.R_after (ok := (fun k_ => (w.heap.size ≤ k_))) (by (with_reducible repeat (first | apply Kd.R_alloc | apply Kd.R_drewN | apply Kd.R_drew)); exact Kd.R_mono Ac.out (fun _ hk => ⟨hk.1.1, hk.2⟩)) hg hat)
     replace HB := Am (hb)
     have Aj := Am (ho)
     clear Ak
     clear ho hb hg hat
     refine hK.out _ _ ⟨(cT HB.out Ae), (cT HB.out Af), (cT HB.out Ag), (cT HB.out Ah)⟩ (fun hHeld => ?_)
     clear hK K
     refine norm_ (a' := ?_) ?_ ?_
     rotate_left
     ·show Act.put _ (some 27) _ = _
      simp only [Act.put, List.setIfInBounds_toArray, List.set_cons_zero, List.set_cons_succ, i64_w, i32_w]
      rfl
     exact norm_ (by simp only [putAll, Act.put, List.setIfInBounds_toArray, List.set_cons_zero, List.set_cons_succ]) (hCont (v212, v215, v219) _ ⟨hHeld, (pR Aj.out), (pR Ac.out), (by (with_reducible repeat (first | apply Kd.V_alloc | apply Kd.V_drewN | apply Kd.V_drew)); exact Kd.V_mono Ab.out (fun _ hk => ⟨hk.1.1, ⟨hk.2, hk.1.2⟩⟩)), (pB HB.out)⟩)
    skip
    refine Kd.R_lit_step k24 _ 24 ?hg (N := 32) ?hd (xs := ([(⟨(rd_T24 l1 Aa).f0, (rd_T24 l1 Aa).f1, (rd_T24 l1 Aa).f2, (rd_T24 l1 Aa).f3⟩ : S24)] : List (S24))) (inner := [.int .i64 ((rd_T24 l1 Aa).f0), .int .i64 ((rd_T24 l1 Aa).f1), .int .i64 ((rd_T24 l1 Aa).f2), .int .u32 ((rd_T24 l1 Aa).f3)]) (ok := fun _ => True) (okp := fun _ => True) ?hr ?hp (fun _ hk => hk) trivial (Below.refl _ _) (Nat.le_refl _) (by simp) ?_; (case hd => rfl); (case hg => rfl); (case hr => first | (go_simp; done) | (go_simp; rfl)); (case hp => exact (Reps.c4 (show Kd.M k24 _ _ _ (⟨(rd_T24 l1 Aa).f0, (rd_T24 l1 Aa).f1, (rd_T24 l1 Aa).f2, (rd_T24 l1 Aa).f3⟩ : S24) [.int .i64 ((rd_T24 l1 Aa).f0), .int .i64 ((rd_T24 l1 Aa).f1), .int .i64 ((rd_T24 l1 Aa).f2), .int .u32 ((rd_T24 l1 Aa).f3)] from (k24_mkM _ _ _ (⟨(rd_T24 l1 Aa).f0, (rd_T24 l1 Aa).f1, (rd_T24 l1 Aa).f2, (rd_T24 l1 Aa).f3⟩ : S24) )) (Reps.none _ _)))
    intro v219 w15 ho16 hb hg_ hnew_
    clear hg_ hnew_
    (first | rw [← Ny218.out] at ho16 | (simp only [Int.reduceToNat] at ho16; rw [← Ny218.out] at ho16))
    replace Ab := Am (Kd.V_elder' (pV Ab.out) (Kd.R_base ho16) hb)
    have Ac := Am (Kd.R_lower (Kd.R_newM (M := fun k_ => (w.heap.size ≤ k_)) ho16 (below_size (pB HB.out)) (fun k_ h_ => h_)) (below_size (pB HB.out)))
    replace HB := Am (below_step (pB HB.out) hb)
    clear hb ho16
    refine hK.out _ _ ⟨(cT HB.out Ae), (cT HB.out Af), (cT HB.out Ag), (cT HB.out Ah)⟩ (fun hHeld => ?_)
    clear hK K
    refine norm_ (a' := ?_) ?_ ?_
    rotate_left
    ·show Act.put _ (some 32) _ = _
     simp only [Act.put, List.setIfInBounds_toArray, List.set_cons_zero, List.set_cons_succ, i64_w, i32_w]
     rfl
    refine onei 0 25 11 251 HT_ (fun K hK => ?_)
    refine Kd.R_lit_step k24 _ 24 ?hg (N := 25) ?hd (xs := ([] : List (S24))) (inner := []) (ok := fun _ => True) (okp := fun _ => True) ?hr ?hp (fun _ hk => hk) trivial (Below.refl _ _) (Nat.le_refl _) (by simp) ?_; (case hd => rfl); (case hg => rfl); (case hr => first | (go_simp; done) | (go_simp; rfl)); (case hp => exact (Reps.none _ _))
    intro v212 w17 ho18 hb hg_ hnew_
    clear hg_ hnew_
    (first | rw [← Ny211.out] at ho18 | (simp only [Int.reduceToNat] at ho18; rw [← Ny211.out] at ho18))
    replace Ab := Am (Kd.V_elder' (pV Ab.out) (Kd.R_base ho18) hb)
    have Ak := Am (Kd.R_lower (Kd.R_new' (Kd.R_newM (M := fun k_ => (w.heap.size ≤ k_)) ho18 (below_size (pB HB.out)) (fun k_ h_ => h_)) (Kd.R_lt (pR Ac.out))) (below_size (pB HB.out)))
    replace Ac := Am (Kd.R_elder' (pR Ac.out) (Kd.R_base ho18) hb)
    replace HB := Am (below_step (pB HB.out) hb)
    clear hb ho18
    refine hK.out _ _ ⟨(cT HB.out Ae), (cT HB.out Af), (cT HB.out Ag), (cT HB.out Ah)⟩ (fun hHeld => ?_)
    clear hK K
    refine norm_ (a' := ?_) ?_ ?_
    rotate_left
    ·show Act.put _ (some 25) _ = _
     simp only [Act.put, List.setIfInBounds_toArray, List.set_cons_zero, List.set_cons_succ, i64_w, i32_w]
     rfl
    refine onei 2 27 11 255 HT_ (fun K hK => ?_)
    refine Kd.R_append_rows_step k24 (w0 := w) w.heap.size (by rfl) (.tmp 25) (.tmp 26) 36 24 (.agg #[(.int .i64 0), (.int .i64 0), (.int .i64 0), (.int .u32 0)]) 32 rfl Try.underlying36 info24 rfl (by decide) (by omega) v212 y211 Ai _ _ _ (fun k_ => (w.heap.size ≤ k_) ∧ some k_ ≠ (v219 : Value).ownBlock) (fun _ => False) rfl rfl ?aO ?aR (fun _ _ h => h) (fun _ h => h.elim) ?aF ?aB ?aS ?aL ?_
    (case aR => exact pC (Kd.V_reads' Ab.out).2.2)
    (case aB => exact (pB HB.out))
    (case aF => exact (fun k_ hk => ⟨(Nat.le_trans (below_size (pB HB.out)) hk), Kd.fresh' (Kd.R_lt (pR Ac.out)) k_ hk⟩))
    (case aO => exact (by (with_reducible repeat (first | apply Kd.R_alloc | apply Kd.R_drewN | apply Kd.R_drew)); exact Kd.R_mono Ak.out (fun _ hk => ⟨hk.1.1, hk.2⟩)))
    (case aS => exact (below_size (pB HB.out)))
    (case aL => have := LMc9.out; omega)
    intro v215 w19 ho hb hg hat
    rw [← Ny214.out] at ho
    replace Ab := Am (Kd.V_afterv (ok := (fun k_ => (P0_ k_ ∨ w.heap.size ≤ k_) ∧ some k_ ≠ (v219 : Value).ownBlock)) (pV Ab.out) hg hat)
    replace Ac := Am (Kd.R_after (ok := (fun k_ => (w.heap.size ≤ k_))) (by (with_reducible repeat (first | apply Kd.R_alloc | apply Kd.R_drewN | apply Kd.R_drew)); exact Kd.R_mono Ac.out (fun _ hk => ⟨hk.1.1, hk.2⟩)) hg hat)
    replace HB := Am (hb)
    have Aj := Am (ho)
    clear Ak
    clear ho hb hg hat
    refine hK.out _ _ ⟨(cT HB.out Ae), (cT HB.out Af), (cT HB.out Ag), (cT HB.out Ah)⟩ (fun hHeld => ?_)
    clear hK K
    refine norm_ (a' := ?_) ?_ ?_
    rotate_left
    ·show Act.put _ (some 27) _ = _
     simp only [Act.put, List.setIfInBounds_toArray, List.set_cons_zero, List.set_cons_succ, i64_w, i32_w]
     rfl
    exact norm_ (by simp only [putAll, Act.put, List.setIfInBounds_toArray, List.set_cons_zero, List.set_cons_succ]) (hCont (v212, v215, v219) _ ⟨hHeld, (pR Aj.out), (pR Ac.out), (by (with_reducible repeat (first | apply Kd.V_alloc | apply Kd.V_drewN | apply Kd.V_drew)); exact Kd.V_mono Ab.out (fun _ hk => ⟨hk.1.1, ⟨hk.2, hk.1.2⟩⟩)), (pB HB.out)⟩)
   rintro ⟨v212, v215, v219⟩ w20 ⟨hS_, h0_, h1_, h2_, h3_⟩
   have Aj : Aside0 (Kd.R k24 24 w20 w.heap.size (fun k_ => (w.heap.size ≤ k_) ∧ some k_ ≠ (v219 : Value).ownBlock) v215 y214) := ⟨h0_⟩
   have Ac : Aside0 (Kd.R k24 24 w20 w.heap.size (fun k_ => (w.heap.size ≤ k_) ∧ some k_ ≠ (v215 : Value).ownBlock) v219 y218) := ⟨h1_⟩
   replace Ab : Aside0 (Kd.V k24 24 w20 w.heap.size (fun k_ => (P0_ k_ ∨ w.heap.size ≤ k_) ∧ some k_ ≠ (v215 : Value).ownBlock ∧ some k_ ≠ (v219 : Value).ownBlock) (.slice Az Ai.length A2) Ai) := ⟨h2_⟩
   replace HB : Aside0 (Below w.heap.size w w20) := ⟨h3_⟩
   clear h0_ h1_ h2_ h3_
   have hHeld : w20.cell? (Ad.add ((Aa).toNat * 4)) = some (.int .i64 ((rd_T24 l1 Aa).f0)) ∧ w20.cell? ⟨(Ad.add ((Aa).toNat * 4)).block, (Ad.add ((Aa).toNat * 4)).off + 1, none⟩ = some (.int .i64 ((rd_T24 l1 Aa).f1)) ∧ w20.cell? ⟨(Ad.add ((Aa).toNat * 4)).block, (Ad.add ((Aa).toNat * 4)).off + 2, none⟩ = some (.int .i64 ((rd_T24 l1 Aa).f2)) ∧ w20.cell? ⟨(Ad.add ((Aa).toNat * 4)).block, (Ad.add ((Aa).toNat * 4)).off + 3, none⟩ = some (.int .u32 ((rd_T24 l1 Aa).f3)) := hS_
   obtain ⟨A7, A8, A9⟩ := Kd.R_slice Ac.out
   (first | subst A9 | (injection A9 with f1_ f2_ f3_; have f4_ := f1_.symm; have f5_ := f3_.symm; clear f1_ f2_ f3_; subst f4_; subst f5_))
   refine norm_ (a' := ?_) ?_ ?_
   rotate_left
   ·simp only [putAll, Act.put, List.setIfInBounds_toArray, List.set_cons_zero, List.set_cons_succ]
    rfl
   refine onei 8 33 11 511 HT_ (fun K hK => ?_)
   refine Kd.R_append_rows_step k24 (w0 := w) w.heap.size (by rfl) (.tmp 27) (.tmp 32) 36 24 (.agg #[(.int .i64 0), (.int .i64 0), (.int .i64 0), (.int .u32 0)]) 32 rfl Try.underlying36 info24 rfl (by decide) (by omega) v215 y214 y218 _ _ _ (fun k_ => (w.heap.size ≤ k_) ∧ some k_ ≠ (.slice A7 y218.length A8 : Value).ownBlock) (fun _ => False) rfl rfl ?aO ?aR (fun _ _ h => h) (fun _ h => h.elim) ?aF ?aB ?aS ?aL ?_
   (case aR => exact pC (Kd.R_reads' Ac.out).2.2)
   (case aB => exact (pB HB.out))
   (case aF => exact (fun k_ hk => ⟨(Nat.le_trans (below_size (pB HB.out)) hk), Kd.fresh' (Kd.R_lt (pR Ac.out)) k_ hk⟩))
   (case aO => exact (pR Aj.out))
   (case aS => exact (below_size (pB HB.out)))
   (case aL => have := LMc10.out; omega)
   intro v222 w21 ho hb hg hat
   rw [← Ny221.out] at ho
   replace Ab := Am (Kd.V_afterv (ok := (fun k_ => (P0_ k_ ∨ w.heap.size ≤ k_) ∧ some k_ ≠ (.slice A7 y218.length A8 : Value).ownBlock)) (by (with_reducible repeat (first | apply Kd.V_alloc | apply Kd.V_drewN | apply Kd.V_drew)); exact Kd.V_mono Ab.out (fun _ hk => ⟨⟨hk.1, hk.2.2⟩, hk.2.1⟩)) hg hat)
   replace Ac := Am (Kd.R_after (ok := (fun k_ => (w.heap.size ≤ k_))) (pR Ac.out) hg hat)
   replace HB := Am (hb)
   have As := Am (ho)
   clear Aj
   clear ho hb hg hat
   obtain ⟨Bd, Be, Ba⟩ := Kd.R_slice As.out
   (first | subst Ba | (injection Ba with f1_ f2_ f3_; have f4_ := f1_.symm; have f5_ := f3_.symm; clear f1_ f2_ f3_; subst f4_; subst f5_))
   refine hK.out _ _ ⟨(cT HB.out Ae), (cT HB.out Af), (cT HB.out Ag), (cT HB.out Ah)⟩ (fun hHeld => ?_)
   clear hK K
   refine norm_ (a' := ?_) ?_ ?_
   rotate_left
   ·show Act.put _ (some 33) _ = _
    simp only [Act.put, List.setIfInBounds_toArray, List.set_cons_zero, List.set_cons_succ, i64_w, i32_w]
    rfl
   refine onei 9 34 11 1023 HT_ (fun K hK => ?_)
   refine goes_ Try.func35 (by kernel_rfl) rfl #[.slice Bd y221.length Be] (by rfl) rfl rfl pL ?_
   with_reducible refine (garnerref04_Order.calls _ _ y221 t224 _ ?At ?Au A11.out).mono ?_
   (case At => exact pC (Kd.R_reads' As.out).2.2)
   (case Au => exact (Kd.R_reads' As.out).2.1)
   rintro e w24 ⟨v225, rfl, ho0, hb⟩
   refine ⟨_, rfl, ?_⟩
   replace Ab := Am (Kd.V_elder' (pV Ab.out) (Kd.R_base ho0) hb)
   have Bc := Am (Kd.R_lower (Kd.R_new' (Kd.R_new' (Kd.R_newM (M := fun k_ => (w.heap.size ≤ k_)) ho0 (below_size (pB HB.out)) (fun k_ h_ => h_)) (Kd.R_lt (pR Ac.out))) (Kd.R_lt (pR As.out))) (below_size (pB HB.out)))
   replace Ac := Am (Kd.R_elder' (pR Ac.out) (Kd.R_base ho0) hb)
   replace As := Am (Kd.R_elder' (pR As.out) (Kd.R_base ho0) hb)
   replace HB := Am (below_step (pB HB.out) hb)
   (try clear hb)
   (try clear hb2)
   (try clear hk)
   (try clear hi)
   (try clear ho0)
   refine hK.out _ _ ⟨(cT HB.out Ae), (cT HB.out Af), (cT HB.out Ag), (cT HB.out Ah)⟩ (fun hHeld => ?_)
   clear hK K
   refine norm_ (a' := ?_) ?_ ?_
   rotate_left
   ·show Act.put _ (some 34) _ = _
    simp only [Act.put, List.setIfInBounds_toArray, List.set_cons_zero, List.set_cons_succ, i64_w, i32_w]
    rfl
   refine pui 10 0 11 2047 HT_ ?_
   refine done_ (done_of HT_.out (by kernel_rfl)) ?_
   try go_wp2
   go_roundg k1
   case measure => have := HK1.out; omega
   case rel => exact ⟨(t224), (wrap64 (Aa + 1)), (by first | rfl | (simp; done) | (simp [*]; done)), H', ⟨by have := HK1.out; omega⟩, ⟨Kd.V_mono (Kd.R_V (by (with_reducible repeat (first | apply Kd.R_alloc | apply Kd.R_drewN | apply Kd.R_drew)); exact Kd.R_mono Bc.out (fun _ hk => hk.1.1.1))) (fun k_ hk => by first | exact ⟨(.inr (hk.1)), hk.2⟩ | exact (.inr (hk)))⟩, ⟨pB HB.out⟩⟩
def garnerref04_Same.l0 : Nat → List (S24) → List (S24) → Int → Option (Bool)
 | 0, _, _, _ => none
 | k + 1, x0, x1, x5 => if x5 < (x0.length : Int) then (if 0 ≤ x5 then (if x5 < (x1.length : Int) then (if (!(((rd_T24 x0 x5).f0) == ((rd_T24 x1 x5).f0)) || (!(((rd_T24 x0 x5).f1) == ((rd_T24 x1 x5).f1)) || (!(((rd_T24 x0 x5).f2) == ((rd_T24 x1 x5).f2)) || (!(((rd_T24 x0 x5).f3) == ((rd_T24 x1 x5).f3)))))) = true then (some false) else (garnerref04_Same.l0 k x0 x1 (wrap64 (x5 + 1)))) else (none)) else (none)) else (some true)
def garnerref04_Same.f (k : Nat) (l0 : List (S24)) (l1 : List (S24)) : Option (Bool) := if (l0.length : Int) = (l1.length : Int) then (garnerref04_Same.l0 k l0 l1 0) else (some false)
theorem garnerref04_Same.mono_l : ∀ k, (∀ y0 y1 y2, LeO (garnerref04_Same.l0 k y0 y1 y2) (garnerref04_Same.l0 (k + 1) y0 y1 y2))
 | 0 => fun _ _ _ r h => by simp [garnerref04_Same.l0] at h
 | k + 1 => by
  have ih0 := garnerref04_Same.mono_l k
  ·intro y0 y1 y2
   unfold garnerref04_Same.l0
   repeat' first
   | (with_reducible exact ih0 _ _ _)
   | (with_reducible exact LeO.refl _)
   | (with_reducible exact LeO.none _)
   | (with_reducible refine LeO.ite ?_ ?_)
   | (with_reducible refine LeO.bind ?_ (fun _ => ?_))
   | exact ih0 _ _ _
   | exact LeO.none _
   | refine LeO.ite ?_ ?_
   | refine LeO.bind ?_ (fun _ => ?_)
theorem garnerref04_Same.mono : ∀ a0 a1 k, LeO (garnerref04_Same.f k a0 a1) (garnerref04_Same.f (k + 1) a0 a1) := by
 intro a0 a1 k
 have ih0 := garnerref04_Same.mono_l k
 unfold garnerref04_Same.f
 repeat' first
   | (with_reducible exact ih0 _ _ _)
   | (with_reducible exact LeO.refl _)
   | (with_reducible exact LeO.none _)
   | (with_reducible refine LeO.ite ?_ ?_)
   | (with_reducible refine LeO.bind ?_ (fun _ => ?_))
   | exact ih0 _ _ _
   | exact LeO.none _
   | refine LeO.ite ?_ ?_
   | refine LeO.bind ?_ (fun _ => ?_)
set_option maxHeartbeats 8000000 in
set_option maxRecDepth 100000 in
theorem garnerref04_Same.calls (k : Nat) (A0 : Option Addr) (c0 : Nat) (l0 : List (S24)) (A1 : Option Addr) (c1 : Nat) (l1 : List (S24)) (r : Bool) (w : World) (hr0 : Kd.C k24 w A0 l0.length l0) (hc0 : l0.length ≤ c0) (hr1 : Kd.C k24 w A1 l1.length l1) (hc1 : l1.length ≤ c1) (h : garnerref04_Same.f k l0 l1 = some r) :
  Calls Try.prog 19 #[.slice A0 l0.length c0, .slice A1 l1.length c1] w fun e w' => e = .returned (.bool r) ∧ Drawn0 w w' := by
 have hu24 := Try.underlying24
 have HR0 := Am hr0
 have HC0 := Am hc0
 clear hr0 hc0
 have HR1 := Am hr1
 have HC1 := Am hc1
 clear hr1 hc1
 have H : (if (l0.length : Int) = (l1.length : Int) then (garnerref04_Same.l0 k l0 l1 0) else (some false)) = some r := h
 clear h
 by_cases c3 : (l0.length : Int) = (l1.length : Int)
 rotate_left
 ·rw [if_neg c3] at H
  have c3b0 : ((l0.length : Int) == (l1.length : Int)) = false := beq_eq_false_iff_ne.mpr c3
  have c3b1 : ((l0.length : Int) != (l1.length : Int)) = true := bne_iff_ne.mpr c3
  have c3b2 : (l0.length == l1.length) = false := by first | simpa using c3 | (simp at c3 ⊢; omega)
  obtain rfl := Option.some.inj H
  go_enter Try.func19, Try.ntmps19
  go_wp2
  repeat (go_quiet (fail); try go_wp2)
  go_ret
  exact ⟨by first | rfl | (simp; done) | (simp [*]; done), by repeat (first | exact Drawn0.refl _ | apply Drawn0.step)⟩
 rw [if_pos c3] at H
 have c3b0 : ((l0.length : Int) == (l1.length : Int)) = true := beq_iff_eq.mpr c3
 have c3b1 : ((l0.length : Int) != (l1.length : Int)) = false := bne_eq_false_iff_eq.mpr c3
 have c3b2 : (l0.length == l1.length) = true := by first | simpa using c3 | (simp at c3 ⊢; omega)
 clear c3
 have H' := Am H
 clear H
 go_enter Try.func19, Try.ntmps19
 go_wp2
 repeat (go_quiet (fail); try go_wp2)
 go_loopg [5] k (fun kq v5 w' => ∃ (Aa : Int), v5 = .int .i64 Aa ∧ Aside0 (garnerref04_Same.l0 kq l0 l1 Aa = some r) ∧ Aside0 (kq ≤ k) ∧ Drawn0 w w')
 case atStart => exact ⟨(0), (by first | rfl | (simp; done) | (simp [*]; done)), H', ⟨Nat.le_refl _⟩, by repeat (first | exact Drawn0.refl _ | apply Drawn0.step)⟩
 case round =>
  clear H'
  try clear c1
  try clear p2
  try clear c3
  try clear c3b0
  try clear c3b1
  try clear c3b2
  obtain ⟨Aa, rfl, HA, HK1, ⟨m1, rfl⟩⟩ := hrel
  cases gk with
  | zero => exact absurd HA.out (by simp [garnerref04_Same.l0])
  | succ k1 =>
   have H := HA.out
   clear HA
   simp only [garnerref04_Same.l0] at H
   by_cases c4 : Aa < (l0.length : Int)
   rotate_left
   ·rw [if_neg c4] at H
    have c4b0 : decide (Aa < (l0.length : Int)) = false := decide_eq_false c4
    clear c4
    obtain rfl := Option.some.inj H
    go_wp2
    repeat (go_quiet (fail); try go_wp2)
    go_ret
    exact ⟨by first | rfl | (simp; done) | (simp [*]; done), by repeat (first | exact Drawn0.refl _ | apply Drawn0.step)⟩
   rw [if_pos c4] at H
   have c4b0 : decide (Aa < (l0.length : Int)) = true := decide_eq_true c4
   clear c4
   by_cases c5 : 0 ≤ Aa
   rotate_left
   ·rw [if_neg c5] at H
    exact absurd H (by simp)
   rw [if_pos c5] at H
   have c5b0 : decide (0 ≤ Aa) = true := decide_eq_true c5
   clear c5
   by_cases c6 : Aa < (l1.length : Int)
   rotate_left
   ·rw [if_neg c6] at H
    exact absurd H (by simp)
   rw [if_pos c6] at H
   have c6b0 : decide (Aa < (l1.length : Int)) = true := decide_eq_true c6
   clear c6
   by_cases c7 : (!(((rd_T24 l0 Aa).f0) == ((rd_T24 l1 Aa).f0)) || (!(((rd_T24 l0 Aa).f1) == ((rd_T24 l1 Aa).f1)) || (!(((rd_T24 l0 Aa).f2) == ((rd_T24 l1 Aa).f2)) || (!(((rd_T24 l0 Aa).f3) == ((rd_T24 l1 Aa).f3)))))) = true
   ·rw [if_pos c7] at H
    have c7b0 : (!(((rd_T24 l0 Aa).f0) == ((rd_T24 l1 Aa).f0)) || (!(((rd_T24 l0 Aa).f1) == ((rd_T24 l1 Aa).f1)) || (!(((rd_T24 l0 Aa).f2) == ((rd_T24 l1 Aa).f2)) || (!(((rd_T24 l0 Aa).f3) == ((rd_T24 l1 Aa).f3)))))) = true := c7
    clear c7
    obtain rfl := Option.some.inj H
    have p227 : 0 ≤ (Aa : Int) := of_decide_eq_true pS
    have q227 : Aa < (l0.length : Int) := of_decide_eq_true pS
    obtain ⟨Aj, e227, Ab, Ac, Ad, Ae⟩ := at_T24 HR0.out Aa p227 q227
    cases e227
    replace p227 := eq_true p227
    replace q227 := eq_true q227
    have p228 : 0 ≤ (Aa : Int) := of_decide_eq_true pS
    have q228 : Aa < (l1.length : Int) := of_decide_eq_true pS
    obtain ⟨Ak, e228, Af, Ag, Ah, Ai⟩ := at_T24 HR1.out Aa p228 q228
    cases e228
    replace p228 := eq_true p228
    replace q228 := eq_true q228
    go_wp2
    repeat (go_quiet (fail); try go_wp2)
    go_ret
    exact ⟨by first | rfl | (simp; done) | (simp [*]; done), by repeat (first | exact Drawn0.refl _ | apply Drawn0.step)⟩
   rw [if_neg c7] at H
   have c7b0 : (!(((rd_T24 l0 Aa).f0) == ((rd_T24 l1 Aa).f0)) || (!(((rd_T24 l0 Aa).f1) == ((rd_T24 l1 Aa).f1)) || (!(((rd_T24 l0 Aa).f2) == ((rd_T24 l1 Aa).f2)) || (!(((rd_T24 l0 Aa).f3) == ((rd_T24 l1 Aa).f3)))))) = false := by simpa using c7
   clear c7
   have H' := Am H
   clear H
   have p227 : 0 ≤ (Aa : Int) := of_decide_eq_true pS
   have q227 : Aa < (l0.length : Int) := of_decide_eq_true pS
   obtain ⟨Aj, e227, Ab, Ac, Ad, Ae⟩ := at_T24 HR0.out Aa p227 q227
   cases e227
   replace p227 := eq_true p227
   replace q227 := eq_true q227
   have p228 : 0 ≤ (Aa : Int) := of_decide_eq_true pS
   have q228 : Aa < (l1.length : Int) := of_decide_eq_true pS
   obtain ⟨Ak, e228, Af, Ag, Ah, Ai⟩ := at_T24 HR1.out Aa p228 q228
   cases e228
   replace p228 := eq_true p228
   replace q228 := eq_true q228
   go_wp2
   repeat (go_quiet (fail); try go_wp2)
   go_roundg k1
   case measure => have := HK1.out; omega
   case rel => exact ⟨(wrap64 (Aa + 1)), (by first | rfl | (simp; done) | (simp [*]; done)), H', ⟨by have := HK1.out; omega⟩, by repeat (first | exact Drawn0.refl _ | apply Drawn0.step)⟩
def garnerref28_Of.l0 : Nat → List (S24) → Int → List (S24) → Int → Option ((List (S24)))
 | 0, _, _, _, _ => none
 | k + 1, x0, x1, x5, x6 => if x6 < (x0.length : Int) then (if 0 ≤ x6 then (if ((rd_T24 x0 x6).f0) = x1 then (if x5.length < 4398046511104 then (garnerref28_Of.l0 k x0 x1 (x5 ++ [(⟨(rd_T24 x0 x6).f0, (rd_T24 x0 x6).f1, (rd_T24 x0 x6).f2, (rd_T24 x0 x6).f3⟩ : S24)]) (wrap64 (x6 + 1))) else (none)) else (garnerref28_Of.l0 k x0 x1 x5 (wrap64 (x6 + 1)))) else (none)) else (some x5)
def garnerref28_Of.f (k : Nat) (l0 : List (S24)) (a1 : Int) : Option ((List (S24))) := garnerref28_Of.l0 k l0 a1 (([] : List (S24))) 0
theorem garnerref28_Of.mono_l : ∀ k, (∀ y0 y1 y2 y3, LeO (garnerref28_Of.l0 k y0 y1 y2 y3) (garnerref28_Of.l0 (k + 1) y0 y1 y2 y3))
 | 0 => fun _ _ _ _ r h => by simp [garnerref28_Of.l0] at h
 | k + 1 => by
  have ih0 := garnerref28_Of.mono_l k
  ·intro y0 y1 y2 y3
   unfold garnerref28_Of.l0
   repeat' first
   | (with_reducible exact ih0 _ _ _ _)
   | (with_reducible exact LeO.refl _)
   | (with_reducible exact LeO.none _)
   | (with_reducible refine LeO.ite ?_ ?_)
   | (with_reducible refine LeO.bind ?_ (fun _ => ?_))
   | exact ih0 _ _ _ _
   | exact LeO.none _
   | refine LeO.ite ?_ ?_
   | refine LeO.bind ?_ (fun _ => ?_)
theorem garnerref28_Of.mono : ∀ a0 a1 k, LeO (garnerref28_Of.f k a0 a1) (garnerref28_Of.f (k + 1) a0 a1) := by
 intro a0 a1 k
 have ih0 := garnerref28_Of.mono_l k
 unfold garnerref28_Of.f
 repeat' first
   | (with_reducible exact ih0 _ _ _ _)
   | (with_reducible exact LeO.refl _)
   | (with_reducible exact LeO.none _)
   | (with_reducible refine LeO.ite ?_ ?_)
   | (with_reducible refine LeO.bind ?_ (fun _ => ?_))
   | exact ih0 _ _ _ _
   | exact LeO.none _
   | refine LeO.ite ?_ ?_
   | refine LeO.bind ?_ (fun _ => ?_)
set_option maxHeartbeats 8000000 in
set_option maxRecDepth 100000 in
theorem garnerref28_Of.calls (k : Nat) (A0 : Option Addr) (c0 : Nat) (l0 : List (S24)) (a1 : Int) (r : List (S24)) (w : World) (hr0 : Kd.C k24 w A0 l0.length l0) (hc0 : l0.length ≤ c0) (h : garnerref28_Of.f k l0 a1 = some r) :
  Calls Try.prog 36 #[.slice A0 l0.length c0, .int .i64 a1] w fun e w' => ∃ v0_ : Value, e = .returned (v0_) ∧ Kd.R k24 24 w' w.heap.size (fun _ => True) v0_ r ∧ Below w.heap.size w w' := by
 have hu24 := Try.underlying24
 have HR0 := Am hr0
 have HC0 := Am hc0
 clear hr0 hc0
 have HB := Am (Below.refl w.heap.size w)
 have H : (garnerref28_Of.l0 k l0 a1 (([] : List (S24))) 0) = some r := h
 clear h
 obtain ⟨y229, hy229⟩ : ∃ y_ : List (S24), y_ = (([] : List (S24))) := ⟨_, rfl⟩
 replace H : (garnerref28_Of.l0 k l0 a1 y229 0) = some r := by first | (rw [hy229]; with_reducible exact H) | (have H2_ := (Option.bind_some _ _).symm.trans H; rw [hy229]; with_reducible exact H2_) | (have H2_ := (Option.bind_some _ _).symm.trans H; with_reducible exact H2_) | with_reducible exact H | (rw [hy229]; exact H) | exact H
 have Ny229 := Am hy229
 clear hy229
 have H' := Am H
 clear H
 go_enter Try.func36, Try.ntmps36
 go_wp2_with (first | ((with_reducible refine gate_dst (N := 7) rfl ?_); refine Kd.R_lit k24 _ 24 ?hg (N := 7) ?hd (xs := ([] : List (S24))) (inner := []) (ok := fun _ => True) (okp := fun _ => True) ?hr ?hp (fun _ hk => hk) trivial (Below.refl _ _) (Nat.le_refl _) (by simp) ?_; (case hd => rfl); (case hg => rfl); (case hr => first | (go_simp; done) | (go_simp; rfl)); (case hp => exact (Reps.none _ _)); intro v230 w3 ho4 hb hg_ hnew_; clear hg_ hnew_; (first | rw [← Ny229.out] at ho4 | (simp only [Int.reduceToNat] at ho4; rw [← Ny229.out] at ho4)); have Ah := Am (Kd.R_lower ho4 (below_size (pB HB.out))); replace HB := Am (below_step (pB HB.out) hb); clear hb ho4))
 go_loopg [5, 6] k (fun kq v5 v6 w' => ∃ (Ab : List (S24)) (Aa : Int), v6 = .int .i64 Aa ∧ Aside0 (garnerref28_Of.l0 kq l0 a1 Ab Aa = some r) ∧ Aside0 (kq ≤ k) ∧ Aside0 (Kd.R k24 24 w' w.heap.size (fun _ => True) v5 Ab) ∧ Aside0 (Below w.heap.size w w'))
 case atStart => exact ⟨(y229), (0), (by first | rfl | (simp; done) | (simp [*]; done)), H', ⟨Nat.le_refl _⟩, ⟨by (with_reducible repeat (first | apply Kd.R_alloc | apply Kd.R_drewN | apply Kd.R_drew)); exact Ah.out⟩, ⟨pB HB.out⟩⟩
 case round =>
  clear H'
  try clear p2
  try clear c3
  obtain ⟨Ab, Aa, rfl, HA, HK1, Ac, HB⟩ := hrel
  cases gk with
  | zero => exact absurd HA.out (by simp [garnerref28_Of.l0])
  | succ k1 =>
   have H := HA.out
   clear HA
   simp only [garnerref28_Of.l0] at H
   by_cases c5 : Aa < (l0.length : Int)
   rotate_left
   ·rw [if_neg c5] at H
    have c5b0 : decide (Aa < (l0.length : Int)) = false := decide_eq_false c5
    clear c5
    obtain rfl := Option.some.inj H
    go_wp2
    go_ret
    exact ⟨_, pX, by (with_reducible repeat (first | apply Kd.R_alloc | apply Kd.R_drewN | apply Kd.R_drew)); exact Ac.out, pB HB.out⟩
   rw [if_pos c5] at H
   have c5b0 : decide (Aa < (l0.length : Int)) = true := decide_eq_true c5
   clear c5
   by_cases c6 : 0 ≤ Aa
   rotate_left
   ·rw [if_neg c6] at H
    exact absurd H (by simp)
   rw [if_pos c6] at H
   have c6b0 : decide (0 ≤ Aa) = true := decide_eq_true c6
   clear c6
   by_cases c7 : ((rd_T24 l0 Aa).f0) = a1
   rotate_left
   ·rw [if_neg c7] at H
    have c7b0 : (((rd_T24 l0 Aa).f0) == a1) = false := beq_eq_false_iff_ne.mpr c7
    have c7b1 : (((rd_T24 l0 Aa).f0) != a1) = true := bne_iff_ne.mpr c7
    have H' := Am H
    clear H
    have p232 : 0 ≤ (Aa : Int) := of_decide_eq_true pS
    have q232 : Aa < (l0.length : Int) := of_decide_eq_true pS
    obtain ⟨Ai, e232, Ad, Ae, Af, Ag⟩ := at_T24u HR0.out Aa p232 q232 HB.out
    cases e232
    replace p232 := eq_true p232
    replace q232 := eq_true q232
    go_wp2
    go_roundg k1
    case measure => have := HK1.out; omega
    case rel => exact ⟨(Ab), (wrap64 (Aa + 1)), (by first | rfl | (simp; done) | (simp [*]; done)), H', ⟨by have := HK1.out; omega⟩, ⟨by (with_reducible repeat (first | apply Kd.R_alloc | apply Kd.R_drewN | apply Kd.R_drew)); exact Ac.out⟩, ⟨pB HB.out⟩⟩
   rw [if_pos c7] at H
   have c7b0 : (((rd_T24 l0 Aa).f0) == a1) = true := beq_iff_eq.mpr c7
   have c7b1 : (((rd_T24 l0 Aa).f0) != a1) = false := bne_eq_false_iff_eq.mpr c7
   clear c7
   by_cases c8 : Ab.length < 4398046511104
   rotate_left
   ·rw [if_neg c8] at H
    exact absurd H (by simp)
   rw [if_pos c8] at H
   have LMc8 := Am c8
   clear c8
   obtain ⟨y234, hy234⟩ : ∃ y_ : List (S24), y_ = (Ab ++ [(⟨(rd_T24 l0 Aa).f0, (rd_T24 l0 Aa).f1, (rd_T24 l0 Aa).f2, (rd_T24 l0 Aa).f3⟩ : S24)]) := ⟨_, rfl⟩
   replace H : (garnerref28_Of.l0 k1 l0 a1 y234 (wrap64 (Aa + 1))) = some r := by first | (rw [hy234]; with_reducible exact H) | (have H2_ := (Option.bind_some _ _).symm.trans H; rw [hy234]; with_reducible exact H2_) | (have H2_ := (Option.bind_some _ _).symm.trans H; with_reducible exact H2_) | with_reducible exact H | (rw [hy234]; exact H) | exact H
   have Ny234 := Am hy234
   clear hy234
   have H' := Am H
   clear H
   have p232 : 0 ≤ (Aa : Int) := of_decide_eq_true pS
   have q232 : Aa < (l0.length : Int) := of_decide_eq_true pS
   obtain ⟨Ai, e232, Ad, Ae, Af, Ag⟩ := at_T24u HR0.out Aa p232 q232 HB.out
   cases e232
   replace p232 := eq_true p232
   replace q232 := eq_true q232
   go_wp2_with (first | ((with_reducible refine gate_builtin (b := .append) (xs := #[.tmp 21, .tmp 26]) rfl ?_); at_builtin; refine Kd.R_append k24 (w0 := w) w.heap.size rfl (.tmp 21) (.tmp 26) 36 24 (.agg #[(.int .i64 0), (.int .i64 0), (.int .i64 0), (.int .u32 0)]) 32 rfl Try.underlying36 info24 rfl (by decide) (by omega) u5 Ab (⟨(rd_T24 l0 Aa).f0, (rd_T24 l0 Aa).f1, (rd_T24 l0 Aa).f2, (rd_T24 l0 Aa).f3⟩ : S24) [.int .i64 ((rd_T24 l0 Aa).f0), .int .i64 ((rd_T24 l0 Aa).f1), .int .i64 ((rd_T24 l0 Aa).f2), .int .u32 ((rd_T24 l0 Aa).f3)] (fun _ => True) (fun _ => False) rfl rfl ?aP (fun _ hk => hk.elim) ?aF ?aO ?aB ?aS ?aL ?_; (case aP => exact k24_mkM _ _ _ (⟨(rd_T24 l0 Aa).f0, (rd_T24 l0 Aa).f1, (rd_T24 l0 Aa).f2, (rd_T24 l0 Aa).f3⟩ : S24)); (case aB => exact (pB HB.out)); (case aF => exact (fun _ _ => trivial)); (case aO => exact (pR Ac.out)); (case aS => exact (below_size (pB HB.out))); (case aL => have := LMc8.out; omega); intro v235 w9 ho hb hg hat; rw [← Ny234.out] at ho; replace HB := Am (hb); have Aj := Am (ho); clear Ac ho hb hg hat))
   go_roundg k1
   case measure => have := HK1.out; omega
   case rel => exact ⟨(y234), (wrap64 (Aa + 1)), (by first | rfl | (simp; done) | (simp [*]; done)), H', ⟨by have := HK1.out; omega⟩, ⟨by (with_reducible repeat (first | apply Kd.R_alloc | apply Kd.R_drewN | apply Kd.R_drew)); exact Aj.out⟩, ⟨pB HB.out⟩⟩
end
end Go.Proofs.Ytpefjfibhjnijaa.PLivePuts
