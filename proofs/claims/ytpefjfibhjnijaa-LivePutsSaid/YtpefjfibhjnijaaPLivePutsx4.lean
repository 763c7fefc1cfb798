/- What the law reaches, as plain Lean functions, and that the machine's calls answer just that. -/
import Derived.Test.YtpefjfibhjnijaaPLivePutsx0
namespace Go.Proofs.Ytpefjfibhjnijaa.PLivePuts
open Go.RowKit Go.Proofs.YtpefjfibhjnijaaW.PrintWords Go.Proofs.YtpefjfibhjnijaaW.PrintLast Go.Proofs.YtpefjfibhjnijaaW.PrintMore
set_option linter.unusedVariables false
set_option linter.unusedSimpArgs false
section
attribute [local go_sem] max2_int min2_int max_two min_two max_three min_three max_four min_four
attribute [local go_sem] wrap64_l1 wrap64_l2 wrap64_l3 wrap64_l4 wrap64_l5
theorem eqA24 (d : Nat) (w : World) (x0 y0 : Int) (x1 y1 : Int) (x2 y2 : Int) (x3 y3 : Int) :
  (Op.equalIn (d + 2) 24 (.agg #[.int .i64 x0, .int .i64 x1, .int .i64 x2, .int .u32 x3]) (.agg #[.int .i64 y0, .int .i64 y1, .int .i64 y2, .int .u32 y3])).run Try.prog w = .ok (x0 == y0 && (x1 == y1 && (x2 == y2 && (x3 == y3)))) w := by
 refine eqA_of Try.underlying24 (by kernel_rfl) ?_
 refine eqf_cons (by rfl) (by go_simp; rfl) (by go_simp; rfl) (by go_simp) ?_
 refine eqf_cons (by rfl) (by go_simp; rfl) (by go_simp; rfl) (by go_simp) ?_
 refine eqf_cons (by rfl) (by go_simp; rfl) (by go_simp; rfl) (by go_simp) ?_
 exact eqf_last (by rfl) (by go_simp; rfl) (by go_simp; rfl) (by go_simp)
end
section
attribute [local go_sem] max2_int min2_int max_two min_two max_three min_three max_four min_four
attribute [local go_sem] wrap64_l1 wrap64_l2 wrap64_l3 wrap64_l4 wrap64_l5
theorem eqA79 (d : Nat) (w : World) (x0 y0 : Int) (x1 y1 : Int) :
  (Op.equalIn (d + 2) 79 (.agg #[.int .i64 x0, .int .i64 x1]) (.agg #[.int .i64 y0, .int .i64 y1])).run Try.prog w = .ok (x0 == y0 && (x1 == y1)) w := by
 refine eqA_of Try.underlying79 (by kernel_rfl) ?_
 refine eqf_cons (by rfl) (by go_simp; rfl) (by go_simp; rfl) (by go_simp) ?_
 exact eqf_last (by rfl) (by go_simp; rfl) (by go_simp; rfl) (by go_simp)
end
section
attribute [local go_sem] max2_int min2_int max_two min_two max_three min_three max_four min_four
attribute [local go_sem] wrap64_l1 wrap64_l2 wrap64_l3 wrap64_l4 wrap64_l5
def point_Check.f (a0_0 : Int) (a0_1 : Int) (a0_2 : Int) (a0_3 : Int) : Option (Int) := if a0_0 < 1 then (some 1) else (if a0_0 > 2147483647 then (some 1) else (if a0_1 < 0 then (some 1) else (if a0_1 > 2147483647 then (some 1) else (if a0_2 < 0 then (some 1) else (if a0_2 > 4096 then (some 1) else (some 0))))))
set_option maxHeartbeats 8000000 in
set_option maxRecDepth 100000 in
theorem point_Check.calls (a0_0 : Int) (a0_1 : Int) (a0_2 : Int) (a0_3 : Int) (r : Int) (w : World) (h : point_Check.f a0_0 a0_1 a0_2 a0_3 = some r) :
  Calls Try.prog 45 #[.agg #[.int .i64 a0_0, .int .i64 a0_1, .int .i64 a0_2, .int .u32 a0_3]] w fun e w' => e = .returned (.int .i64 r) ∧ Below w.heap.size w w' := by
 have hu24 := Try.underlying24
 have HB := Am (Below.refl w.heap.size w)
 have H : (if a0_0 < 1 then (some 1) else (if a0_0 > 2147483647 then (some 1) else (if a0_1 < 0 then (some 1) else (if a0_1 > 2147483647 then (some 1) else (if a0_2 < 0 then (some 1) else (if a0_2 > 4096 then (some 1) else (some 0))))))) = some r := h
 clear h
 by_cases c2 : a0_0 < 1
 ·rw [if_pos c2] at H
  have c2b0 : decide (a0_0 < 1) = true := decide_eq_true c2
  clear c2
  obtain rfl := Option.some.inj H
  go_enter Try.func45, Try.ntmps45
  go_wp2_with (first | ((with_reducible refine gate_dst (N := 1) rfl ?_); refine box_event ?hg (N := 1) ?hd (cs := #[.int .i64 a0_0, .int .i64 a0_1, .int .i64 a0_2, .int .u32 a0_3]) (t := 24) ?hr ?_; (case hd => rfl); (case hg => rfl); (case hr => first | (go_simp; done) | (go_simp; rfl)); intro Ab hg w3 hbox hb; have Aa := Am (hbox); have Ac := Am ((by rw [hg]; exact (below_size (pB HB.out)) : w.heap.size ≤ Ab)); replace HB := Am (below_step (pB HB.out) hb); have Ad := Ac; clear hb hbox hg; obtain ⟨_, _, _, _⟩ := bc4 Aa.out; obtain ⟨_, _, _, _⟩ := bf4 Aa.out))
  go_ret
  exact ⟨pX, pE HB.out Ad.out⟩
 rw [if_neg c2] at H
 have c2b0 : decide (a0_0 < 1) = false := decide_eq_false c2
 clear c2
 by_cases c5 : a0_0 > 2147483647
 ·rw [if_pos c5] at H
  have c5b0 : decide (2147483647 < a0_0) = true := decide_eq_true c5
  clear c5
  obtain rfl := Option.some.inj H
  go_enter Try.func45, Try.ntmps45
  go_wp2_with (first | ((with_reducible refine gate_dst (N := 1) rfl ?_); refine box_event ?hg (N := 1) ?hd (cs := #[.int .i64 a0_0, .int .i64 a0_1, .int .i64 a0_2, .int .u32 a0_3]) (t := 24) ?hr ?_; (case hd => rfl); (case hg => rfl); (case hr => first | (go_simp; done) | (go_simp; rfl)); intro Ab hg w6 hbox hb; have Aa := Am (hbox); have Ac := Am ((by rw [hg]; exact (below_size (pB HB.out)) : w.heap.size ≤ Ab)); replace HB := Am (below_step (pB HB.out) hb); have Ad := Ac; clear hb hbox hg; obtain ⟨_, _, _, _⟩ := bc4 Aa.out; obtain ⟨_, _, _, _⟩ := bf4 Aa.out))
  go_ret
  exact ⟨pX, pE HB.out Ad.out⟩
 rw [if_neg c5] at H
 have c5b0 : decide (2147483647 < a0_0) = false := decide_eq_false c5
 clear c5
 by_cases c8 : a0_1 < 0
 ·rw [if_pos c8] at H
  have c8b0 : decide (a0_1 < 0) = true := decide_eq_true c8
  clear c8
  obtain rfl := Option.some.inj H
  go_enter Try.func45, Try.ntmps45
  go_wp2_with (first | ((with_reducible refine gate_dst (N := 1) rfl ?_); refine box_event ?hg (N := 1) ?hd (cs := #[.int .i64 a0_0, .int .i64 a0_1, .int .i64 a0_2, .int .u32 a0_3]) (t := 24) ?hr ?_; (case hd => rfl); (case hg => rfl); (case hr => first | (go_simp; done) | (go_simp; rfl)); intro Ab hg w9 hbox hb; have Aa := Am (hbox); have Ac := Am ((by rw [hg]; exact (below_size (pB HB.out)) : w.heap.size ≤ Ab)); replace HB := Am (below_step (pB HB.out) hb); have Ad := Ac; clear hb hbox hg; obtain ⟨_, _, _, _⟩ := bc4 Aa.out; obtain ⟨_, _, _, _⟩ := bf4 Aa.out))
  go_ret
  exact ⟨pX, pE HB.out Ad.out⟩
 rw [if_neg c8] at H
 have c8b0 : decide (a0_1 < 0) = false := decide_eq_false c8
 clear c8
 by_cases c11 : a0_1 > 2147483647
 ·rw [if_pos c11] at H
  have c11b0 : decide (2147483647 < a0_1) = true := decide_eq_true c11
  clear c11
  obtain rfl := Option.some.inj H
  go_enter Try.func45, Try.ntmps45
  go_wp2_with (first | ((with_reducible refine gate_dst (N := 1) rfl ?_); refine box_event ?hg (N := 1) ?hd (cs := #[.int .i64 a0_0, .int .i64 a0_1, .int .i64 a0_2, .int .u32 a0_3]) (t := 24) ?hr ?_; (case hd => rfl); (case hg => rfl); (case hr => first | (go_simp; done) | (go_simp; rfl)); intro Ab hg w12 hbox hb; have Aa := Am (hbox); have Ac := Am ((by rw [hg]; exact (below_size (pB HB.out)) : w.heap.size ≤ Ab)); replace HB := Am (below_step (pB HB.out) hb); have Ad := Ac; clear hb hbox hg; obtain ⟨_, _, _, _⟩ := bc4 Aa.out; obtain ⟨_, _, _, _⟩ := bf4 Aa.out))
  go_ret
  exact ⟨pX, pE HB.out Ad.out⟩
 rw [if_neg c11] at H
 have c11b0 : decide (2147483647 < a0_1) = false := decide_eq_false c11
 clear c11
 by_cases c14 : a0_2 < 0
 ·rw [if_pos c14] at H
  have c14b0 : decide (a0_2 < 0) = true := decide_eq_true c14
  clear c14
  obtain rfl := Option.some.inj H
  go_enter Try.func45, Try.ntmps45
  go_wp2_with (first | ((with_reducible refine gate_dst (N := 1) rfl ?_); refine box_event ?hg (N := 1) ?hd (cs := #[.int .i64 a0_0, .int .i64 a0_1, .int .i64 a0_2, .int .u32 a0_3]) (t := 24) ?hr ?_; (case hd => rfl); (case hg => rfl); (case hr => first | (go_simp; done) | (go_simp; rfl)); intro Ab hg w15 hbox hb; have Aa := Am (hbox); have Ac := Am ((by rw [hg]; exact (below_size (pB HB.out)) : w.heap.size ≤ Ab)); replace HB := Am (below_step (pB HB.out) hb); have Ad := Ac; clear hb hbox hg; obtain ⟨_, _, _, _⟩ := bc4 Aa.out; obtain ⟨_, _, _, _⟩ := bf4 Aa.out))
  go_ret
  exact ⟨pX, pE HB.out Ad.out⟩
 rw [if_neg c14] at H
 have c14b0 : decide (a0_2 < 0) = false := decide_eq_false c14
 clear c14
 by_cases c17 : a0_2 > 4096
 ·rw [if_pos c17] at H
  have c17b0 : decide (4096 < a0_2) = true := decide_eq_true c17
  clear c17
  obtain rfl := Option.some.inj H
  go_enter Try.func45, Try.ntmps45
  go_wp2_with (first | ((with_reducible refine gate_dst (N := 1) rfl ?_); refine box_event ?hg (N := 1) ?hd (cs := #[.int .i64 a0_0, .int .i64 a0_1, .int .i64 a0_2, .int .u32 a0_3]) (t := 24) ?hr ?_; (case hd => rfl); (case hg => rfl); (case hr => first | (go_simp; done) | (go_simp; rfl)); intro Ab hg w18 hbox hb; have Aa := Am (hbox); have Ac := Am ((by rw [hg]; exact (below_size (pB HB.out)) : w.heap.size ≤ Ab)); replace HB := Am (below_step (pB HB.out) hb); have Ad := Ac; clear hb hbox hg; obtain ⟨_, _, _, _⟩ := bc4 Aa.out; obtain ⟨_, _, _, _⟩ := bf4 Aa.out))
  go_ret
  exact ⟨pX, pE HB.out Ad.out⟩
 rw [if_neg c17] at H
 have c17b0 : decide (4096 < a0_2) = false := decide_eq_false c17
 clear c17
 obtain rfl := Option.some.inj H
 go_enter Try.func45, Try.ntmps45
 go_wp2_with (first | ((with_reducible refine gate_dst (N := 1) rfl ?_); refine box_event ?hg (N := 1) ?hd (cs := #[.int .i64 a0_0, .int .i64 a0_1, .int .i64 a0_2, .int .u32 a0_3]) (t := 24) ?hr ?_; (case hd => rfl); (case hg => rfl); (case hr => first | (go_simp; done) | (go_simp; rfl)); intro Ab hg w20 hbox hb; have Aa := Am (hbox); have Ac := Am ((by rw [hg]; exact (below_size (pB HB.out)) : w.heap.size ≤ Ab)); replace HB := Am (below_step (pB HB.out) hb); have Ad := Ac; clear hb hbox hg; obtain ⟨_, _, _, _⟩ := bc4 Aa.out; obtain ⟨_, _, _, _⟩ := bf4 Aa.out))
 go_ret
 exact ⟨pX, pE HB.out Ad.out⟩
def tally_may_1.f (a0_0 : Int) (a0_1 : Int) (a0_2 : Int) (a0_3 : Int) : Option (Bool) := (point_Check.f a0_0 a0_1 a0_2 a0_3).bind fun t103 => (some (t103 != 0))
set_option maxHeartbeats 8000000 in
set_option maxRecDepth 100000 in
theorem tally_may_1.calls (a0_0 : Int) (a0_1 : Int) (a0_2 : Int) (a0_3 : Int) (r : Bool) (w : World) (h : tally_may_1.f a0_0 a0_1 a0_2 a0_3 = some r) :
  Calls Try.prog 66 #[.agg #[.int .i64 a0_0, .int .i64 a0_1, .int .i64 a0_2, .int .u32 a0_3]] w fun e w' => e = .returned (.bool r) ∧ Below w.heap.size w w' := by
 have hu24 := Try.underlying24
 have HB := Am (Below.refl w.heap.size w)
 have H : ((point_Check.f a0_0 a0_1 a0_2 a0_3).bind fun t103 => (some (t103 != 0))) = some r := h
 clear h
 replace H := Option.bind_eq_some_iff.mp H
 obtain ⟨t103, A20, H⟩ := H
 replace H : (some (t103 != 0)) = some r := H
 have A2 := Am A20
 clear A20
 obtain rfl := Option.some.inj H
 go_enter Try.func66, Try.ntmps66
 go_wp2_with (first | ((with_reducible refine gate_dst (N := 1) rfl ?_); refine box_event ?hg (N := 1) ?hd (cs := #[.int .i64 a0_0, .int .i64 a0_1, .int .i64 a0_2, .int .u32 a0_3]) (t := 24) ?hr ?_; (case hd => rfl); (case hg => rfl); (case hr => first | (go_simp; done) | (go_simp; rfl)); intro gb102 hg w3 hbox hb; have BK102 := Am (hbox); have GW102 := Am ((by rw [hg]; exact (below_size (pB HB.out)) : w.heap.size ≤ gb102)); replace HB := Am (below_step (pB HB.out) hb); have GE102 := GW102; clear hb hbox hg; obtain ⟨hcz4_0, hcz4_1, hcz4_2, hcz4_3⟩ := bc4 BK102.out; obtain ⟨hfz4_0, hfz4_1, hfz4_2, hfz4_3⟩ := bf4 BK102.out) | ((with_reducible refine gate_callee (f := 45) rfl ?_); refine goesL_ (some 4) rfl rfl Try.func45 (by kernel_rfl) rfl #[.agg #[.int .i64 a0_0, .int .i64 a0_1, .int .i64 a0_2, .int .u32 a0_3]] rfl pL ?_; (with_reducible refine (point_Check.calls a0_0 a0_1 a0_2 a0_3 t103 _ A2.out).mono ?_); rintro e w5 ⟨rfl, hb⟩; refine ⟨_, rfl, ?_⟩; replace BK102 := kBa BK102 hb; replace HB := Am (below_step (pE HB.out GE102.out) hb); (try clear hb); (try clear hb2); (try clear hk); (try clear hi)))
 go_ret
 exact ⟨pX, pE HB.out GE102.out⟩
def slices_IndexFunc_api_Point.l0 : Nat → List (S24) → Int → Int → Option (Int)
 | 0, _, _, _ => none
 | k + 1, x0, x7, x8 => if x8 < x7 then (if 0 ≤ x8 then (if x8 < (x0.length : Int) then ((tally_may_1.f ((rd_T24 x0 x8).f0) ((rd_T24 x0 x8).f1) ((rd_T24 x0 x8).f2) ((rd_T24 x0 x8).f3)).bind fun t105 => (if t105 = true then (some x8) else (slices_IndexFunc_api_Point.l0 k x0 x7 (wrap64 (x8 + 1))))) else (none)) else (none)) else (some (-1))
def slices_IndexFunc_api_Point.f (k : Nat) (l0 : List (S24))  : Option (Int) := slices_IndexFunc_api_Point.l0 k l0 (l0.length : Int) 0
theorem slices_IndexFunc_api_Point.mono_l : ∀ k, (∀ y0 y1 y2, LeO (slices_IndexFunc_api_Point.l0 k y0 y1 y2) (slices_IndexFunc_api_Point.l0 (k + 1) y0 y1 y2))
 | 0 => fun _ _ _ r h => by simp [slices_IndexFunc_api_Point.l0] at h
 | k + 1 => by
  have ih0 := slices_IndexFunc_api_Point.mono_l k
  ·intro y0 y1 y2
   unfold slices_IndexFunc_api_Point.l0
   repeat' first
   | (with_reducible exact ih0 _ _ _)
   | (with_reducible exact LeO.refl _)
   | (with_reducible exact LeO.none _)
   | (with_reducible refine LeO.ite ?_ ?_)
   | (with_reducible refine LeO.bind ?_ (fun _ => ?_))
   | exact ih0 _ _ _
   | exact LeO.none _
   | refine LeO.ite ?_ ?_
   | refine LeO.bind ?_ (fun _ => ?_)
theorem slices_IndexFunc_api_Point.mono : ∀ a0 k, LeO (slices_IndexFunc_api_Point.f k a0) (slices_IndexFunc_api_Point.f (k + 1) a0) := by
 intro a0 k
 have ih0 := slices_IndexFunc_api_Point.mono_l k
 unfold slices_IndexFunc_api_Point.f
 repeat' first
   | (with_reducible exact ih0 _ _ _)
   | (with_reducible exact LeO.refl _)
   | (with_reducible exact LeO.none _)
   | (with_reducible refine LeO.ite ?_ ?_)
   | (with_reducible refine LeO.bind ?_ (fun _ => ?_))
   | exact ih0 _ _ _
   | exact LeO.none _
   | refine LeO.ite ?_ ?_
   | refine LeO.bind ?_ (fun _ => ?_)
set_option maxHeartbeats 8000000 in
set_option maxRecDepth 100000 in
theorem slices_IndexFunc_api_Point.calls (k : Nat) (A0 : Option Addr) (c0 : Nat) (l0 : List (S24))  (r : Int) (w : World) (hr0 : Kd.C k24 w A0 l0.length l0) (hc0 : l0.length ≤ c0) (h : slices_IndexFunc_api_Point.f k l0 = some r) :
  Calls Try.prog 52 #[.slice A0 l0.length c0, .func (.func 66) #[] #[]] w fun e w' => e = .returned (.int .i64 r) ∧ Below w.heap.size w w' := by
 have hu24 := Try.underlying24
 have HR0 := Am hr0
 have HC0 := Am hc0
 clear hr0 hc0
 have HB := Am (Below.refl w.heap.size w)
 have H : (slices_IndexFunc_api_Point.l0 k l0 (l0.length : Int) 0) = some r := h
 clear h
 have H' := Am H
 clear H
 go_enter Try.func52, Try.ntmps52
 go_wp2
 go_loopg [8] k (fun kq v8 w' => ∃ (Aa : Int), v8 = .int .i64 Aa ∧ Aside0 (slices_IndexFunc_api_Point.l0 kq l0 (l0.length : Int) Aa = some r) ∧ Aside0 (kq ≤ k) ∧ Aside0 (Below w.heap.size w w'))
 case atStart => exact ⟨(0), (by first | rfl | (simp; done) | (simp [*]; done)), H', ⟨Nat.le_refl _⟩, ⟨pB HB.out⟩⟩
 case round =>
  clear H'
  try clear p2
  obtain ⟨Aa, rfl, HA, HK1, HB⟩ := hrel
  cases gk with
  | zero => exact absurd HA.out (by simp [slices_IndexFunc_api_Point.l0])
  | succ k1 =>
   have H := HA.out
   clear HA
   simp only [slices_IndexFunc_api_Point.l0] at H
   by_cases c3 : Aa < (l0.length : Int)
   rotate_left
   ·rw [if_neg c3] at H
    have c3b0 : decide (Aa < (l0.length : Int)) = false := decide_eq_false c3
    clear c3
    obtain rfl := Option.some.inj H
    go_wp2
    go_ret
    exact ⟨pX, pB HB.out⟩
   rw [if_pos c3] at H
   have c3b0 : decide (Aa < (l0.length : Int)) = true := decide_eq_true c3
   clear c3
   by_cases c4 : 0 ≤ Aa
   rotate_left
   ·rw [if_neg c4] at H
    exact absurd H (by simp)
   rw [if_pos c4] at H
   have c4b0 : decide (0 ≤ Aa) = true := decide_eq_true c4
   clear c4
   by_cases c5 : Aa < (l0.length : Int)
   rotate_left
   ·rw [if_neg c5] at H
    exact absurd H (by simp)
   rw [if_pos c5] at H
   have c5b0 : decide (Aa < (l0.length : Int)) = true := decide_eq_true c5
   clear c5
   replace H := Option.bind_eq_some_iff.mp H
   obtain ⟨t105, A60, H⟩ := H
   replace H : (if t105 = true then (some Aa) else (slices_IndexFunc_api_Point.l0 k1 l0 (l0.length : Int) (wrap64 (Aa + 1)))) = some r := H
   have A6 := Am A60
   clear A60
   by_cases c7 : t105 = true
   ·subst c7
    have H1 : (some Aa) = some r := by rw [if_pos rfl] at H; exact H
    clear H
    have H := H1
    clear H1
    obtain rfl := Option.some.inj H
    have p104 : 0 ≤ (Aa : Int) := of_decide_eq_true pS
    have q104 : Aa < (l0.length : Int) := of_decide_eq_true pS
    obtain ⟨Af, e104, Ab, Ac, Ad, Ae⟩ := at_T24u HR0.out Aa p104 q104 HB.out
    cases e104
    replace p104 := eq_true p104
    replace q104 := eq_true q104
    go_wp2_with (first | (go_at_call 66; (with_reducible refine (tally_may_1.calls ((rd_T24 l0 Aa).f0) ((rd_T24 l0 Aa).f1) ((rd_T24 l0 Aa).f2) ((rd_T24 l0 Aa).f3) true _ A6.out).mono ?_); rintro e w8 ⟨rfl, hb⟩; replace HB := Am (below_step (pB HB.out) hb); (try clear hb); (try clear hb2); (try clear hk); (try clear hi)))
    go_ret
    exact ⟨pX, pB HB.out⟩
   replace c7 := Bool.eq_false_iff.mpr c7
   subst c7
   have H1 : (slices_IndexFunc_api_Point.l0 k1 l0 (l0.length : Int) (wrap64 (Aa + 1))) = some r := by rw [if_neg (show ¬ (false = true) by decide)] at H; exact H
   clear H
   have H := H1
   clear H1
   have H' := Am H
   clear H
   have p104 : 0 ≤ (Aa : Int) := of_decide_eq_true pS
   have q104 : Aa < (l0.length : Int) := of_decide_eq_true pS
   obtain ⟨Af, e104, Ab, Ac, Ad, Ae⟩ := at_T24u HR0.out Aa p104 q104 HB.out
   cases e104
   replace p104 := eq_true p104
   replace q104 := eq_true q104
   go_wp2_with (first | (go_at_call 66; (with_reducible refine (tally_may_1.calls ((rd_T24 l0 Aa).f0) ((rd_T24 l0 Aa).f1) ((rd_T24 l0 Aa).f2) ((rd_T24 l0 Aa).f3) false _ A6.out).mono ?_); rintro e w9 ⟨rfl, hb⟩; replace HB := Am (below_step (pB HB.out) hb); (try clear hb); (try clear hb2); (try clear hk); (try clear hi)))
   go_roundg k1
   case measure => have := HK1.out; omega
   case rel => exact ⟨(wrap64 (Aa + 1)), (by first | rfl | (simp; done) | (simp [*]; done)), H', ⟨by have := HK1.out; omega⟩, ⟨pB HB.out⟩⟩
def slices_ContainsFunc_api_Point.f (k : Nat) (l0 : List (S24))  : Option (Bool) := (slices_IndexFunc_api_Point.f k l0).bind fun t106 => (some (decide (t106 ≥ 0)))
theorem slices_ContainsFunc_api_Point.mono : ∀ a0 k, LeO (slices_ContainsFunc_api_Point.f k a0) (slices_ContainsFunc_api_Point.f (k + 1) a0) := by
 intro a0 k
 unfold slices_ContainsFunc_api_Point.f
 repeat' first
   | (with_reducible exact slices_IndexFunc_api_Point.mono _ _)
   | (with_reducible exact LeO.refl _)
   | (with_reducible exact LeO.none _)
   | (with_reducible refine LeO.ite ?_ ?_)
   | (with_reducible refine LeO.bind ?_ (fun _ => ?_))
   | exact slices_IndexFunc_api_Point.mono _ _
   | exact LeO.none _
   | refine LeO.ite ?_ ?_
   | refine LeO.bind ?_ (fun _ => ?_)
set_option maxHeartbeats 8000000 in
set_option maxRecDepth 100000 in
theorem slices_ContainsFunc_api_Point.calls (k : Nat) (A0 : Option Addr) (c0 : Nat) (l0 : List (S24))  (r : Bool) (w : World) (hr0 : Kd.C k24 w A0 l0.length l0) (hc0 : l0.length ≤ c0) (h : slices_ContainsFunc_api_Point.f k l0 = some r) :
  Calls Try.prog 43 #[.slice A0 l0.length c0, .func (.func 66) #[] #[]] w fun e w' => e = .returned (.bool r) ∧ Below w.heap.size w w' := by
 have HR0 := Am hr0
 have HC0 := Am hc0
 clear hr0 hc0
 have HB := Am (Below.refl w.heap.size w)
 have H : ((slices_IndexFunc_api_Point.f k l0).bind fun t106 => (some (decide (t106 ≥ 0)))) = some r := h
 clear h
 replace H := Option.bind_eq_some_iff.mp H
 obtain ⟨t106, A30, H⟩ := H
 replace H : (some (decide (t106 ≥ 0))) = some r := H
 have A3 := Am A30
 clear A30
 obtain rfl := Option.some.inj H
 go_enter Try.func43, Try.ntmps43
 go_wp2_with (first | ((with_reducible refine gate_callee (f := 52) rfl ?_); refine goesL_ (some 7) rfl rfl Try.func52 (by kernel_rfl) rfl #[.slice A0 l0.length c0, .func (.func 66) #[] #[]] rfl pL ?_; (with_reducible refine (slices_IndexFunc_api_Point.calls k _ _ l0 t106 _ ?side1 ?side2 A3.out).mono ?_); (case side1 => repeat (first | exact HR0.out | (with_reducible refine Kd.C_alloc ?_ _) | (with_reducible refine Kd.C_drewN ?_ _) | (with_reducible refine Kd.C_drew ?_))); (case side2 => exact HC0.out); rintro e w4 ⟨rfl, hb⟩; refine ⟨_, rfl, ?_⟩; replace HB := Am (below_step (pB HB.out) hb); (try clear hb); (try clear hb2); (try clear hk); (try clear hi)))
 go_ret
 exact ⟨pX, pB HB.out⟩
def live_may_1.f (a0_0 : Int) (a0_1 : Int) (a0_2 : Int) (a0_3 : Int) : Option (Bool) := (point_Check.f a0_0 a0_1 a0_2 a0_3).bind fun t108 => (some (t108 != 0))
set_option maxHeartbeats 8000000 in
set_option maxRecDepth 100000 in
theorem live_may_1.calls (a0_0 : Int) (a0_1 : Int) (a0_2 : Int) (a0_3 : Int) (r : Bool) (w : World) (h : live_may_1.f a0_0 a0_1 a0_2 a0_3 = some r) :
  Calls Try.prog 44 #[.agg #[.int .i64 a0_0, .int .i64 a0_1, .int .i64 a0_2, .int .u32 a0_3]] w fun e w' => e = .returned (.bool r) ∧ Below w.heap.size w w' := by
 have hu24 := Try.underlying24
 have HB := Am (Below.refl w.heap.size w)
 have H : ((point_Check.f a0_0 a0_1 a0_2 a0_3).bind fun t108 => (some (t108 != 0))) = some r := h
 clear h
 replace H := Option.bind_eq_some_iff.mp H
 obtain ⟨t108, A20, H⟩ := H
 replace H : (some (t108 != 0)) = some r := H
 have A2 := Am A20
 clear A20
 obtain rfl := Option.some.inj H
 go_enter Try.func44, Try.ntmps44
 go_wp2_with (first | ((with_reducible refine gate_dst (N := 1) rfl ?_); refine box_event ?hg (N := 1) ?hd (cs := #[.int .i64 a0_0, .int .i64 a0_1, .int .i64 a0_2, .int .u32 a0_3]) (t := 24) ?hr ?_; (case hd => rfl); (case hg => rfl); (case hr => first | (go_simp; done) | (go_simp; rfl)); intro gb107 hg w3 hbox hb; have BK107 := Am (hbox); have GW107 := Am ((by rw [hg]; exact (below_size (pB HB.out)) : w.heap.size ≤ gb107)); replace HB := Am (below_step (pB HB.out) hb); have GE107 := GW107; clear hb hbox hg; obtain ⟨hcz4_0, hcz4_1, hcz4_2, hcz4_3⟩ := bc4 BK107.out; obtain ⟨hfz4_0, hfz4_1, hfz4_2, hfz4_3⟩ := bf4 BK107.out) | ((with_reducible refine gate_callee (f := 45) rfl ?_); refine goesL_ (some 4) rfl rfl Try.func45 (by kernel_rfl) rfl #[.agg #[.int .i64 a0_0, .int .i64 a0_1, .int .i64 a0_2, .int .u32 a0_3]] rfl pL ?_; (with_reducible refine (point_Check.calls a0_0 a0_1 a0_2 a0_3 t108 _ A2.out).mono ?_); rintro e w5 ⟨rfl, hb⟩; refine ⟨_, rfl, ?_⟩; replace BK107 := kBa BK107 hb; replace HB := Am (below_step (pE HB.out GE107.out) hb); (try clear hb); (try clear hb2); (try clear hk); (try clear hi)))
 go_ret
 exact ⟨pX, pE HB.out GE107.out⟩
def slices_Clone_api_Point.f (l0 : List (S24)) : Option (List (S24)) := if l0.length < 4398046511104 then some l0 else none
set_option maxHeartbeats 4000000 in
set_option maxRecDepth 100000 in
theorem slices_Clone_api_Point.calls (A0 : Option Addr) (c0 : Nat) (l0 : List (S24)) (r : List (S24)) (w : World) (hr0 : Kd.C k24 w A0 l0.length l0) (hc0 : l0.length ≤ c0) (h : slices_Clone_api_Point.f l0 = some r) :
  Calls Try.prog 46 #[.slice A0 l0.length c0] w fun e w' => ∃ v0_ : Value, e = .returned (v0_) ∧ Kd.R k24 24 w' w.heap.size (fun _ => True) v0_ r ∧ Below w.heap.size w w' := by
 unfold slices_Clone_api_Point.f at h
 by_cases hl : l0.length < 4398046511104
 ·rw [if_pos hl] at h
  obtain rfl := Option.some.inj h
  have HR0 := Aside0.mk hr0
  have HC0 := Aside0.mk hc0
  have LM := Aside0.mk hl
  clear hr0 hc0 hl h
  have HB := Aside0.mk (Below.refl w.heap.size w)
  have heq := fun (W : World) (a : Option Addr) (n c : Nat) => Lib.run_eql_slice_nil (P := Try.prog) W 36 24 a n c 0 0 Try.underlying36
  cases A0 with
  | none =>
   have e0 : l0 = [] := by
    cases l0 with
    | nil => rfl
    | cons x y =>
     obtain ⟨ad, had, _⟩ := HR0.out.2.2 (by simp)
     cases had
   subst e0
   go_enter Try.func46, Try.ntmps46
   go_wp2
   go_ret
   exact ⟨_, rfl, Kd.R_nil _ _ _ _ _, HB.out⟩
  | some ad =>
   go_enter Try.func46, Try.ntmps46
   go_wp2_with (first | ((with_reducible refine gate_dst (N := 5) rfl ?_); refine Kd.R_lit k24 _ 24 ?hg (N := 5) ?hd (xs := ([] : List (S24))) (inner := []) (ok := fun _ => True) (okp := fun _ => True) ?hr ?hp (fun _ hk => hk) trivial (Below.refl _ _) (Nat.le_refl _) (by simp) ?_; (case hd => rfl); (case hg => rfl); (case hr => first | (go_simp; done) | (go_simp; rfl)); (case hp => exact (Reps.none _ _)); intro v182 w12 ho13 hb hg_ hnew_; clear hg_ hnew_; have n0_ := Aside0.mk (Kd.R_lower ho13 (below_size (by repeat (first | (with_reducible first | exact HB.out | apply below_alloc | apply pw_below_drewN | apply below_drew1) | exact HB.out)))); have n1_ := Aside0.mk (below_step (by repeat (first | (with_reducible first | exact HB.out | apply below_alloc | apply pw_below_drewN | apply below_drew1) | exact HB.out)) hb); clear HB; have HO183 := n0_; have HB := n1_; clear n0_ n1_; clear hb ho13) | ((with_reducible refine gate_builtin (b := .append) (xs := #[.tmp 5, .tmp 6]) rfl ?_); at_builtin; refine Kd.R_append_rows k24 (w0 := w) w.heap.size rfl (.tmp 5) (.tmp 6) 36 24 (.agg #[(.int .i64 0), (.int .i64 0), (.int .i64 0), (.int .u32 0)]) 32 rfl Try.underlying36 info24 rfl (by decide) (by omega) v182 [] l0 _ _ _ (fun _ => True) (fun _ => False) rfl rfl ?aO ?aR (fun _ _ h => h) (fun _ h => h.elim) ?aF ?aB ?aS ?aL ?_; (case aR => repeat (first | exact (Kd.C_below HR0.out HB.out) | (with_reducible refine Kd.C_alloc ?_ _) | (with_reducible refine Kd.C_drewN ?_ _) | (with_reducible refine Kd.C_drew ?_))); (case aB => exact (by repeat (first | (with_reducible first | exact HB.out | apply below_alloc | apply pw_below_drewN | apply below_drew1) | exact HB.out))); (case aF => exact (fun _ _ => trivial)); (case aO => exact (by (with_reducible repeat (first | apply Kd.R_alloc | apply Kd.R_drewN | apply Kd.R_drew)); exact HO183.out)); (case aS => exact (below_size (by repeat (first | (with_reducible first | exact HB.out | apply below_alloc | apply pw_below_drewN | apply below_drew1) | exact HB.out)))); (case aL => have := LM.out; simp only [List.length_nil]; omega); intro v185 w14 ho hb hg hat; have n0_ := Aside0.mk (hb); have n1_ := Aside0.mk (ho); clear HB; clear HO183; have HB := n0_; have HO186 := n1_; clear n0_ n1_; clear ho hb hg hat))
   go_ret
   exact ⟨_, rfl, HO186.out, HB.out⟩
 ·rw [if_neg hl] at h
  cases h
def point_Less.f (a0_0 : Int) (a0_1 : Int) (a0_2 : Int) (a0_3 : Int) (a1_0 : Int) (a1_1 : Int) (a1_2 : Int) (a1_3 : Int) : Option (Bool) := if a0_0 < a1_0 then (some true) else (if a0_0 = a1_0 then (some (decide (a0_1 < a1_1))) else (some false))
set_option maxHeartbeats 8000000 in
set_option maxRecDepth 100000 in
theorem point_Less.calls (a0_0 : Int) (a0_1 : Int) (a0_2 : Int) (a0_3 : Int) (a1_0 : Int) (a1_1 : Int) (a1_2 : Int) (a1_3 : Int) (r : Bool) (w : World) (h : point_Less.f a0_0 a0_1 a0_2 a0_3 a1_0 a1_1 a1_2 a1_3 = some r) :
  Calls Try.prog 49 #[.agg #[.int .i64 a0_0, .int .i64 a0_1, .int .i64 a0_2, .int .u32 a0_3], .agg #[.int .i64 a1_0, .int .i64 a1_1, .int .i64 a1_2, .int .u32 a1_3]] w fun e w' => e = .returned (.bool r) ∧ Below w.heap.size w w' := by
 have hu24 := Try.underlying24
 have HB := Am (Below.refl w.heap.size w)
 have H : (if a0_0 < a1_0 then (some true) else (if a0_0 = a1_0 then (some (decide (a0_1 < a1_1))) else (some false))) = some r := h
 clear h
 by_cases c3 : a0_0 < a1_0
 ·rw [if_pos c3] at H
  have c3b0 : decide (a0_0 < a1_0) = true := decide_eq_true c3
  clear c3
  obtain rfl := Option.some.inj H
  go_enter Try.func49, Try.ntmps49
  go_wp2_with (first | ((with_reducible refine gate_dst (N := 2) rfl ?_); refine box_event ?hg (N := 2) ?hd (cs := #[.int .i64 a0_0, .int .i64 a0_1, .int .i64 a0_2, .int .u32 a0_3]) (t := 24) ?hr ?_; (case hd => rfl); (case hg => rfl); (case hr => first | (go_simp; done) | (go_simp; rfl)); intro Ad hg w4 hbox hb; have Aa := Am (hbox); have Ah := Am ((by rw [hg]; exact (below_size (pB HB.out)) : w.heap.size ≤ Ad)); replace HB := Am (below_step (pB HB.out) hb); have Ae := Ah; clear hb hbox hg) | ((with_reducible refine gate_dst (N := 3) rfl ?_); refine box_event ?hg (N := 3) ?hd (cs := #[.int .i64 a1_0, .int .i64 a1_1, .int .i64 a1_2, .int .u32 a1_3]) (t := 24) ?hr ?_; (case hd => rfl); (case hg => rfl); (case hr => first | (go_simp; done) | (go_simp; rfl)); intro Af hg w5 hbox hb; have Ag := Am (hbox); have Ai := Am ((by rw [hg]; exact (below_size (pE HB.out Ae.out)) : w.heap.size ≤ Af)); replace HB := Am (below_step (pE HB.out Ae.out) hb); have Aj := Ai; have Ab := Am ((by rw [hg]; exact Nat.ne_of_lt (kL Aa.out) : Ad ≠ Af)); have Ac := Am ((by rw [hg]; exact Nat.ne_of_gt (kL Aa.out) : Af ≠ Ad)); replace Aa := kBa Aa hb; clear hb hbox hg; have hnb6 := Ab.out; have hnc6 := Ac.out; obtain ⟨_, _, _, _⟩ := bc4 Aa.out; obtain ⟨_, _, _, _⟩ := bf4 Aa.out; obtain ⟨_, _, _, _⟩ := bc4 Ag.out; obtain ⟨_, _, _, _⟩ := bf4 Ag.out))
  go_ret
  exact ⟨pX, pE2 HB.out Ae.out Aj.out⟩
 rw [if_neg c3] at H
 have c3b0 : decide (a0_0 < a1_0) = false := decide_eq_false c3
 clear c3
 by_cases c9 : a0_0 = a1_0
 ·rw [if_pos c9] at H
  have c9b0 : (a0_0 == a1_0) = true := beq_iff_eq.mpr c9
  have c9b1 : (a0_0 != a1_0) = false := bne_eq_false_iff_eq.mpr c9
  clear c9
  obtain rfl := Option.some.inj H
  go_enter Try.func49, Try.ntmps49
  go_wp2_with (first | ((with_reducible refine gate_dst (N := 2) rfl ?_); refine box_event ?hg (N := 2) ?hd (cs := #[.int .i64 a0_0, .int .i64 a0_1, .int .i64 a0_2, .int .u32 a0_3]) (t := 24) ?hr ?_; (case hd => rfl); (case hg => rfl); (case hr => first | (go_simp; done) | (go_simp; rfl)); intro Ad hg w10 hbox hb; have Aa := Am (hbox); have Ah := Am ((by rw [hg]; exact (below_size (pB HB.out)) : w.heap.size ≤ Ad)); replace HB := Am (below_step (pB HB.out) hb); have Ae := Ah; clear hb hbox hg) | ((with_reducible refine gate_dst (N := 3) rfl ?_); refine box_event ?hg (N := 3) ?hd (cs := #[.int .i64 a1_0, .int .i64 a1_1, .int .i64 a1_2, .int .u32 a1_3]) (t := 24) ?hr ?_; (case hd => rfl); (case hg => rfl); (case hr => first | (go_simp; done) | (go_simp; rfl)); intro Af hg w11 hbox hb; have Ag := Am (hbox); have Ai := Am ((by rw [hg]; exact (below_size (pE HB.out Ae.out)) : w.heap.size ≤ Af)); replace HB := Am (below_step (pE HB.out Ae.out) hb); have Aj := Ai; have Ab := Am ((by rw [hg]; exact Nat.ne_of_lt (kL Aa.out) : Ad ≠ Af)); have Ac := Am ((by rw [hg]; exact Nat.ne_of_gt (kL Aa.out) : Af ≠ Ad)); replace Aa := kBa Aa hb; clear hb hbox hg; have hnb12 := Ab.out; have hnc12 := Ac.out; obtain ⟨_, _, _, _⟩ := bc4 Aa.out; obtain ⟨_, _, _, _⟩ := bf4 Aa.out; obtain ⟨_, _, _, _⟩ := bc4 Ag.out; obtain ⟨_, _, _, _⟩ := bf4 Ag.out))
  go_ret
  exact ⟨pX, pE2 HB.out Ae.out Aj.out⟩
 rw [if_neg c9] at H
 have c9b0 : (a0_0 == a1_0) = false := beq_eq_false_iff_ne.mpr c9
 have c9b1 : (a0_0 != a1_0) = true := bne_iff_ne.mpr c9
 obtain rfl := Option.some.inj H
 go_enter Try.func49, Try.ntmps49
 go_wp2_with (first | ((with_reducible refine gate_dst (N := 2) rfl ?_); refine box_event ?hg (N := 2) ?hd (cs := #[.int .i64 a0_0, .int .i64 a0_1, .int .i64 a0_2, .int .u32 a0_3]) (t := 24) ?hr ?_; (case hd => rfl); (case hg => rfl); (case hr => first | (go_simp; done) | (go_simp; rfl)); intro Ad hg w15 hbox hb; have Aa := Am (hbox); have Ah := Am ((by rw [hg]; exact (below_size (pB HB.out)) : w.heap.size ≤ Ad)); replace HB := Am (below_step (pB HB.out) hb); have Ae := Ah; clear hb hbox hg) | ((with_reducible refine gate_dst (N := 3) rfl ?_); refine box_event ?hg (N := 3) ?hd (cs := #[.int .i64 a1_0, .int .i64 a1_1, .int .i64 a1_2, .int .u32 a1_3]) (t := 24) ?hr ?_; (case hd => rfl); (case hg => rfl); (case hr => first | (go_simp; done) | (go_simp; rfl)); intro Af hg w16 hbox hb; have Ag := Am (hbox); have Ai := Am ((by rw [hg]; exact (below_size (pE HB.out Ae.out)) : w.heap.size ≤ Af)); replace HB := Am (below_step (pE HB.out Ae.out) hb); have Aj := Ai; have Ab := Am ((by rw [hg]; exact Nat.ne_of_lt (kL Aa.out) : Ad ≠ Af)); have Ac := Am ((by rw [hg]; exact Nat.ne_of_gt (kL Aa.out) : Af ≠ Ad)); replace Aa := kBa Aa hb; clear hb hbox hg; have hnb17 := Ab.out; have hnc17 := Ac.out; obtain ⟨_, _, _, _⟩ := bc4 Aa.out; obtain ⟨_, _, _, _⟩ := bf4 Aa.out; obtain ⟨_, _, _, _⟩ := bc4 Ag.out; obtain ⟨_, _, _, _⟩ := bf4 Ag.out))
 go_ret
 exact ⟨pX, pE2 HB.out Ae.out Aj.out⟩
def point_Order_1.f (a0_0 : Int) (a0_1 : Int) (a0_2 : Int) (a0_3 : Int) (a1_0 : Int) (a1_1 : Int) (a1_2 : Int) (a1_3 : Int) : Option (Int) := (point_Less.f a0_0 a0_1 a0_2 a0_3 a1_0 a1_1 a1_2 a1_3).bind fun t113 => (if t113 = true then (some (-1)) else ((point_Less.f a1_0 a1_1 a1_2 a1_3 a0_0 a0_1 a0_2 a0_3).bind fun t114 => (if t114 = true then (some 1) else (some 0))))
set_option maxHeartbeats 8000000 in
set_option maxRecDepth 100000 in
theorem point_Order_1.calls (a0_0 : Int) (a0_1 : Int) (a0_2 : Int) (a0_3 : Int) (a1_0 : Int) (a1_1 : Int) (a1_2 : Int) (a1_3 : Int) (r : Int) (w : World) (h : point_Order_1.f a0_0 a0_1 a0_2 a0_3 a1_0 a1_1 a1_2 a1_3 = some r) :
  Calls Try.prog 48 #[.agg #[.int .i64 a0_0, .int .i64 a0_1, .int .i64 a0_2, .int .u32 a0_3], .agg #[.int .i64 a1_0, .int .i64 a1_1, .int .i64 a1_2, .int .u32 a1_3]] w fun e w' => e = .returned (.int .i64 r) ∧ Below w.heap.size w w' := by
 have hu24 := Try.underlying24
 have HB := Am (Below.refl w.heap.size w)
 have H : ((point_Less.f a0_0 a0_1 a0_2 a0_3 a1_0 a1_1 a1_2 a1_3).bind fun t113 => (if t113 = true then (some (-1)) else ((point_Less.f a1_0 a1_1 a1_2 a1_3 a0_0 a0_1 a0_2 a0_3).bind fun t114 => (if t114 = true then (some 1) else (some 0))))) = some r := h
 clear h
 replace H := Option.bind_eq_some_iff.mp H
 obtain ⟨t113, A30, H⟩ := H
 replace H : (if t113 = true then (some (-1)) else ((point_Less.f a1_0 a1_1 a1_2 a1_3 a0_0 a0_1 a0_2 a0_3).bind fun t114 => (if t114 = true then (some 1) else (some 0)))) = some r := H
 have A3 := Am A30
 clear A30
 by_cases c4 : t113 = true
 ·subst c4
  have H1 : (some (-1)) = some r := by rw [if_pos rfl] at H; exact H
  clear H
  have H := H1
  clear H1
  obtain rfl := Option.some.inj H
  go_enter Try.func48, Try.ntmps48
  go_wp2_with (first | ((with_reducible refine gate_dst (N := 2) rfl ?_); refine box_event ?hg (N := 2) ?hd (cs := #[.int .i64 a0_0, .int .i64 a0_1, .int .i64 a0_2, .int .u32 a0_3]) (t := 24) ?hr ?_; (case hd => rfl); (case hg => rfl); (case hr => first | (go_simp; done) | (go_simp; rfl)); intro Af hg w5 hbox hb; have Aa := Am (hbox); have Ai := Am ((by rw [hg]; exact (below_size (pB HB.out)) : w.heap.size ≤ Af)); replace HB := Am (below_step (pB HB.out) hb); have Ac := Ai; clear hb hbox hg) | ((with_reducible refine gate_dst (N := 3) rfl ?_); refine box_event ?hg (N := 3) ?hd (cs := #[.int .i64 a1_0, .int .i64 a1_1, .int .i64 a1_2, .int .u32 a1_3]) (t := 24) ?hr ?_; (case hd => rfl); (case hg => rfl); (case hr => first | (go_simp; done) | (go_simp; rfl)); intro Ag hg w6 hbox hb; have Ab := Am (hbox); have Aj := Am ((by rw [hg]; exact (below_size (pE HB.out Ac.out)) : w.heap.size ≤ Ag)); replace HB := Am (below_step (pE HB.out Ac.out) hb); have Ah := Aj; have Ad := Am ((by rw [hg]; exact Nat.ne_of_lt (kL Aa.out) : Af ≠ Ag)); have Ae := Am ((by rw [hg]; exact Nat.ne_of_gt (kL Aa.out) : Ag ≠ Af)); replace Aa := kBa Aa hb; clear hb hbox hg; have hnb7 := Ad.out; have hnc7 := Ae.out; obtain ⟨_, _, _, _⟩ := bc4 Aa.out; obtain ⟨_, _, _, _⟩ := bf4 Aa.out; obtain ⟨_, _, _, _⟩ := bc4 Ab.out; obtain ⟨_, _, _, _⟩ := bf4 Ab.out) | ((with_reducible refine gate_callee (f := 49) rfl ?_); refine goesL_ (some 8) rfl rfl Try.func49 (by kernel_rfl) rfl #[.agg #[.int .i64 a0_0, .int .i64 a0_1, .int .i64 a0_2, .int .u32 a0_3], .agg #[.int .i64 a1_0, .int .i64 a1_1, .int .i64 a1_2, .int .u32 a1_3]] rfl pL ?_; (with_reducible refine (point_Less.calls a0_0 a0_1 a0_2 a0_3 a1_0 a1_1 a1_2 a1_3 true _ A3.out).mono ?_); rintro e w10 ⟨rfl, hb⟩; refine ⟨_, rfl, ?_⟩; replace Aa := kBa Aa hb; replace Ab := kBa Ab hb; replace HB := Am (below_step (pE2 HB.out Ac.out Ah.out) hb); (try clear hb); (try clear hb2); (try clear hk); (try clear hi)))
  go_ret
  exact ⟨pX, pE2 HB.out Ac.out Ah.out⟩
 replace c4 := Bool.eq_false_iff.mpr c4
 subst c4
 have H1 : ((point_Less.f a1_0 a1_1 a1_2 a1_3 a0_0 a0_1 a0_2 a0_3).bind fun t114 => (if t114 = true then (some 1) else (some 0))) = some r := by rw [if_neg (show ¬ (false = true) by decide)] at H; exact H
 clear H
 have H := H1
 clear H1
 replace H := Option.bind_eq_some_iff.mp H
 obtain ⟨t114, A110, H⟩ := H
 replace H : (if t114 = true then (some 1) else (some 0)) = some r := H
 have A11 := Am A110
 clear A110
 by_cases c12 : t114 = true
 ·subst c12
  have H1 : (some 1) = some r := by rw [if_pos rfl] at H; exact H
  clear H
  have H := H1
  clear H1
  obtain rfl := Option.some.inj H
  go_enter Try.func48, Try.ntmps48
  go_wp2_with (first | ((with_reducible refine gate_dst (N := 2) rfl ?_); refine box_event ?hg (N := 2) ?hd (cs := #[.int .i64 a0_0, .int .i64 a0_1, .int .i64 a0_2, .int .u32 a0_3]) (t := 24) ?hr ?_; (case hd => rfl); (case hg => rfl); (case hr => first | (go_simp; done) | (go_simp; rfl)); intro Af hg w13 hbox hb; have Aa := Am (hbox); have Ai := Am ((by rw [hg]; exact (below_size (pB HB.out)) : w.heap.size ≤ Af)); replace HB := Am (below_step (pB HB.out) hb); have Ac := Ai; clear hb hbox hg) | ((with_reducible refine gate_dst (N := 3) rfl ?_); refine box_event ?hg (N := 3) ?hd (cs := #[.int .i64 a1_0, .int .i64 a1_1, .int .i64 a1_2, .int .u32 a1_3]) (t := 24) ?hr ?_; (case hd => rfl); (case hg => rfl); (case hr => first | (go_simp; done) | (go_simp; rfl)); intro Ag hg w14 hbox hb; have Ab := Am (hbox); have Aj := Am ((by rw [hg]; exact (below_size (pE HB.out Ac.out)) : w.heap.size ≤ Ag)); replace HB := Am (below_step (pE HB.out Ac.out) hb); have Ah := Aj; have Ad := Am ((by rw [hg]; exact Nat.ne_of_lt (kL Aa.out) : Af ≠ Ag)); have Ae := Am ((by rw [hg]; exact Nat.ne_of_gt (kL Aa.out) : Ag ≠ Af)); replace Aa := kBa Aa hb; clear hb hbox hg; have hnb15 := Ad.out; have hnc15 := Ae.out; obtain ⟨_, _, _, _⟩ := bc4 Aa.out; obtain ⟨_, _, _, _⟩ := bf4 Aa.out; obtain ⟨_, _, _, _⟩ := bc4 Ab.out; obtain ⟨_, _, _, _⟩ := bf4 Ab.out) | ((with_reducible refine gate_callee (f := 49) rfl ?_); refine goesL_ (some 8) rfl rfl Try.func49 (by kernel_rfl) rfl #[.agg #[.int .i64 a0_0, .int .i64 a0_1, .int .i64 a0_2, .int .u32 a0_3], .agg #[.int .i64 a1_0, .int .i64 a1_1, .int .i64 a1_2, .int .u32 a1_3]] rfl pL ?_; (with_reducible refine (point_Less.calls a0_0 a0_1 a0_2 a0_3 a1_0 a1_1 a1_2 a1_3 false _ A3.out).mono ?_); rintro e w18 ⟨rfl, hb⟩; refine ⟨_, rfl, ?_⟩; replace Aa := kBa Aa hb; replace Ab := kBa Ab hb; replace HB := Am (below_step (pE2 HB.out Ac.out Ah.out) hb); (try clear hb); (try clear hb2); (try clear hk); (try clear hi); obtain ⟨_, _, _, _⟩ := bc4 Ab.out; obtain ⟨_, _, _, _⟩ := bf4 Ab.out; obtain ⟨_, _, _, _⟩ := bc4 Aa.out; obtain ⟨_, _, _, _⟩ := bf4 Aa.out) | ((with_reducible refine gate_callee (f := 49) rfl ?_); refine goesL_ (some 12) rfl rfl Try.func49 (by kernel_rfl) rfl #[.agg #[.int .i64 a1_0, .int .i64 a1_1, .int .i64 a1_2, .int .u32 a1_3], .agg #[.int .i64 a0_0, .int .i64 a0_1, .int .i64 a0_2, .int .u32 a0_3]] rfl pL ?_; (with_reducible refine (point_Less.calls a1_0 a1_1 a1_2 a1_3 a0_0 a0_1 a0_2 a0_3 true _ A11.out).mono ?_); rintro e w21 ⟨rfl, hb⟩; refine ⟨_, rfl, ?_⟩; replace Aa := kBa Aa hb; replace Ab := kBa Ab hb; replace HB := Am (below_step (pE2 HB.out Ac.out Ah.out) hb); (try clear hb); (try clear hb2); (try clear hk); (try clear hi)))
  go_ret
  exact ⟨pX, pE2 HB.out Ac.out Ah.out⟩
 replace c12 := Bool.eq_false_iff.mpr c12
 subst c12
 have H1 : (some 0) = some r := by rw [if_neg (show ¬ (false = true) by decide)] at H; exact H
 clear H
 have H := H1
 clear H1
 obtain rfl := Option.some.inj H
 go_enter Try.func48, Try.ntmps48
 go_wp2_with (first | ((with_reducible refine gate_dst (N := 2) rfl ?_); refine box_event ?hg (N := 2) ?hd (cs := #[.int .i64 a0_0, .int .i64 a0_1, .int .i64 a0_2, .int .u32 a0_3]) (t := 24) ?hr ?_; (case hd => rfl); (case hg => rfl); (case hr => first | (go_simp; done) | (go_simp; rfl)); intro Af hg w22 hbox hb; have Aa := Am (hbox); have Ai := Am ((by rw [hg]; exact (below_size (pB HB.out)) : w.heap.size ≤ Af)); replace HB := Am (below_step (pB HB.out) hb); have Ac := Ai; clear hb hbox hg) | ((with_reducible refine gate_dst (N := 3) rfl ?_); refine box_event ?hg (N := 3) ?hd (cs := #[.int .i64 a1_0, .int .i64 a1_1, .int .i64 a1_2, .int .u32 a1_3]) (t := 24) ?hr ?_; (case hd => rfl); (case hg => rfl); (case hr => first | (go_simp; done) | (go_simp; rfl)); intro Ag hg w23 hbox hb; have Ab := Am (hbox); have Aj := Am ((by rw [hg]; exact (below_size (pE HB.out Ac.out)) : w.heap.size ≤ Ag)); replace HB := Am (below_step (pE HB.out Ac.out) hb); have Ah := Aj; have Ad := Am ((by rw [hg]; exact Nat.ne_of_lt (kL Aa.out) : Af ≠ Ag)); have Ae := Am ((by rw [hg]; exact Nat.ne_of_gt (kL Aa.out) : Ag ≠ Af)); replace Aa := kBa Aa hb; clear hb hbox hg; have hnb24 := Ad.out; have hnc24 := Ae.out; obtain ⟨_, _, _, _⟩ := bc4 Aa.out; obtain ⟨_, _, _, _⟩ := bf4 Aa.out; obtain ⟨_, _, _, _⟩ := bc4 Ab.out; obtain ⟨_, _, _, _⟩ := bf4 Ab.out) | ((with_reducible refine gate_callee (f := 49) rfl ?_); refine goesL_ (some 8) rfl rfl Try.func49 (by kernel_rfl) rfl #[.agg #[.int .i64 a0_0, .int .i64 a0_1, .int .i64 a0_2, .int .u32 a0_3], .agg #[.int .i64 a1_0, .int .i64 a1_1, .int .i64 a1_2, .int .u32 a1_3]] rfl pL ?_; (with_reducible refine (point_Less.calls a0_0 a0_1 a0_2 a0_3 a1_0 a1_1 a1_2 a1_3 false _ A3.out).mono ?_); rintro e w27 ⟨rfl, hb⟩; refine ⟨_, rfl, ?_⟩; replace Aa := kBa Aa hb; replace Ab := kBa Ab hb; replace HB := Am (below_step (pE2 HB.out Ac.out Ah.out) hb); (try clear hb); (try clear hb2); (try clear hk); (try clear hi); obtain ⟨_, _, _, _⟩ := bc4 Ab.out; obtain ⟨_, _, _, _⟩ := bf4 Ab.out; obtain ⟨_, _, _, _⟩ := bc4 Aa.out; obtain ⟨_, _, _, _⟩ := bf4 Aa.out) | ((with_reducible refine gate_callee (f := 49) rfl ?_); refine goesL_ (some 12) rfl rfl Try.func49 (by kernel_rfl) rfl #[.agg #[.int .i64 a1_0, .int .i64 a1_1, .int .i64 a1_2, .int .u32 a1_3], .agg #[.int .i64 a0_0, .int .i64 a0_1, .int .i64 a0_2, .int .u32 a0_3]] rfl pL ?_; (with_reducible refine (point_Less.calls a1_0 a1_1 a1_2 a1_3 a0_0 a0_1 a0_2 a0_3 false _ A11.out).mono ?_); rintro e w30 ⟨rfl, hb⟩; refine ⟨_, rfl, ?_⟩; replace Aa := kBa Aa hb; replace Ab := kBa Ab hb; replace HB := Am (below_step (pE2 HB.out Ac.out Ah.out) hb); (try clear hb); (try clear hb2); (try clear hk); (try clear hi)))
 go_ret
 exact ⟨pX, pE2 HB.out Ac.out Ah.out⟩
end
section
attribute [local go_sem] max2_int min2_int max_two min_two max_three min_three max_four min_four
attribute [local go_sem] wrap64_l1 wrap64_l2 wrap64_l3 wrap64_l4 wrap64_l5
mutual
def slices_insertionSortCmpFunc_api_Point.l0 : Nat → List (S24) → Int → Int → Int → Option ((List (S24)))
 | 0, _, _, _, _ => none
 | k + 1, x0, x1, x2, x8 => if x8 < x2 then (slices_insertionSortCmpFunc_api_Point.l1 k x0 x1 x2 x8 x8) else (some x0)
def slices_insertionSortCmpFunc_api_Point.l1 : Nat → List (S24) → Int → Int → Int → Int → Option ((List (S24)))
 | 0, _, _, _, _, _ => none
 | k + 1, x0, x1, x2, x8, x9 => if x9 > x1 then (if 0 ≤ x9 then (if x9 < (x0.length : Int) then (if 0 ≤ (wrap64 (x9 - 1)) then (if (wrap64 (x9 - 1)) < (x0.length : Int) then ((point_Order_1.f ((rd_T24 x0 x9).f0) ((rd_T24 x0 x9).f1) ((rd_T24 x0 x9).f2) ((rd_T24 x0 x9).f3) ((rd_T24 x0 (wrap64 (x9 - 1))).f0) ((rd_T24 x0 (wrap64 (x9 - 1))).f1) ((rd_T24 x0 (wrap64 (x9 - 1))).f2) ((rd_T24 x0 (wrap64 (x9 - 1))).f3)).bind fun t117 => (if t117 < 0 then (slices_insertionSortCmpFunc_api_Point.l1 k ((x0.set (x9 : Int).toNat (⟨(rd_T24 x0 (wrap64 (x9 - 1))).f0, (rd_T24 x0 (wrap64 (x9 - 1))).f1, (rd_T24 x0 (wrap64 (x9 - 1))).f2, (rd_T24 x0 (wrap64 (x9 - 1))).f3⟩ : S24)).set ((wrap64 (x9 - 1)) : Int).toNat (⟨(rd_T24 x0 x9).f0, (rd_T24 x0 x9).f1, (rd_T24 x0 x9).f2, (rd_T24 x0 x9).f3⟩ : S24)) x1 x2 x8 (wrap64 (x9 - 1))) else (slices_insertionSortCmpFunc_api_Point.l0 k x0 x1 x2 (wrap64 (x8 + 1))))) else (none)) else (none)) else (none)) else (none)) else (slices_insertionSortCmpFunc_api_Point.l0 k x0 x1 x2 (wrap64 (x8 + 1)))
end
def slices_insertionSortCmpFunc_api_Point.f (k : Nat) (l0 : List (S24)) (a1 : Int) (a2 : Int)  : Option ((List (S24))) := slices_insertionSortCmpFunc_api_Point.l0 k l0 a1 a2 (wrap64 (a1 + 1))
theorem slices_insertionSortCmpFunc_api_Point.mono_l : ∀ k, (∀ y0 y1 y2 y3, LeO (slices_insertionSortCmpFunc_api_Point.l0 k y0 y1 y2 y3) (slices_insertionSortCmpFunc_api_Point.l0 (k + 1) y0 y1 y2 y3)) ∧ (∀ y0 y1 y2 y3 y4, LeO (slices_insertionSortCmpFunc_api_Point.l1 k y0 y1 y2 y3 y4) (slices_insertionSortCmpFunc_api_Point.l1 (k + 1) y0 y1 y2 y3 y4))
 | 0 => ⟨fun _ _ _ _ r h => by simp [slices_insertionSortCmpFunc_api_Point.l0] at h, fun _ _ _ _ _ r h => by simp [slices_insertionSortCmpFunc_api_Point.l1] at h⟩
 | k + 1 => by
  obtain ⟨ih0, ih1⟩ := slices_insertionSortCmpFunc_api_Point.mono_l k
  refine ⟨?_, ?_⟩
  ·intro y0 y1 y2 y3
   unfold slices_insertionSortCmpFunc_api_Point.l0
   repeat' first
   | (with_reducible exact ih0 _ _ _ _)
   | (with_reducible exact ih1 _ _ _ _ _)
   | (with_reducible exact LeO.refl _)
   | (with_reducible exact LeO.none _)
   | (with_reducible refine LeO.ite ?_ ?_)
   | (with_reducible refine LeO.bind ?_ (fun _ => ?_))
   | exact ih0 _ _ _ _
   | exact ih1 _ _ _ _ _
   | exact LeO.none _
   | refine LeO.ite ?_ ?_
   | refine LeO.bind ?_ (fun _ => ?_)
  ·intro y0 y1 y2 y3 y4
   unfold slices_insertionSortCmpFunc_api_Point.l1
   repeat' first
   | (with_reducible exact ih0 _ _ _ _)
   | (with_reducible exact ih1 _ _ _ _ _)
   | (with_reducible exact LeO.refl _)
   | (with_reducible exact LeO.none _)
   | (with_reducible refine LeO.ite ?_ ?_)
   | (with_reducible refine LeO.bind ?_ (fun _ => ?_))
   | exact ih0 _ _ _ _
   | exact ih1 _ _ _ _ _
   | exact LeO.none _
   | refine LeO.ite ?_ ?_
   | refine LeO.bind ?_ (fun _ => ?_)
theorem slices_insertionSortCmpFunc_api_Point.mono : ∀ a0 a1 a2 k, LeO (slices_insertionSortCmpFunc_api_Point.f k a0 a1 a2) (slices_insertionSortCmpFunc_api_Point.f (k + 1) a0 a1 a2) := by
 intro a0 a1 a2 k
 obtain ⟨ih0, ih1⟩ := slices_insertionSortCmpFunc_api_Point.mono_l k
 unfold slices_insertionSortCmpFunc_api_Point.f
 repeat' first
   | (with_reducible exact ih0 _ _ _ _)
   | (with_reducible exact ih1 _ _ _ _ _)
   | (with_reducible exact LeO.refl _)
   | (with_reducible exact LeO.none _)
   | (with_reducible refine LeO.ite ?_ ?_)
   | (with_reducible refine LeO.bind ?_ (fun _ => ?_))
   | exact ih0 _ _ _ _
   | exact ih1 _ _ _ _ _
   | exact LeO.none _
   | refine LeO.ite ?_ ?_
   | refine LeO.bind ?_ (fun _ => ?_)
def slices_insertionSortCmpFunc_api_Point.T4 : Bool × List (List Nat × List Nat) := (true, [([], []), ([], []), ([0, 1], [0, 1]), ([2], [2]), ([3], [3]), ([3], [3]), ([3], [3]), ([5, 6, 3], [3, 5, 6]), ([7, 3], [3, 7]), ([3], [3]), ([3], [3]), ([10, 3], [3, 10]), ([9, 11, 3], [3, 9, 11]), ([12, 3], [3, 12]), ([4, 8, 13, 3, 3], [3, 4, 8, 13]), ([14, 3], [3, 14]), ([3, 15], [3, 15])])
def slices_insertionSortCmpFunc_api_Point.B4 : List Nat := [0, 0, 3, 7, 15, 15, 15, 111, 239, 15, 15, 1039, 3599, 7695, 16383, 32767, 65535]
theorem slices_insertionSortCmpFunc_api_Point.tab4 : rtab .any (opsOf Try.f63 4) = slices_insertionSortCmpFunc_api_Point.T4 := by kernel_rfl
theorem slices_insertionSortCmpFunc_api_Point.bits4 : waitsOk slices_insertionSortCmpFunc_api_Point.T4.2 slices_insertionSortCmpFunc_api_Point.B4 = true := by kernel_rfl
def slices_insertionSortCmpFunc_api_Point.T6 : Bool × List (List Nat × List Nat) := (true, [([], []), ([], []), ([], []), ([], []), ([3], [3]), ([], []), ([], []), ([6], [6]), ([5, 7], [5, 7]), ([8], [8]), ([], []), ([], []), ([10, 11], [10, 11]), ([12], [12]), ([0, 1, 0, 1, 5, 6, 7, 8, 9, 13], [0, 1]), ([14, 9, 0, 1, 5, 6, 7, 8, 9, 13], [9, 14]), ([2, 4, 0, 1, 2, 3, 4, 5, 6, 7, 8, 9, 10, 11, 12, 13, 14, 15], [2, 4]), ([16, 13, 15, 0, 1, 2, 3, 4, 5, 6, 7, 8, 9, 10, 11, 12, 13, 14, 15], [13, 16])])
def slices_insertionSortCmpFunc_api_Point.B6 : List Nat := [0, 0, 0, 0, 8, 0, 0, 64, 224, 480, 0, 0, 3072, 7168, 16355, 32739, 65535, 131071]
theorem slices_insertionSortCmpFunc_api_Point.tab6 : rtab .any (opsOf Try.f63 6) = slices_insertionSortCmpFunc_api_Point.T6 := by kernel_rfl
theorem slices_insertionSortCmpFunc_api_Point.bits6 : waitsOk slices_insertionSortCmpFunc_api_Point.T6.2 slices_insertionSortCmpFunc_api_Point.B6 = true := by kernel_rfl
set_option maxHeartbeats 8000000 in
set_option maxRecDepth 100000 in
theorem slices_insertionSortCmpFunc_api_Point.calls (k : Nat) (P0_ : Nat → Prop) (u9000_ : Value) (l0 : List (S24)) (a1 : Int) (a2 : Int)  (r : List (S24)) (w0 w : World) (hB : Below w0.heap.size w0 w) (ho0 : Kd.R k24 24 w w0.heap.size P0_ u9000_ l0) (h : slices_insertionSortCmpFunc_api_Point.f k l0 a1 a2 = some r) :
  Calls Try.prog 63 #[u9000_, .int .i64 a1, .int .i64 a2, .func (.func 48) #[] #[]] w fun e w' => e = .returned (.tuple #[]) ∧ Kd.R k24 24 w' w0.heap.size (fun k_ => (P0_ k_ ∨ w.heap.size ≤ k_)) u9000_ r ∧ Below w0.heap.size w0 w' ∧ Kept w w' (fun k_ => P0_ k_) := by
 have hu24 := Try.underlying24
 have Bc := Am (show Kd.R k24 24 w w0.heap.size (fun k_ => (P0_ k_ ∨ w.heap.size ≤ k_)) u9000_ l0 from Kd.R_mono ho0 (fun k_ hk => (.inl hk)))
 have HK := Am (Kept.refl w (fun k_ => P0_ k_))
 have HW0 := Am hB.size
 have HB := Am hB
 clear hB
 have H : (slices_insertionSortCmpFunc_api_Point.l0 k l0 a1 a2 (wrap64 (a1 + 1))) = some r := h
 clear h
 have H' := Am H
 clear H
 go_enter Try.func63, Try.ntmps63
 go_wp2
 go_loopg [8] k (fun kq v8 w' => ∃ (A5 : List (S24)) (An : Int), v8 = .int .i64 An ∧ Aside0 (slices_insertionSortCmpFunc_api_Point.l0 kq A5 a1 a2 An = some r) ∧ Aside0 (kq ≤ k) ∧ Aside0 (Kd.R k24 24 w' w0.heap.size (fun k_ => (P0_ k_ ∨ w.heap.size ≤ k_)) u9000_ A5) ∧ Aside0 (Kept w w' (fun k_ => P0_ k_)) ∧ Aside0 (Below w0.heap.size w0 w'))
 case atStart => exact ⟨(l0), (wrap64 (a1 + 1)), (by first | rfl | (simp; done) | (simp [*]; done)), H', ⟨Nat.le_refl _⟩, ⟨by (with_reducible repeat (first | apply Kd.R_alloc | apply Kd.R_drewN | apply Kd.R_drew)); exact Bc.out⟩, ⟨by repeat (first | (with_reducible first | exact HK.out | apply Kept.alloc | apply Kept.drewN | apply Kept.drew) | exact HK.out)⟩, ⟨pB HB.out⟩⟩
 case round =>
  clear H'
  try clear p2
  obtain ⟨A5, An, rfl, HA, HK1, Ad, HK, HB⟩ := hrel
  cases gk with
  | zero => exact absurd HA.out (by simp [slices_insertionSortCmpFunc_api_Point.l0])
  | succ k1 =>
   have H := HA.out
   clear HA
   simp only [slices_insertionSortCmpFunc_api_Point.l0] at H
   by_cases c5 : An < a2
   rotate_left
   ·rw [if_neg c5] at H
    have c5b0 : decide (An < a2) = false := decide_eq_false c5
    clear c5
    obtain rfl := Option.some.inj H
    go_wp2
    first | go_end0 | ((try simp only [Exit.inBlock, Exit.then]); refine bodyPost_ret (results_none rfl _ _ _) rfl ?_)
    exact ⟨pX, by (with_reducible repeat (first | apply Kd.R_alloc | apply Kd.R_drewN | apply Kd.R_drew)); exact Ad.out, pB HB.out, by repeat (first | (with_reducible first | exact HK.out | apply Kept.alloc | apply Kept.drewN | apply Kept.drew) | exact HK.out)⟩
   rw [if_pos c5] at H
   have c5b0 : decide (An < a2) = true := decide_eq_true c5
   clear c5
   have H' := Am H
   clear H
   go_wp2
   go_loopg [9] k1 (fun kq v9 w' => ∃ (Aa : List (S24)) (Ab : Int), v9 = .int .i64 Ab ∧ Aside0 (slices_insertionSortCmpFunc_api_Point.l1 kq Aa a1 a2 An Ab = some r) ∧ Aside0 (kq ≤ k1) ∧ Aside0 (Kd.R k24 24 w' w0.heap.size (fun k_ => (P0_ k_ ∨ w.heap.size ≤ k_)) u9000_ Aa) ∧ Aside0 (Kept w w' (fun k_ => P0_ k_)) ∧ Aside0 (Below w0.heap.size w0 w'))
   case atStart => exact ⟨(A5), (An), (by first | rfl | (simp; done) | (simp [*]; done)), H', ⟨Nat.le_refl _⟩, ⟨by (with_reducible repeat (first | apply Kd.R_alloc | apply Kd.R_drewN | apply Kd.R_drew)); exact Ad.out⟩, ⟨by repeat (first | (with_reducible first | exact HK.out | apply Kept.alloc | apply Kept.drewN | apply Kept.drew) | exact HK.out)⟩, ⟨pB HB.out⟩⟩
   case round =>
    clear H'
    try clear p2
    try clear c5
    try clear c5b0
    try clear p2
    obtain ⟨Aa, Ab, rfl, HA, HK2, Ad, HK, HB⟩ := hrel
    cases gk with
    | zero => exact absurd HA.out (by simp [slices_insertionSortCmpFunc_api_Point.l1])
    | succ k2 =>
     have H := HA.out
     clear HA
     simp only [slices_insertionSortCmpFunc_api_Point.l1] at H
     by_cases c6 : Ab > a1
     rotate_left
     ·rw [if_neg c6] at H
      have c6b0 : decide (a1 < Ab) = false := decide_eq_false c6
      clear c6
      have H' := Am H
      clear H
      try go_wp2
      replace Ad := dRa Ad
      replace HK := Am (Kept.drew HK.out)
      replace HB := bDa HB
      refine start_ (n := 17) (S := fun w' => True) (ds := []) #[false, false, false, false, false, false, false, false, false, false, false, false, false, false, false, false, false] (by kernel_rfl) rfl rfl trivial (fun hHeld => ?_); refine with_tabW slices_insertionSortCmpFunc_api_Point.tab4 slices_insertionSortCmpFunc_api_Point.bits4 (fun HT_ HW_ => ?_)
      (first | generalize wr.drew = w25 at Ad HK HB hHeld ⊢ | generalize wr.drew = w25 at HK HB hHeld ⊢)
      refine pui 0 18 17 1 HT_ ?_
      refine pui 1 19 17 3 HT_ ?_
      refine pui 2 20 17 7 HT_ ?_
      refine pui 3 21 17 15 HT_ ?_
      refine pdi 4 22 17 31 HT_ ?_
      refine pdi 5 23 17 63 HT_ ?_
      refine pdi 6 24 17 127 HT_ ?_
      refine pdi 7 25 17 255 HT_ ?_
      refine pdi 8 26 17 511 HT_ ?_
      refine pdi 9 27 17 1023 HT_ ?_
      refine pdi 10 28 17 2047 HT_ ?_
      refine pdi 11 29 17 4095 HT_ ?_
      refine pdi 12 30 17 8191 HT_ ?_
      refine pdi 13 31 17 16383 HT_ ?_
      refine pdi 14 32 17 32767 HT_ ?_
      refine pdi 15 33 17 65535 HT_ ?_
      refine pui 16 34 17 131071 HT_ ?_
      refine done_ (done_of HT_.out (by kernel_rfl)) ?_
      try go_wp2
      go_roundg k2
      case measure => have := HK1.out; have := HK2.out; omega
      case rel => exact ⟨(Aa), (wrap64 (An + 1)), (by first | rfl | (simp; done) | (simp [*]; done)), H', ⟨by have := HK1.out; have := HK2.out; omega⟩, ⟨by (with_reducible repeat (first | apply Kd.R_alloc | apply Kd.R_drewN | apply Kd.R_drew)); exact Ad.out⟩, ⟨by repeat (first | (with_reducible first | exact HK.out | apply Kept.alloc | apply Kept.drewN | apply Kept.drew) | exact HK.out)⟩, ⟨pB HB.out⟩⟩
     rw [if_pos c6] at H
     have c6b0 : decide (a1 < Ab) = true := decide_eq_true c6
     clear c6
     by_cases c7 : 0 ≤ Ab
     rotate_left
     ·rw [if_neg c7] at H
      exact absurd H (by simp)
     rw [if_pos c7] at H
     have c7b0 : decide (0 ≤ Ab) = true := decide_eq_true c7
     clear c7
     by_cases c8 : Ab < (Aa.length : Int)
     rotate_left
     ·rw [if_neg c8] at H
      exact absurd H (by simp)
     rw [if_pos c8] at H
     have c8b0 : decide (Ab < (Aa.length : Int)) = true := decide_eq_true c8
     clear c8
     obtain ⟨ji9, hji9⟩ : ∃ j_ : Int, (wrap64 (Ab - 1)) = j_ := ⟨_, rfl⟩
     replace H : (if 0 ≤ (ji9) then (if (ji9) < (Aa.length : Int) then ((point_Order_1.f ((rd_T24 Aa Ab).f0) ((rd_T24 Aa Ab).f1) ((rd_T24 Aa Ab).f2) ((rd_T24 Aa Ab).f3) ((rd_T24 Aa (ji9)).f0) ((rd_T24 Aa (ji9)).f1) ((rd_T24 Aa (ji9)).f2) ((rd_T24 Aa (ji9)).f3)).bind fun t117 => (if t117 < 0 then (slices_insertionSortCmpFunc_api_Point.l1 k2 ((Aa.set (Ab : Int).toNat (⟨(rd_T24 Aa (ji9)).f0, (rd_T24 Aa (ji9)).f1, (rd_T24 Aa (ji9)).f2, (rd_T24 Aa (ji9)).f3⟩ : S24)).set ((ji9) : Int).toNat (⟨(rd_T24 Aa Ab).f0, (rd_T24 Aa Ab).f1, (rd_T24 Aa Ab).f2, (rd_T24 Aa Ab).f3⟩ : S24)) a1 a2 An ji9) else (slices_insertionSortCmpFunc_api_Point.l0 k2 Aa a1 a2 (wrap64 (An + 1))))) else (none)) else (none)) = some r := by first | (rw [hji9] at H; exact H) | (simp only [hji9] at H ⊢; exact H)
     have hji9w : (IntKind.i64.wrap (Ab - 1)) = ji9 := (i64_w _).trans hji9
     by_cases c10 : 0 ≤ (ji9)
     rotate_left
     ·rw [if_neg c10] at H
      exact absurd H (by simp)
     rw [if_pos c10] at H
     have c10b0 : decide (0 ≤ (ji9)) = true := decide_eq_true c10
     clear c10
     by_cases c11 : (ji9) < (Aa.length : Int)
     rotate_left
     ·rw [if_neg c11] at H
      exact absurd H (by simp)
     rw [if_pos c11] at H
     have c11b0 : decide ((ji9) < (Aa.length : Int)) = true := decide_eq_true c11
     clear c11
     replace H := Option.bind_eq_some_iff.mp H
     obtain ⟨t117, A120, H⟩ := H
     replace H : (if t117 < 0 then (slices_insertionSortCmpFunc_api_Point.l1 k2 ((Aa.set (Ab : Int).toNat (⟨(rd_T24 Aa (ji9)).f0, (rd_T24 Aa (ji9)).f1, (rd_T24 Aa (ji9)).f2, (rd_T24 Aa (ji9)).f3⟩ : S24)).set ((ji9) : Int).toNat (⟨(rd_T24 Aa Ab).f0, (rd_T24 Aa Ab).f1, (rd_T24 Aa Ab).f2, (rd_T24 Aa Ab).f3⟩ : S24)) a1 a2 An ji9) else (slices_insertionSortCmpFunc_api_Point.l0 k2 Aa a1 a2 (wrap64 (An + 1)))) = some r := H
     have A12 := Am A120
     clear A120
     by_cases c13 : t117 < 0
     rotate_left
     ·rw [if_neg c13] at H
      have c13b0 : decide (t117 < 0) = false := decide_eq_false c13
      clear c13
      have H' := Am H
      clear H
      try go_wp2
      replace Ad := dRa Ad
      replace HK := Am (Kept.drew HK.out)
      replace HB := bDa HB
      obtain ⟨Ao23, co23, A9⟩ := Kd.R_slice Ad.out
      (first | subst A9 | (injection A9 with f1_ f2_ f3_; have f4_ := f1_.symm; have f5_ := f3_.symm; clear f1_ f2_ f3_; subst f4_; subst f5_))
      have p115 : 0 ≤ (Ab : Int) := of_decide_eq_true pS
      have q115 : Ab < (Aa.length : Int) := of_decide_eq_true pS
      obtain ⟨Ac, e115, Ae, Af, Ag, Ah⟩ := at_T24 (Kd.R_reads' Ad.out).2.2 Ab p115 q115
      cases e115
      replace p115 := eq_true p115
      replace q115 := eq_true q115
      have p116 : 0 ≤ ((ji9) : Int) := of_decide_eq_true pS
      have q116 : (ji9) < (Aa.length : Int) := of_decide_eq_true pS
      obtain ⟨Aw, e116, Ai, Aj, Ak, Al⟩ := at_T24 (Kd.R_reads' Ad.out).2.2 (ji9) p116 q116
      obtain rfl : Ac = Aw := (by injection e116)
      replace p116 := eq_true p116
      replace q116 := eq_true q116
      refine start_ (n := 17) (S := fun w' => w'.cell? (Ac.add ((Ab).toNat * 4)) = some (.int .i64 ((rd_T24 Aa Ab).f0)) ∧ cA w' (Ac.add ((Ab).toNat * 4)) 1 (.int .i64 ((rd_T24 Aa Ab).f1)) ∧ cA w' (Ac.add ((Ab).toNat * 4)) 2 (.int .i64 ((rd_T24 Aa Ab).f2)) ∧ cA w' (Ac.add ((Ab).toNat * 4)) 3 (.int .u32 ((rd_T24 Aa Ab).f3)) ∧ w'.cell? (Ac.add (((ji9)).toNat * 4)) = some (.int .i64 ((rd_T24 Aa (ji9)).f0)) ∧ w'.cell? ⟨(Ac.add (((ji9)).toNat * 4)).block, (Ac.add (((ji9)).toNat * 4)).off + 1, none⟩ = some (.int .i64 ((rd_T24 Aa (ji9)).f1)) ∧ w'.cell? ⟨(Ac.add (((ji9)).toNat * 4)).block, (Ac.add (((ji9)).toNat * 4)).off + 2, none⟩ = some (.int .i64 ((rd_T24 Aa (ji9)).f2)) ∧ w'.cell? ⟨(Ac.add (((ji9)).toNat * 4)).block, (Ac.add (((ji9)).toNat * 4)).off + 3, none⟩ = some (.int .u32 ((rd_T24 Aa (ji9)).f3))) (ds := []) #[false, false, false, false, false, false, false, false, false, false, false, false, false, false, false, false, false] (by kernel_rfl) rfl rfl ⟨Ae, Af, Ag, Ah, Ai, Aj, Ak, Al⟩ (fun hHeld => ?_); refine with_tabW slices_insertionSortCmpFunc_api_Point.tab4 slices_insertionSortCmpFunc_api_Point.bits4 (fun HT_ HW_ => ?_)
      (first | generalize wr.drew = w22 at Ad HK HB Ae Af Ag Ah Ai Aj Ak Al hHeld ⊢ | generalize wr.drew = w22 at HK HB Ae Af Ag Ah Ai Aj Ak Al hHeld ⊢)
      refine pui 0 18 17 1 HT_ ?_
      refine pui 1 19 17 3 HT_ ?_
      refine pui 2 20 17 7 HT_ ?_
      refine pui 3 21 17 15 HT_ ?_
      refine pui 4 22 17 31 HT_ ?_
      refine pui 5 23 17 63 HT_ ?_
      refine pui 6 24 17 127 HT_ ?_
      refine pui 7 25 17 255 HT_ ?_
      refine pui 9 27 17 767 HT_ ?_
      refine pui 10 28 17 1791 HT_ ?_
      refine pui 11 29 17 3839 HT_ ?_
      refine pui 12 30 17 7935 HT_ ?_
      refine tki 8 26 17 8191 HT_ HW_ hHeld ?_
      refine tki 13 31 17 16383 HT_ HW_ hHeld ?_
      refine onei 14 32 17 32767 HT_ (fun K hK => ?_)
      refine goesV_ Try.func48 (by kernel_rfl) rfl #[.agg #[.int .i64 ((rd_T24 Aa Ab).f0), .int .i64 ((rd_T24 Aa Ab).f1), .int .i64 ((rd_T24 Aa Ab).f2), .int .u32 ((rd_T24 Aa Ab).f3)], .agg #[.int .i64 ((rd_T24 Aa (ji9)).f0), .int .i64 ((rd_T24 Aa (ji9)).f1), .int .i64 ((rd_T24 Aa (ji9)).f2), .int .u32 ((rd_T24 Aa (ji9)).f3)]] (by rfl) rfl rfl (by (try simp only [List.map_toArray, List.map_cons, List.map_nil]); first | done | (simp only [hji9]; rfl) | rfl | (simp only [List.length_drop, List.length_take]; rfl)) ?_
      with_reducible refine (point_Order_1.calls ((rd_T24 Aa Ab).f0) ((rd_T24 Aa Ab).f1) ((rd_T24 Aa Ab).f2) ((rd_T24 Aa Ab).f3) ((rd_T24 Aa (ji9)).f0) ((rd_T24 Aa (ji9)).f1) ((rd_T24 Aa (ji9)).f2) ((rd_T24 Aa (ji9)).f3) t117 _ A12.out).mono ?_
      rintro e w24 ⟨rfl, hb⟩
      have HS0_ := (hb.cell (World.block_lt_of_cell? _ _ (hHeld.1))).trans (hHeld.1)
      have HS1_ := (hb.cell (World.block_lt_of_cell? _ _ (hHeld.2.1))).trans (hHeld.2.1)
      have HS2_ := (hb.cell (World.block_lt_of_cell? _ _ (hHeld.2.2.1))).trans (hHeld.2.2.1)
      have HS3_ := (hb.cell (World.block_lt_of_cell? _ _ (hHeld.2.2.2.1))).trans (hHeld.2.2.2.1)
      have HS4_ := (hb.cell (World.block_lt_of_cell? _ _ (hHeld.2.2.2.2.1))).trans (hHeld.2.2.2.2.1)
      have HS5_ := (hb.cell (World.block_lt_of_cell? _ _ (hHeld.2.2.2.2.2.1))).trans (hHeld.2.2.2.2.2.1)
      have HS6_ := (hb.cell (World.block_lt_of_cell? _ _ (hHeld.2.2.2.2.2.2.1))).trans (hHeld.2.2.2.2.2.2.1)
      have HS7_ := (hb.cell (World.block_lt_of_cell? _ _ (hHeld.2.2.2.2.2.2.2))).trans (hHeld.2.2.2.2.2.2.2)
      refine ⟨_, rfl, ?_⟩
      replace Ad := bRa Ad hb
      replace HK := Am (Kept.below (S := (fun k_ => P0_ k_)) (by repeat (first | (with_reducible first | exact HK.out | apply Kept.alloc | apply Kept.drewN | apply Kept.drew) | exact HK.out)) hb)
      replace HB := Am (below_step (pB HB.out) hb)
      (try clear hb)
      (try clear hb2)
      (try clear hk)
      (try clear hi)
      refine hK.out _ _ ⟨HS0_, HS1_, HS2_, HS3_, HS4_, HS5_, HS6_, HS7_⟩ (fun hHeld => ?_)
      clear hK K
      refine norm_ (a' := ?_) ?_ ?_
      rotate_left
      ·show Act.put _ (some 32) _ = _
       simp only [Act.put, List.setIfInBounds_toArray, List.set_cons_zero, List.set_cons_succ, i64_w, i32_w]
       rfl
      refine pui 15 33 17 65535 HT_ ?_
      refine pui 16 34 17 131071 HT_ ?_
      refine done_ (done_of HT_.out (by kernel_rfl)) ?_
      try go_wp2
      go_roundg k2
      case measure => have := HK1.out; have := HK2.out; omega
      case rel => exact ⟨(Aa), (wrap64 (An + 1)), (by first | rfl | (simp; done) | (simp [*]; done)), H', ⟨by have := HK1.out; have := HK2.out; omega⟩, ⟨by (with_reducible repeat (first | apply Kd.R_alloc | apply Kd.R_drewN | apply Kd.R_drew)); exact Ad.out⟩, ⟨by repeat (first | (with_reducible first | exact HK.out | apply Kept.alloc | apply Kept.drewN | apply Kept.drew) | exact HK.out)⟩, ⟨pB HB.out⟩⟩
     rw [if_pos c13] at H
     have c13b0 : decide (t117 < 0) = true := decide_eq_true c13
     clear c13
     obtain ⟨y120, hy120⟩ : ∃ y_ : List (S24), y_ = (Aa.set (Ab : Int).toNat (⟨(rd_T24 Aa (ji9)).f0, (rd_T24 Aa (ji9)).f1, (rd_T24 Aa (ji9)).f2, (rd_T24 Aa (ji9)).f3⟩ : S24)) := ⟨_, rfl⟩
     replace H : (slices_insertionSortCmpFunc_api_Point.l1 k2 (y120.set ((ji9) : Int).toNat (⟨(rd_T24 Aa Ab).f0, (rd_T24 Aa Ab).f1, (rd_T24 Aa Ab).f2, (rd_T24 Aa Ab).f3⟩ : S24)) a1 a2 An ji9) = some r := by first | (rw [hy120]; with_reducible exact H) | (have H2_ := (Option.bind_some _ _).symm.trans H; rw [hy120]; with_reducible exact H2_) | (have H2_ := (Option.bind_some _ _).symm.trans H; with_reducible exact H2_) | with_reducible exact H | (rw [hy120]; exact H) | exact H
     have Ny120 := Am hy120
     clear hy120
     obtain ⟨y121, hy121⟩ : ∃ y_ : List (S24), y_ = (y120.set ((ji9) : Int).toNat (⟨(rd_T24 Aa Ab).f0, (rd_T24 Aa Ab).f1, (rd_T24 Aa Ab).f2, (rd_T24 Aa Ab).f3⟩ : S24)) := ⟨_, rfl⟩
     replace H : (slices_insertionSortCmpFunc_api_Point.l1 k2 y121 a1 a2 An ji9) = some r := by first | (rw [hy121]; with_reducible exact H) | (have H2_ := (Option.bind_some _ _).symm.trans H; rw [hy121]; with_reducible exact H2_) | (have H2_ := (Option.bind_some _ _).symm.trans H; with_reducible exact H2_) | with_reducible exact H | (rw [hy121]; exact H) | exact H
     have Ny121 := Am hy121
     clear hy121
     have H' := Am H
     clear H
     try go_wp2
     replace Ad := dRa Ad
     replace HK := Am (Kept.drew HK.out)
     replace HB := bDa HB
     obtain ⟨Ao17, co17, A6⟩ := Kd.R_slice Ad.out
     (first | subst A6 | (injection A6 with f1_ f2_ f3_; have f4_ := f1_.symm; have f5_ := f3_.symm; clear f1_ f2_ f3_; subst f4_; subst f5_))
     have p115 : 0 ≤ (Ab : Int) := of_decide_eq_true pS
     have q115 : Ab < (Aa.length : Int) := of_decide_eq_true pS
     obtain ⟨Ac, e115, Ae, Af, Ag, Ah⟩ := at_T24 (Kd.R_reads' Ad.out).2.2 Ab p115 q115
     cases e115
     replace p115 := eq_true p115
     replace q115 := eq_true q115
     have p116 : 0 ≤ ((ji9) : Int) := of_decide_eq_true pS
     have q116 : (ji9) < (Aa.length : Int) := of_decide_eq_true pS
     obtain ⟨Aw, e116, Ai, Aj, Ak, Al⟩ := at_T24 (Kd.R_reads' Ad.out).2.2 (ji9) p116 q116
     obtain rfl : Ac = Aw := (by injection e116)
     replace p116 := eq_true p116
     replace q116 := eq_true q116
     refine start_ (n := 17) (S := fun w' => w'.cell? (Ac.add ((Ab).toNat * 4)) = some (.int .i64 ((rd_T24 Aa Ab).f0)) ∧ cA w' (Ac.add ((Ab).toNat * 4)) 1 (.int .i64 ((rd_T24 Aa Ab).f1)) ∧ cA w' (Ac.add ((Ab).toNat * 4)) 2 (.int .i64 ((rd_T24 Aa Ab).f2)) ∧ cA w' (Ac.add ((Ab).toNat * 4)) 3 (.int .u32 ((rd_T24 Aa Ab).f3)) ∧ w'.cell? (Ac.add (((ji9)).toNat * 4)) = some (.int .i64 ((rd_T24 Aa (ji9)).f0)) ∧ w'.cell? ⟨(Ac.add (((ji9)).toNat * 4)).block, (Ac.add (((ji9)).toNat * 4)).off + 1, none⟩ = some (.int .i64 ((rd_T24 Aa (ji9)).f1)) ∧ w'.cell? ⟨(Ac.add (((ji9)).toNat * 4)).block, (Ac.add (((ji9)).toNat * 4)).off + 2, none⟩ = some (.int .i64 ((rd_T24 Aa (ji9)).f2)) ∧ w'.cell? ⟨(Ac.add (((ji9)).toNat * 4)).block, (Ac.add (((ji9)).toNat * 4)).off + 3, none⟩ = some (.int .u32 ((rd_T24 Aa (ji9)).f3))) (ds := []) #[false, false, false, false, false, false, false, false, false, false, false, false, false, false, false, false, false] (by kernel_rfl) rfl rfl ⟨Ae, Af, Ag, Ah, Ai, Aj, Ak, Al⟩ (fun hHeld => ?_); refine with_tabW slices_insertionSortCmpFunc_api_Point.tab4 slices_insertionSortCmpFunc_api_Point.bits4 (fun HT_ HW_ => ?_)
     (first | generalize wr.drew = w16 at Ad HK HB Ae Af Ag Ah Ai Aj Ak Al hHeld ⊢ | generalize wr.drew = w16 at HK HB Ae Af Ag Ah Ai Aj Ak Al hHeld ⊢)
     refine pui 0 18 17 1 HT_ ?_
     refine pui 1 19 17 3 HT_ ?_
     refine pui 2 20 17 7 HT_ ?_
     refine pui 3 21 17 15 HT_ ?_
     refine pui 4 22 17 31 HT_ ?_
     refine pui 5 23 17 63 HT_ ?_
     refine pui 6 24 17 127 HT_ ?_
     refine pui 7 25 17 255 HT_ ?_
     refine pui 9 27 17 767 HT_ ?_
     refine pui 10 28 17 1791 HT_ ?_
     refine pui 11 29 17 3839 HT_ ?_
     refine pui 12 30 17 7935 HT_ ?_
     refine tki 8 26 17 8191 HT_ HW_ hHeld ?_
     refine tki 13 31 17 16383 HT_ HW_ hHeld ?_
     refine onei 14 32 17 32767 HT_ (fun K hK => ?_)
     refine goesV_ Try.func48 (by kernel_rfl) rfl #[.agg #[.int .i64 ((rd_T24 Aa Ab).f0), .int .i64 ((rd_T24 Aa Ab).f1), .int .i64 ((rd_T24 Aa Ab).f2), .int .u32 ((rd_T24 Aa Ab).f3)], .agg #[.int .i64 ((rd_T24 Aa (ji9)).f0), .int .i64 ((rd_T24 Aa (ji9)).f1), .int .i64 ((rd_T24 Aa (ji9)).f2), .int .u32 ((rd_T24 Aa (ji9)).f3)]] (by rfl) rfl rfl (by (try simp only [List.map_toArray, List.map_cons, List.map_nil]); first | done | (simp only [hji9]; rfl) | rfl | (simp only [List.length_drop, List.length_take]; rfl)) ?_
     with_reducible refine (point_Order_1.calls ((rd_T24 Aa Ab).f0) ((rd_T24 Aa Ab).f1) ((rd_T24 Aa Ab).f2) ((rd_T24 Aa Ab).f3) ((rd_T24 Aa (ji9)).f0) ((rd_T24 Aa (ji9)).f1) ((rd_T24 Aa (ji9)).f2) ((rd_T24 Aa (ji9)).f3) t117 _ A12.out).mono ?_
     rintro e w18 ⟨rfl, hb⟩
     have HS0_ := (hb.cell (World.block_lt_of_cell? _ _ (hHeld.1))).trans (hHeld.1)
     have HS1_ := (hb.cell (World.block_lt_of_cell? _ _ (hHeld.2.1))).trans (hHeld.2.1)
     have HS2_ := (hb.cell (World.block_lt_of_cell? _ _ (hHeld.2.2.1))).trans (hHeld.2.2.1)
     have HS3_ := (hb.cell (World.block_lt_of_cell? _ _ (hHeld.2.2.2.1))).trans (hHeld.2.2.2.1)
     have HS4_ := (hb.cell (World.block_lt_of_cell? _ _ (hHeld.2.2.2.2.1))).trans (hHeld.2.2.2.2.1)
     have HS5_ := (hb.cell (World.block_lt_of_cell? _ _ (hHeld.2.2.2.2.2.1))).trans (hHeld.2.2.2.2.2.1)
     have HS6_ := (hb.cell (World.block_lt_of_cell? _ _ (hHeld.2.2.2.2.2.2.1))).trans (hHeld.2.2.2.2.2.2.1)
     have HS7_ := (hb.cell (World.block_lt_of_cell? _ _ (hHeld.2.2.2.2.2.2.2))).trans (hHeld.2.2.2.2.2.2.2)
     refine ⟨_, rfl, ?_⟩
     replace Ad := bRa Ad hb
     replace HK := Am (Kept.below (S := (fun k_ => P0_ k_)) (by repeat (first | (with_reducible first | exact HK.out | apply Kept.alloc | apply Kept.drewN | apply Kept.drew) | exact HK.out)) hb)
     replace HB := Am (below_step (pB HB.out) hb)
     (try clear hb)
     (try clear hb2)
     (try clear hk)
     (try clear hi)
     refine hK.out _ _ ⟨HS0_, HS1_, HS2_, HS3_, HS4_, HS5_, HS6_, HS7_⟩ (fun hHeld => ?_)
     clear hK K
     refine norm_ (a' := ?_) ?_ ?_
     rotate_left
     ·show Act.put _ (some 32) _ = _
      simp only [Act.put, List.setIfInBounds_toArray, List.set_cons_zero, List.set_cons_succ, i64_w, i32_w]
      rfl
     refine pui 15 33 17 65535 HT_ ?_
     refine pui 16 34 17 131071 HT_ ?_
     refine done_ (done_of HT_.out (by kernel_rfl)) ?_
     try go_wp2
     replace Ad := dRa Ad
     replace HK := Am (Kept.drew HK.out)
     replace HB := bDa HB
     have p118 : 0 ≤ ((ji9) : Int) := of_decide_eq_true pS
     have q118 : (ji9) < (Aa.length : Int) := of_decide_eq_true pS
     obtain ⟨Ba, e118, Ao, Ap, Aq, Ar⟩ := at_T24 (Kd.R_reads' Ad.out).2.2 (ji9) p118 q118
     obtain rfl : Ac = Ba := (by injection e118)
     replace p118 := eq_true p118
     replace q118 := eq_true q118
     have p119 : 0 ≤ (Ab : Int) := of_decide_eq_true pS
     have q119 : Ab < (Aa.length : Int) := of_decide_eq_true pS
     obtain ⟨Bb, e119, As, At, Au, Av⟩ := at_T24 (Kd.R_reads' Ad.out).2.2 Ab p119 q119
     obtain rfl : Ac = Bb := (by injection e119)
     replace p119 := eq_true p119
     replace q119 := eq_true q119
     have p14 : 0 ≤ (Ab : Int) := of_decide_eq_true pS
     have q14 : (Ab : Int) < ((Aa.length : Int) : Int) := of_decide_eq_true pS
     obtain ⟨go14, co14, A7, A8, gl14, cl14, HG14⟩ := Kd.R_form Ad.out (by omega)
     (first | cases A7 | (injection A7 with ea_ en_ ec_; (first | subst ea_ | (injection ea_ with ea_; subst ea_)); subst ec_; clear en_))
     have GB14 := Am A8
     have GG14 := Am HG14
     clear A8 gl14 HG14
     have HMgo14 := Am (show (P0_ go14 ∨ w.heap.size ≤ go14) from (Ad.out.1 _ rfl))
     (first | simp only [add_plain] at Ae | skip)
     (first | simp only [add_plain] at Af | skip)
     (first | simp only [add_plain] at Ag | skip)
     (first | simp only [add_plain] at Ah | skip)
     (first | simp only [add_plain] at Ai | skip)
     (first | simp only [add_plain] at Aj | skip)
     (first | simp only [add_plain] at Ak | skip)
     (first | simp only [add_plain] at Al | skip)
     (first | simp only [add_plain] at Ao | skip)
     (first | simp only [add_plain] at Ap | skip)
     (first | simp only [add_plain] at Aq | skip)
     (first | simp only [add_plain] at Ar | skip)
     (first | simp only [add_plain] at As | skip)
     (first | simp only [add_plain] at At | skip)
     (first | simp only [add_plain] at Au | skip)
     (first | simp only [add_plain] at Av | skip)
     obtain ⟨ce14, hcl14, hM14, hcc14, hfr14⟩ := Kd.R_elem Ad.out z24 (Ab : Int) p14 q14
     obtain rfl := k24_openM hM14
     have Ax : World.cell? _ ⟨go14, (Ab : Int).toNat * 4, none⟩ = some (.int .i64 ((rd_T24 Aa Ab).f0)) := hcc14 0 _ rfl
     have Ay : World.cell? _ ⟨go14, (Ab : Int).toNat * 4 + 1, none⟩ = some (.int .i64 ((rd_T24 Aa Ab).f1)) := hcc14 1 _ rfl
     have Az : World.cell? _ ⟨go14, (Ab : Int).toNat * 4 + 2, none⟩ = some (.int .i64 ((rd_T24 Aa Ab).f2)) := hcc14 2 _ rfl
     have A0 : World.cell? _ ⟨go14, (Ab : Int).toNat * 4 + 3, none⟩ = some (.int .u32 ((rd_T24 Aa Ab).f3)) := hcc14 3 _ rfl
     have hf14_0 : World.frozen? _ ⟨go14, (Ab : Int).toNat * 4, none⟩ = false := hfr14 0
     have hf14_1 : World.frozen? _ ⟨go14, (Ab : Int).toNat * 4 + 1, none⟩ = false := hfr14 1
     have hf14_2 : World.frozen? _ ⟨go14, (Ab : Int).toNat * 4 + 2, none⟩ = false := hfr14 2
     have hf14_3 : World.frozen? _ ⟨go14, (Ab : Int).toNat * 4 + 3, none⟩ = false := hfr14 3
     clear hcl14 hcc14 hfr14 hM14
     replace p14 := eq_true p14
     replace q14 := eq_true q14
     obtain ⟨ce20, hcl20, hM20, hcc20, hfr20⟩ := Kd.R_elem Ad.out z24 (Ab : Int) (of_decide_eq_true pS) (by have h_ : (Ab : Int) < ((Aa.length : Int) : Int) := of_decide_eq_true pS; first | exact h_ | (have e_ := (Kd.R_reads' Ad.out).1; omega) | simpa using h_)
     obtain rfl := k24_openM hM20
     have HP20 := (Kd.R_seg Ad.out (Ab : Int) (of_decide_eq_true pS) (by have h_ : (Ab : Int) < ((Aa.length : Int) : Int) := of_decide_eq_true pS; first | exact h_ | (have e_ := (Kd.R_reads' Ad.out).1; omega) | simpa using h_) (seg := [.int .i64 ((rd_T24 Aa (ji9)).f0), .int .i64 ((rd_T24 Aa (ji9)).f1), .int .i64 ((rd_T24 Aa (ji9)).f2), .int .u32 ((rd_T24 Aa (ji9)).f3)]) (j := 0) hcl20 hcc20 (show 4 ≤ 4 from by decide) (x' := (⟨(rd_T24 Aa (ji9)).f0, (rd_T24 Aa (ji9)).f1, (rd_T24 Aa (ji9)).f2, (rd_T24 Aa (ji9)).f3⟩ : S24)) (k24_mkM _ _ _ (⟨(rd_T24 Aa (ji9)).f0, (rd_T24 Aa (ji9)).f1, (rd_T24 Aa (ji9)).f2, (rd_T24 Aa (ji9)).f3⟩ : S24) ) (fun _ hk => hk)).1
     rw [← Ny120.out] at HP20
     have HQ20 := Am HP20
     clear hcl20 hcc20 hfr20 hM20 HP20
     have p15 : 0 ≤ ((ji9) : Int) := of_decide_eq_true pS
     have q15 : ((ji9) : Int) < ((Aa.length : Int) : Int) := of_decide_eq_true pS
     obtain ⟨ce15, hcl15, hM15, hcc15, hfr15⟩ := Kd.R_elem HQ20.out z24 ((ji9) : Int) p15 q15
     obtain rfl := k24_openM hM15
     have A1 : World.cell? _ ⟨go14, ((ji9) : Int).toNat * 4, none⟩ = some (.int .i64 ((rd_T24 y120 (ji9)).f0)) := hcc15 0 _ rfl
     have A2 : World.cell? _ ⟨go14, ((ji9) : Int).toNat * 4 + 1, none⟩ = some (.int .i64 ((rd_T24 y120 (ji9)).f1)) := hcc15 1 _ rfl
     have A3 : World.cell? _ ⟨go14, ((ji9) : Int).toNat * 4 + 2, none⟩ = some (.int .i64 ((rd_T24 y120 (ji9)).f2)) := hcc15 2 _ rfl
     have A4 : World.cell? _ ⟨go14, ((ji9) : Int).toNat * 4 + 3, none⟩ = some (.int .u32 ((rd_T24 y120 (ji9)).f3)) := hcc15 3 _ rfl
     have hf15_0 : World.frozen? _ ⟨go14, ((ji9) : Int).toNat * 4, none⟩ = false := hfr15 0
     have hf15_1 : World.frozen? _ ⟨go14, ((ji9) : Int).toNat * 4 + 1, none⟩ = false := hfr15 1
     have hf15_2 : World.frozen? _ ⟨go14, ((ji9) : Int).toNat * 4 + 2, none⟩ = false := hfr15 2
     have hf15_3 : World.frozen? _ ⟨go14, ((ji9) : Int).toNat * 4 + 3, none⟩ = false := hfr15 3
     clear hcl15 hcc15 hfr15 hM15
     replace p15 := eq_true p15
     replace q15 := eq_true q15
     obtain ⟨ce21, hcl21, hM21, hcc21, hfr21⟩ := Kd.R_elem HQ20.out z24 ((ji9) : Int) (of_decide_eq_true pS) (by have h_ : ((ji9) : Int) < ((Aa.length : Int) : Int) := of_decide_eq_true pS; first | exact h_ | (have e_ := (Kd.R_reads' Ad.out).1; omega) | simpa using h_)
     obtain rfl := k24_openM hM21
     have HP21 := (Kd.R_seg HQ20.out ((ji9) : Int) (of_decide_eq_true pS) (by have h_ : ((ji9) : Int) < ((Aa.length : Int) : Int) := of_decide_eq_true pS; first | exact h_ | (have e_ := (Kd.R_reads' Ad.out).1; omega) | simpa using h_) (seg := [.int .i64 ((rd_T24 Aa Ab).f0), .int .i64 ((rd_T24 Aa Ab).f1), .int .i64 ((rd_T24 Aa Ab).f2), .int .u32 ((rd_T24 Aa Ab).f3)]) (j := 0) hcl21 hcc21 (show 4 ≤ 4 from by decide) (x' := (⟨(rd_T24 Aa Ab).f0, (rd_T24 Aa Ab).f1, (rd_T24 Aa Ab).f2, (rd_T24 Aa Ab).f3⟩ : S24)) (k24_mkM _ _ _ (⟨(rd_T24 Aa Ab).f0, (rd_T24 Aa Ab).f1, (rd_T24 Aa Ab).f2, (rd_T24 Aa Ab).f3⟩ : S24) ) (fun _ hk => hk)).1
     rw [← Ny121.out] at HP21
     have HQ21 := Am HP21
     clear hcl21 hcc21 hfr21 hM21 HP21
     refine start_ (n := 18) (S := fun w' => w'.cell? ⟨go14, (((ji9)).toNat * 4), none⟩ = some (.int .i64 ((rd_T24 Aa (ji9)).f0)) ∧ w'.cell? ⟨go14, (((ji9)).toNat * 4) + 1, none⟩ = some (.int .i64 ((rd_T24 Aa (ji9)).f1)) ∧ w'.cell? ⟨go14, (((ji9)).toNat * 4) + 2, none⟩ = some (.int .i64 ((rd_T24 Aa (ji9)).f2)) ∧ w'.cell? ⟨go14, (((ji9)).toNat * 4) + 3, none⟩ = some (.int .u32 ((rd_T24 Aa (ji9)).f3)) ∧ w'.cell? ⟨go14, ((Ab).toNat * 4), none⟩ = some (.int .i64 ((rd_T24 Aa Ab).f0)) ∧ w'.cell? ⟨go14, ((Ab).toNat * 4) + 1, none⟩ = some (.int .i64 ((rd_T24 Aa Ab).f1)) ∧ w'.cell? ⟨go14, ((Ab).toNat * 4) + 2, none⟩ = some (.int .i64 ((rd_T24 Aa Ab).f2)) ∧ w'.cell? ⟨go14, ((Ab).toNat * 4) + 3, none⟩ = some (.int .u32 ((rd_T24 Aa Ab).f3))) (ds := [15, 17]) #[false, false, false, false, false, false, false, false, false, false, false, false, false, false, false, false, false, false] (by kernel_rfl) rfl rfl ⟨Ao, Ap, Aq, Ar, As, At, Au, Av⟩ (fun hHeld => ?_); refine with_tabW slices_insertionSortCmpFunc_api_Point.tab6 slices_insertionSortCmpFunc_api_Point.bits6 (fun HT_ HW_ => ?_)
     (first | generalize w18.drew = w19 at Ad HK HB GG14 HQ20 HQ21 hf14_0 hf14_1 hf14_2 hf14_3 hf15_0 hf15_1 hf15_2 hf15_3 Ae Af Ag Ah Ai Aj Ak Al Ao Ap Aq Ar As At Au Av Ax Ay Az A0 A1 A2 A3 A4 hHeld ⊢ | generalize w18.drew = w19 at HK HB GG14 HQ20 HQ21 hf14_0 hf14_1 hf14_2 hf14_3 hf15_0 hf15_1 hf15_2 hf15_3 Ae Af Ag Ah Ai Aj Ak Al Ao Ap Aq Ar As At Au Av Ax Ay Az A0 A1 A2 A3 A4 hHeld ⊢)
     refine pui 0 37 18 1 HT_ ?_
     refine pui 1 38 18 3 HT_ ?_
     refine pui 2 39 18 7 HT_ ?_
     refine pui 3 40 18 15 HT_ ?_
     refine pui 4 41 18 31 HT_ ?_
     refine pui 5 42 18 63 HT_ ?_
     refine pui 6 43 18 127 HT_ ?_
     refine pui 7 44 18 255 HT_ ?_
     refine pui 8 45 18 511 HT_ ?_
     refine pui 10 47 18 1535 HT_ ?_
     refine pui 11 48 18 3583 HT_ ?_
     refine pui 12 49 18 7679 HT_ ?_
     refine tki 9 46 18 8191 HT_ HW_ hHeld ?_
     refine tki 13 50 18 16383 HT_ HW_ hHeld ?_
     refine pui 14 51 18 32767 HT_ ?_
     refine last_ (i := 15) (N := none) (bw 18 65535) rfl rfl (one_of HT_.out (by kernel_rfl)) (by decide) (fun K hK => ?_)
     refine skip_ (w1 := ?_) (by rfl) rfl ?_ ?_
     rotate_left
     ·go_simp
      rfl
     refine hK.out _ _ ?_
     clear hK K
     refine pui 16 52 18 131071 HT_ ?_
     have A1_ := A1
     have A2_ := A2
     have A3_ := A3
     have A4_ := A4
     simp [go_sem, World.setCells, show k24.sz = 4 from rfl] at A1_ A2_ A3_ A4_
     simp only [World.frozen?_setCells] at hf15_0 hf15_1 hf15_2 hf15_3
     refine last_ (i := 17) (N := none) (bw 18 262143) rfl rfl (one_of HT_.out (by kernel_rfl)) (by decide) (fun K hK => ?_)
     refine skip_ (w1 := ?_) (by rfl) rfl ?_ ?_
     rotate_left
     ·go_simp
      rfl
     refine hK.out _ _ ?_
     clear hK K
     refine done_ (done_of HT_.out (by kernel_rfl)) ?_
     try go_wp2
     go_roundg k2
     case measure => have := HK1.out; have := HK2.out; omega
     case rel => exact ⟨(y121), (ji9), (by first | rfl | (simp; done) | (simp only [← hji9] <;> (first | rfl | simp)) | (simp [*]; done)), H', ⟨by have := HK1.out; have := HK2.out; omega⟩, ⟨by (with_reducible repeat (first | apply Kd.R_alloc | apply Kd.R_drewN | apply Kd.R_drew)); exact HQ21.out⟩, ⟨by repeat (first | (with_reducible first | exact HK.out | apply Kept.alloc | apply Kept.drewN | apply Kept.drew | refine Kept.setCell ?_ HMgo14.out _ | refine Kept.setCell ?_ HMgo14.out _ | refine Kept.setCell ?_ HMgo14.out _ | refine Kept.setCell ?_ HMgo14.out _ | refine Kept.setCell ?_ HMgo14.out _ | refine Kept.setCell ?_ HMgo14.out _ | refine Kept.setCell ?_ HMgo14.out _ | refine Kept.setCell ?_ HMgo14.out _) | exact HK.out)⟩, ⟨pE8 HB.out GB14.out GB14.out GB14.out GB14.out GB14.out GB14.out GB14.out GB14.out⟩⟩
def slices_swapRangeCmpFunc_api_Point.l0 : Nat → List (S24) → Int → Int → Int → Int → Option ((List (S24)))
 | 0, _, _, _, _, _ => none
 | k + 1, x0, x1, x2, x3, x10 => if x10 < x3 then (if 0 ≤ (wrap64 (x2 + x10)) then (if (wrap64 (x2 + x10)) < (x0.length : Int) then (if 0 ≤ (wrap64 (x1 + x10)) then (if (wrap64 (x1 + x10)) < (x0.length : Int) then (slices_swapRangeCmpFunc_api_Point.l0 k ((x0.set ((wrap64 (x1 + x10)) : Int).toNat (⟨(rd_T24 x0 (wrap64 (x2 + x10))).f0, (rd_T24 x0 (wrap64 (x2 + x10))).f1, (rd_T24 x0 (wrap64 (x2 + x10))).f2, (rd_T24 x0 (wrap64 (x2 + x10))).f3⟩ : S24)).set ((wrap64 (x2 + x10)) : Int).toNat (⟨(rd_T24 x0 (wrap64 (x1 + x10))).f0, (rd_T24 x0 (wrap64 (x1 + x10))).f1, (rd_T24 x0 (wrap64 (x1 + x10))).f2, (rd_T24 x0 (wrap64 (x1 + x10))).f3⟩ : S24)) x1 x2 x3 (wrap64 (x10 + 1))) else (none)) else (none)) else (none)) else (none)) else (some x0)
def slices_swapRangeCmpFunc_api_Point.f (k : Nat) (l0 : List (S24)) (a1 : Int) (a2 : Int) (a3 : Int)  : Option ((List (S24))) := slices_swapRangeCmpFunc_api_Point.l0 k l0 a1 a2 a3 0
theorem slices_swapRangeCmpFunc_api_Point.mono_l : ∀ k, (∀ y0 y1 y2 y3 y4, LeO (slices_swapRangeCmpFunc_api_Point.l0 k y0 y1 y2 y3 y4) (slices_swapRangeCmpFunc_api_Point.l0 (k + 1) y0 y1 y2 y3 y4))
 | 0 => fun _ _ _ _ _ r h => by simp [slices_swapRangeCmpFunc_api_Point.l0] at h
 | k + 1 => by
  have ih0 := slices_swapRangeCmpFunc_api_Point.mono_l k
  ·intro y0 y1 y2 y3 y4
   unfold slices_swapRangeCmpFunc_api_Point.l0
   repeat' first
   | (with_reducible exact ih0 _ _ _ _ _)
   | (with_reducible exact LeO.refl _)
   | (with_reducible exact LeO.none _)
   | (with_reducible refine LeO.ite ?_ ?_)
   | (with_reducible refine LeO.bind ?_ (fun _ => ?_))
   | exact ih0 _ _ _ _ _
   | exact LeO.none _
   | refine LeO.ite ?_ ?_
   | refine LeO.bind ?_ (fun _ => ?_)
theorem slices_swapRangeCmpFunc_api_Point.mono : ∀ a0 a1 a2 a3 k, LeO (slices_swapRangeCmpFunc_api_Point.f k a0 a1 a2 a3) (slices_swapRangeCmpFunc_api_Point.f (k + 1) a0 a1 a2 a3) := by
 intro a0 a1 a2 a3 k
 have ih0 := slices_swapRangeCmpFunc_api_Point.mono_l k
 unfold slices_swapRangeCmpFunc_api_Point.f
 repeat' first
   | (with_reducible exact ih0 _ _ _ _ _)
   | (with_reducible exact LeO.refl _)
   | (with_reducible exact LeO.none _)
   | (with_reducible refine LeO.ite ?_ ?_)
   | (with_reducible refine LeO.bind ?_ (fun _ => ?_))
   | exact ih0 _ _ _ _ _
   | exact LeO.none _
   | refine LeO.ite ?_ ?_
   | refine LeO.bind ?_ (fun _ => ?_)
def slices_swapRangeCmpFunc_api_Point.T3 : Bool × List (List Nat × List Nat) := (true, [([], []), ([], []), ([], []), ([1, 2], [1, 2]), ([], []), ([], []), ([], []), ([5, 6], [5, 6]), ([], []), ([], []), ([], []), ([9, 10], [9, 10]), ([8, 11], [8, 11]), ([12], [12]), ([], []), ([], []), ([], []), ([15, 16], [15, 16]), ([14, 17], [14, 17]), ([18], [18]), ([0, 3, 0, 1, 2, 3, 8, 9, 10, 11, 12, 13, 19], [0, 3]), ([20, 13, 0, 1, 2, 3, 8, 9, 10, 11, 12, 13, 19], [13, 20]), ([4, 7, 0, 1, 2, 3, 4, 5, 6, 7, 8, 9, 10, 11, 12, 13, 14, 15, 16, 17, 18, 19, 20, 21], [4, 7]), ([22, 19, 21, 0, 1, 2, 3, 4, 5, 6, 7, 8, 9, 10, 11, 12, 13, 14, 15, 16, 17, 18, 19, 20, 21], [19, 22])])
def slices_swapRangeCmpFunc_api_Point.B3 : List Nat := [0, 0, 0, 6, 0, 0, 0, 96, 0, 0, 0, 1536, 3840, 7936, 0, 0, 0, 98304, 245760, 507904, 1048335, 2096911, 4194303, 8388607]
theorem slices_swapRangeCmpFunc_api_Point.tab3 : rtab .any (opsOf Try.f75 3) = slices_swapRangeCmpFunc_api_Point.T3 := by kernel_rfl
theorem slices_swapRangeCmpFunc_api_Point.bits3 : waitsOk slices_swapRangeCmpFunc_api_Point.T3.2 slices_swapRangeCmpFunc_api_Point.B3 = true := by kernel_rfl
set_option maxHeartbeats 8000000 in
set_option maxRecDepth 100000 in
theorem slices_swapRangeCmpFunc_api_Point.calls (k : Nat) (P0_ : Nat → Prop) (u9000_ : Value) (l0 : List (S24)) (a1 : Int) (a2 : Int) (a3 : Int)  (r : List (S24)) (w0 w : World) (hB : Below w0.heap.size w0 w) (ho0 : Kd.R k24 24 w w0.heap.size P0_ u9000_ l0) (h : slices_swapRangeCmpFunc_api_Point.f k l0 a1 a2 a3 = some r) :
  Calls Try.prog 75 #[u9000_, .int .i64 a1, .int .i64 a2, .int .i64 a3, .func (.func 48) #[] #[]] w fun e w' => e = .returned (.tuple #[]) ∧ Kd.R k24 24 w' w0.heap.size (fun k_ => (P0_ k_ ∨ w.heap.size ≤ k_)) u9000_ r ∧ Below w0.heap.size w0 w' ∧ Kept w w' (fun k_ => P0_ k_) := by
 have hu24 := Try.underlying24
 have Az := Am (show Kd.R k24 24 w w0.heap.size (fun k_ => (P0_ k_ ∨ w.heap.size ≤ k_)) u9000_ l0 from Kd.R_mono ho0 (fun k_ hk => (.inl hk)))
 have HK := Am (Kept.refl w (fun k_ => P0_ k_))
 have HW0 := Am hB.size
 have HB := Am hB
 clear hB
 have H : (slices_swapRangeCmpFunc_api_Point.l0 k l0 a1 a2 a3 0) = some r := h
 clear h
 have H' := Am H
 clear H
 go_enter Try.func75, Try.ntmps75
 go_wp2
 go_loopg [10] k (fun kq v10 w' => ∃ (Aa : List (S24)) (Ab : Int), v10 = .int .i64 Ab ∧ Aside0 (slices_swapRangeCmpFunc_api_Point.l0 kq Aa a1 a2 a3 Ab = some r) ∧ Aside0 (kq ≤ k) ∧ Aside0 (Kd.R k24 24 w' w0.heap.size (fun k_ => (P0_ k_ ∨ w.heap.size ≤ k_)) u9000_ Aa) ∧ Aside0 (Kept w w' (fun k_ => P0_ k_)) ∧ Aside0 (Below w0.heap.size w0 w'))
 case atStart => exact ⟨(l0), (0), (by first | rfl | (simp; done) | (simp [*]; done)), H', ⟨Nat.le_refl _⟩, ⟨by (with_reducible repeat (first | apply Kd.R_alloc | apply Kd.R_drewN | apply Kd.R_drew)); exact Az.out⟩, ⟨by repeat (first | (with_reducible first | exact HK.out | apply Kept.alloc | apply Kept.drewN | apply Kept.drew) | exact HK.out)⟩, ⟨pB HB.out⟩⟩
 case round =>
  clear H'
  try clear p2
  obtain ⟨Aa, Ab, rfl, HA, HK1, Ad, HK, HB⟩ := hrel
  cases gk with
  | zero => exact absurd HA.out (by simp [slices_swapRangeCmpFunc_api_Point.l0])
  | succ k1 =>
   have H := HA.out
   clear HA
   simp only [slices_swapRangeCmpFunc_api_Point.l0] at H
   by_cases c6 : Ab < a3
   rotate_left
   ·rw [if_neg c6] at H
    have c6b0 : decide (Ab < a3) = false := decide_eq_false c6
    clear c6
    obtain rfl := Option.some.inj H
    go_wp2
    first | go_end0 | ((try simp only [Exit.inBlock, Exit.then]); refine bodyPost_ret (results_none rfl _ _ _) rfl ?_)
    exact ⟨pX, by (with_reducible repeat (first | apply Kd.R_alloc | apply Kd.R_drewN | apply Kd.R_drew)); exact Ad.out, pB HB.out, by repeat (first | (with_reducible first | exact HK.out | apply Kept.alloc | apply Kept.drewN | apply Kept.drew) | exact HK.out)⟩
   rw [if_pos c6] at H
   have c6b0 : decide (Ab < a3) = true := decide_eq_true c6
   clear c6
   obtain ⟨ji7, hji7⟩ : ∃ j_ : Int, (wrap64 (a2 + Ab)) = j_ := ⟨_, rfl⟩
   replace H : (if 0 ≤ (ji7) then (if (ji7) < (Aa.length : Int) then (if 0 ≤ (wrap64 (a1 + Ab)) then (if (wrap64 (a1 + Ab)) < (Aa.length : Int) then (slices_swapRangeCmpFunc_api_Point.l0 k1 ((Aa.set ((wrap64 (a1 + Ab)) : Int).toNat (⟨(rd_T24 Aa (ji7)).f0, (rd_T24 Aa (ji7)).f1, (rd_T24 Aa (ji7)).f2, (rd_T24 Aa (ji7)).f3⟩ : S24)).set ((ji7) : Int).toNat (⟨(rd_T24 Aa (wrap64 (a1 + Ab))).f0, (rd_T24 Aa (wrap64 (a1 + Ab))).f1, (rd_T24 Aa (wrap64 (a1 + Ab))).f2, (rd_T24 Aa (wrap64 (a1 + Ab))).f3⟩ : S24)) a1 a2 a3 (wrap64 (Ab + 1))) else (none)) else (none)) else (none)) else (none)) = some r := by first | (rw [hji7] at H; exact H) | (simp only [hji7] at H ⊢; exact H)
   have hji7w : (IntKind.i64.wrap (a2 + Ab)) = ji7 := (i64_w _).trans hji7
   by_cases c8 : 0 ≤ (ji7)
   rotate_left
   ·rw [if_neg c8] at H
    exact absurd H (by simp)
   rw [if_pos c8] at H
   have c8b0 : decide (0 ≤ (ji7)) = true := decide_eq_true c8
   clear c8
   by_cases c9 : (ji7) < (Aa.length : Int)
   rotate_left
   ·rw [if_neg c9] at H
    exact absurd H (by simp)
   rw [if_pos c9] at H
   have c9b0 : decide ((ji7) < (Aa.length : Int)) = true := decide_eq_true c9
   clear c9
   obtain ⟨ji10, hji10⟩ : ∃ j_ : Int, (wrap64 (a1 + Ab)) = j_ := ⟨_, rfl⟩
   replace H : (if 0 ≤ (ji10) then (if (ji10) < (Aa.length : Int) then (slices_swapRangeCmpFunc_api_Point.l0 k1 ((Aa.set ((ji10) : Int).toNat (⟨(rd_T24 Aa (ji7)).f0, (rd_T24 Aa (ji7)).f1, (rd_T24 Aa (ji7)).f2, (rd_T24 Aa (ji7)).f3⟩ : S24)).set ((ji7) : Int).toNat (⟨(rd_T24 Aa (ji10)).f0, (rd_T24 Aa (ji10)).f1, (rd_T24 Aa (ji10)).f2, (rd_T24 Aa (ji10)).f3⟩ : S24)) a1 a2 a3 (wrap64 (Ab + 1))) else (none)) else (none)) = some r := by first | (rw [hji10] at H; exact H) | (simp only [hji10] at H ⊢; exact H)
   have hji10w : (IntKind.i64.wrap (a1 + Ab)) = ji10 := (i64_w _).trans hji10
   by_cases c11 : 0 ≤ (ji10)
   rotate_left
   ·rw [if_neg c11] at H
    exact absurd H (by simp)
   rw [if_pos c11] at H
   have c11b0 : decide (0 ≤ (ji10)) = true := decide_eq_true c11
   clear c11
   by_cases c12 : (ji10) < (Aa.length : Int)
   rotate_left
   ·rw [if_neg c12] at H
    exact absurd H (by simp)
   rw [if_pos c12] at H
   have c12b0 : decide ((ji10) < (Aa.length : Int)) = true := decide_eq_true c12
   clear c12
   obtain ⟨y124, hy124⟩ : ∃ y_ : List (S24), y_ = (Aa.set ((ji10) : Int).toNat (⟨(rd_T24 Aa (ji7)).f0, (rd_T24 Aa (ji7)).f1, (rd_T24 Aa (ji7)).f2, (rd_T24 Aa (ji7)).f3⟩ : S24)) := ⟨_, rfl⟩
   replace H : (slices_swapRangeCmpFunc_api_Point.l0 k1 (y124.set ((ji7) : Int).toNat (⟨(rd_T24 Aa (ji10)).f0, (rd_T24 Aa (ji10)).f1, (rd_T24 Aa (ji10)).f2, (rd_T24 Aa (ji10)).f3⟩ : S24)) a1 a2 a3 (wrap64 (Ab + 1))) = some r := by first | (rw [hy124]; with_reducible exact H) | (have H2_ := (Option.bind_some _ _).symm.trans H; rw [hy124]; with_reducible exact H2_) | (have H2_ := (Option.bind_some _ _).symm.trans H; with_reducible exact H2_) | with_reducible exact H | (rw [hy124]; exact H) | exact H
   have Ny124 := Am hy124
   clear hy124
   obtain ⟨y125, hy125⟩ : ∃ y_ : List (S24), y_ = (y124.set ((ji7) : Int).toNat (⟨(rd_T24 Aa (ji10)).f0, (rd_T24 Aa (ji10)).f1, (rd_T24 Aa (ji10)).f2, (rd_T24 Aa (ji10)).f3⟩ : S24)) := ⟨_, rfl⟩
   replace H : (slices_swapRangeCmpFunc_api_Point.l0 k1 y125 a1 a2 a3 (wrap64 (Ab + 1))) = some r := by first | (rw [hy125]; with_reducible exact H) | (have H2_ := (Option.bind_some _ _).symm.trans H; rw [hy125]; with_reducible exact H2_) | (have H2_ := (Option.bind_some _ _).symm.trans H; with_reducible exact H2_) | with_reducible exact H | (rw [hy125]; exact H) | exact H
   have Ny125 := Am hy125
   clear hy125
   have H' := Am H
   clear H
   try go_wp2
   replace Ad := dRa Ad
   replace HK := Am (Kept.drew HK.out)
   replace HB := bDa HB
   obtain ⟨Ao16, co16, Av⟩ := Kd.R_slice Ad.out
   (first | subst Av | (injection Av with f1_ f2_ f3_; have f4_ := f1_.symm; have f5_ := f3_.symm; clear f1_ f2_ f3_; subst f4_; subst f5_))
   have p122 : 0 ≤ ((ji7) : Int) := of_decide_eq_true pS
   have q122 : (ji7) < (Aa.length : Int) := of_decide_eq_true pS
   obtain ⟨Ac, e122, Ae, Af, Ag, Ah⟩ := at_T24 (Kd.R_reads' Ad.out).2.2 (ji7) p122 q122
   cases e122
   replace p122 := eq_true p122
   replace q122 := eq_true q122
   have p123 : 0 ≤ ((ji10) : Int) := of_decide_eq_true pS
   have q123 : (ji10) < (Aa.length : Int) := of_decide_eq_true pS
   obtain ⟨Ay, e123, Ai, Aj, Ak, Al⟩ := at_T24 (Kd.R_reads' Ad.out).2.2 (ji10) p123 q123
   obtain rfl : Ac = Ay := (by injection e123)
   replace p123 := eq_true p123
   replace q123 := eq_true q123
   have p13 : 0 ≤ ((ji10) : Int) := of_decide_eq_true pS
   have q13 : ((ji10) : Int) < ((Aa.length : Int) : Int) := of_decide_eq_true pS
   obtain ⟨go13, co13, Aw, Ax, gl13, cl13, HG13⟩ := Kd.R_form Ad.out (by omega)
   (first | cases Aw | (injection Aw with ea_ en_ ec_; (first | subst ea_ | (injection ea_ with ea_; subst ea_)); subst ec_; clear en_))
   have GB13 := Am Ax
   have GG13 := Am HG13
   clear Ax gl13 HG13
   have HMgo13 := Am (show (P0_ go13 ∨ w.heap.size ≤ go13) from (Ad.out.1 _ rfl))
   (first | simp only [add_plain] at Ae | skip)
   (first | simp only [add_plain] at Af | skip)
   (first | simp only [add_plain] at Ag | skip)
   (first | simp only [add_plain] at Ah | skip)
   (first | simp only [add_plain] at Ai | skip)
   (first | simp only [add_plain] at Aj | skip)
   (first | simp only [add_plain] at Ak | skip)
   (first | simp only [add_plain] at Al | skip)
   obtain ⟨ce13, hcl13, hM13, hcc13, hfr13⟩ := Kd.R_elem Ad.out z24 ((ji10) : Int) p13 q13
   obtain rfl := k24_openM hM13
   have An : World.cell? _ ⟨go13, ((ji10) : Int).toNat * 4, none⟩ = some (.int .i64 ((rd_T24 Aa (ji10)).f0)) := hcc13 0 _ rfl
   have Ao : World.cell? _ ⟨go13, ((ji10) : Int).toNat * 4 + 1, none⟩ = some (.int .i64 ((rd_T24 Aa (ji10)).f1)) := hcc13 1 _ rfl
   have Ap : World.cell? _ ⟨go13, ((ji10) : Int).toNat * 4 + 2, none⟩ = some (.int .i64 ((rd_T24 Aa (ji10)).f2)) := hcc13 2 _ rfl
   have Aq : World.cell? _ ⟨go13, ((ji10) : Int).toNat * 4 + 3, none⟩ = some (.int .u32 ((rd_T24 Aa (ji10)).f3)) := hcc13 3 _ rfl
   have hf13_0 : World.frozen? _ ⟨go13, ((ji10) : Int).toNat * 4, none⟩ = false := hfr13 0
   have hf13_1 : World.frozen? _ ⟨go13, ((ji10) : Int).toNat * 4 + 1, none⟩ = false := hfr13 1
   have hf13_2 : World.frozen? _ ⟨go13, ((ji10) : Int).toNat * 4 + 2, none⟩ = false := hfr13 2
   have hf13_3 : World.frozen? _ ⟨go13, ((ji10) : Int).toNat * 4 + 3, none⟩ = false := hfr13 3
   clear hcl13 hcc13 hfr13 hM13
   replace p13 := eq_true p13
   replace q13 := eq_true q13
   obtain ⟨ce17, hcl17, hM17, hcc17, hfr17⟩ := Kd.R_elem Ad.out z24 ((ji10) : Int) (of_decide_eq_true pS) (by have h_ : ((ji10) : Int) < ((Aa.length : Int) : Int) := of_decide_eq_true pS; first | exact h_ | (have e_ := (Kd.R_reads' Ad.out).1; omega) | simpa using h_)
   obtain rfl := k24_openM hM17
   have HP17 := (Kd.R_seg Ad.out ((ji10) : Int) (of_decide_eq_true pS) (by have h_ : ((ji10) : Int) < ((Aa.length : Int) : Int) := of_decide_eq_true pS; first | exact h_ | (have e_ := (Kd.R_reads' Ad.out).1; omega) | simpa using h_) (seg := [.int .i64 ((rd_T24 Aa (ji7)).f0), .int .i64 ((rd_T24 Aa (ji7)).f1), .int .i64 ((rd_T24 Aa (ji7)).f2), .int .u32 ((rd_T24 Aa (ji7)).f3)]) (j := 0) hcl17 hcc17 (show 4 ≤ 4 from by decide) (x' := (⟨(rd_T24 Aa (ji7)).f0, (rd_T24 Aa (ji7)).f1, (rd_T24 Aa (ji7)).f2, (rd_T24 Aa (ji7)).f3⟩ : S24)) (k24_mkM _ _ _ (⟨(rd_T24 Aa (ji7)).f0, (rd_T24 Aa (ji7)).f1, (rd_T24 Aa (ji7)).f2, (rd_T24 Aa (ji7)).f3⟩ : S24) ) (fun _ hk => hk)).1
   rw [← Ny124.out] at HP17
   have HQ17 := Am HP17
   clear hcl17 hcc17 hfr17 hM17 HP17
   have p14 : 0 ≤ ((ji7) : Int) := of_decide_eq_true pS
   have q14 : ((ji7) : Int) < ((Aa.length : Int) : Int) := of_decide_eq_true pS
   obtain ⟨ce14, hcl14, hM14, hcc14, hfr14⟩ := Kd.R_elem HQ17.out z24 ((ji7) : Int) p14 q14
   obtain rfl := k24_openM hM14
   have Ar : World.cell? _ ⟨go13, ((ji7) : Int).toNat * 4, none⟩ = some (.int .i64 ((rd_T24 y124 (ji7)).f0)) := hcc14 0 _ rfl
   have As : World.cell? _ ⟨go13, ((ji7) : Int).toNat * 4 + 1, none⟩ = some (.int .i64 ((rd_T24 y124 (ji7)).f1)) := hcc14 1 _ rfl
   have At : World.cell? _ ⟨go13, ((ji7) : Int).toNat * 4 + 2, none⟩ = some (.int .i64 ((rd_T24 y124 (ji7)).f2)) := hcc14 2 _ rfl
   have Au : World.cell? _ ⟨go13, ((ji7) : Int).toNat * 4 + 3, none⟩ = some (.int .u32 ((rd_T24 y124 (ji7)).f3)) := hcc14 3 _ rfl
   have hf14_0 : World.frozen? _ ⟨go13, ((ji7) : Int).toNat * 4, none⟩ = false := hfr14 0
   have hf14_1 : World.frozen? _ ⟨go13, ((ji7) : Int).toNat * 4 + 1, none⟩ = false := hfr14 1
   have hf14_2 : World.frozen? _ ⟨go13, ((ji7) : Int).toNat * 4 + 2, none⟩ = false := hfr14 2
   have hf14_3 : World.frozen? _ ⟨go13, ((ji7) : Int).toNat * 4 + 3, none⟩ = false := hfr14 3
   clear hcl14 hcc14 hfr14 hM14
   replace p14 := eq_true p14
   replace q14 := eq_true q14
   obtain ⟨ce18, hcl18, hM18, hcc18, hfr18⟩ := Kd.R_elem HQ17.out z24 ((ji7) : Int) (of_decide_eq_true pS) (by have h_ : ((ji7) : Int) < ((Aa.length : Int) : Int) := of_decide_eq_true pS; first | exact h_ | (have e_ := (Kd.R_reads' Ad.out).1; omega) | simpa using h_)
   obtain rfl := k24_openM hM18
   have HP18 := (Kd.R_seg HQ17.out ((ji7) : Int) (of_decide_eq_true pS) (by have h_ : ((ji7) : Int) < ((Aa.length : Int) : Int) := of_decide_eq_true pS; first | exact h_ | (have e_ := (Kd.R_reads' Ad.out).1; omega) | simpa using h_) (seg := [.int .i64 ((rd_T24 Aa (ji10)).f0), .int .i64 ((rd_T24 Aa (ji10)).f1), .int .i64 ((rd_T24 Aa (ji10)).f2), .int .u32 ((rd_T24 Aa (ji10)).f3)]) (j := 0) hcl18 hcc18 (show 4 ≤ 4 from by decide) (x' := (⟨(rd_T24 Aa (ji10)).f0, (rd_T24 Aa (ji10)).f1, (rd_T24 Aa (ji10)).f2, (rd_T24 Aa (ji10)).f3⟩ : S24)) (k24_mkM _ _ _ (⟨(rd_T24 Aa (ji10)).f0, (rd_T24 Aa (ji10)).f1, (rd_T24 Aa (ji10)).f2, (rd_T24 Aa (ji10)).f3⟩ : S24) ) (fun _ hk => hk)).1
   rw [← Ny125.out] at HP18
   have HQ18 := Am HP18
   clear hcl18 hcc18 hfr18 hM18 HP18
   refine start_ (n := 24) (S := fun w' => w'.cell? ⟨go13, (((ji7)).toNat * 4), none⟩ = some (.int .i64 ((rd_T24 Aa (ji7)).f0)) ∧ w'.cell? ⟨go13, (((ji7)).toNat * 4) + 1, none⟩ = some (.int .i64 ((rd_T24 Aa (ji7)).f1)) ∧ w'.cell? ⟨go13, (((ji7)).toNat * 4) + 2, none⟩ = some (.int .i64 ((rd_T24 Aa (ji7)).f2)) ∧ w'.cell? ⟨go13, (((ji7)).toNat * 4) + 3, none⟩ = some (.int .u32 ((rd_T24 Aa (ji7)).f3)) ∧ w'.cell? ⟨go13, (((ji10)).toNat * 4), none⟩ = some (.int .i64 ((rd_T24 Aa (ji10)).f0)) ∧ w'.cell? ⟨go13, (((ji10)).toNat * 4) + 1, none⟩ = some (.int .i64 ((rd_T24 Aa (ji10)).f1)) ∧ w'.cell? ⟨go13, (((ji10)).toNat * 4) + 2, none⟩ = some (.int .i64 ((rd_T24 Aa (ji10)).f2)) ∧ w'.cell? ⟨go13, (((ji10)).toNat * 4) + 3, none⟩ = some (.int .u32 ((rd_T24 Aa (ji10)).f3))) (ds := [21, 23]) #[false, false, false, false, false, false, false, false, false, false, false, false, false, false, false, false, false, false, false, false, false, false, false, false] (by kernel_rfl) rfl rfl ⟨Ae, Af, Ag, Ah, Ai, Aj, Ak, Al⟩ (fun hHeld => ?_); refine with_tabW slices_swapRangeCmpFunc_api_Point.tab3 slices_swapRangeCmpFunc_api_Point.bits3 (fun HT_ HW_ => ?_)
   (first | generalize wr.drew = w15 at Ad HK HB GG13 HQ17 HQ18 hf13_0 hf13_1 hf13_2 hf13_3 hf14_0 hf14_1 hf14_2 hf14_3 Ae Af Ag Ah Ai Aj Ak Al An Ao Ap Aq Ar As At Au hHeld ⊢ | generalize wr.drew = w15 at HK HB GG13 HQ17 HQ18 hf13_0 hf13_1 hf13_2 hf13_3 hf14_0 hf14_1 hf14_2 hf14_3 Ae Af Ag Ah Ai Aj Ak Al An Ao Ap Aq Ar As At Au hHeld ⊢)
   refine pui 0 16 24 1 HT_ ?_
   refine pui 1 17 24 3 HT_ ?_
   refine pui 2 18 24 7 HT_ ?_
   refine pui 3 19 24 15 HT_ ?_
   refine pui 4 20 24 31 HT_ ?_
   refine pui 5 21 24 63 HT_ ?_
   refine pui 6 22 24 127 HT_ ?_
   refine pui 7 23 24 255 HT_ ?_
   refine pui 8 24 24 511 HT_ ?_
   refine pui 9 25 24 1023 HT_ ?_
   refine pui 10 26 24 2047 HT_ ?_
   refine pui 11 27 24 4095 HT_ ?_
   refine pui 12 28 24 8191 HT_ ?_
   refine pui 14 30 24 24575 HT_ ?_
   refine pui 15 31 24 57343 HT_ ?_
   refine pui 16 32 24 122879 HT_ ?_
   refine pui 17 33 24 253951 HT_ ?_
   refine pui 18 34 24 516095 HT_ ?_
   refine tki 13 29 24 524287 HT_ HW_ hHeld ?_
   refine tki 19 35 24 1048575 HT_ HW_ hHeld ?_
   refine pui 20 36 24 2097151 HT_ ?_
   refine last_ (i := 21) (N := none) (bw 24 4194303) rfl rfl (one_of HT_.out (by kernel_rfl)) (by decide) (fun K hK => ?_)
   refine skip_ (w1 := ?_) (by rfl) rfl ?_ ?_
   rotate_left
   ·go_simp
    rfl
   refine hK.out _ _ ?_
   clear hK K
   refine pui 22 37 24 8388607 HT_ ?_
   have Ar_ := Ar
   have As_ := As
   have At_ := At
   have Au_ := Au
   simp [go_sem, World.setCells, show k24.sz = 4 from rfl] at Ar_ As_ At_ Au_
   simp only [World.frozen?_setCells] at hf14_0 hf14_1 hf14_2 hf14_3
   refine last_ (i := 23) (N := none) (bw 24 16777215) rfl rfl (one_of HT_.out (by kernel_rfl)) (by decide) (fun K hK => ?_)
   refine skip_ (w1 := ?_) (by rfl) rfl ?_ ?_
   rotate_left
   ·go_simp
    rfl
   refine hK.out _ _ ?_
   clear hK K
   refine done_ (done_of HT_.out (by kernel_rfl)) ?_
   try go_wp2
   go_roundg k1
   case measure => have := HK1.out; omega
   case rel => exact ⟨(y125), (wrap64 (Ab + 1)), (by first | rfl | (simp; done) | (simp [*]; done)), H', ⟨by have := HK1.out; omega⟩, ⟨by (with_reducible repeat (first | apply Kd.R_alloc | apply Kd.R_drewN | apply Kd.R_drew)); exact HQ18.out⟩, ⟨by repeat (first | (with_reducible first | exact HK.out | apply Kept.alloc | apply Kept.drewN | apply Kept.drew | refine Kept.setCell ?_ HMgo13.out _ | refine Kept.setCell ?_ HMgo13.out _ | refine Kept.setCell ?_ HMgo13.out _ | refine Kept.setCell ?_ HMgo13.out _ | refine Kept.setCell ?_ HMgo13.out _ | refine Kept.setCell ?_ HMgo13.out _ | refine Kept.setCell ?_ HMgo13.out _ | refine Kept.setCell ?_ HMgo13.out _) | exact HK.out)⟩, ⟨pE8 HB.out GB13.out GB13.out GB13.out GB13.out GB13.out GB13.out GB13.out GB13.out⟩⟩
def slices_rotateCmpFunc_api_Point.l0 : Nat → List (S24) → Int → Int → Int → Option ((List (S24)))
 | 0, _, _, _, _ => none
 | k + 1, x0, x2, x10, x11 => if x10 = x11 then ((slices_swapRangeCmpFunc_api_Point.f k x0 (wrap64 (x2 - x10)) x2 x10).bind fun t126 => (some t126)) else (if x10 > x11 then ((slices_swapRangeCmpFunc_api_Point.f k x0 (wrap64 (x2 - x10)) x2 x11).bind fun t127 => (slices_rotateCmpFunc_api_Point.l0 k t127 x2 (wrap64 (x10 - x11)) x11)) else ((slices_swapRangeCmpFunc_api_Point.f k x0 (wrap64 (x2 - x10)) (wrap64 ((wrap64 (x2 + x11)) - x10)) x10).bind fun t128 => (slices_rotateCmpFunc_api_Point.l0 k t128 x2 x10 (wrap64 (x11 - x10)))))
def slices_rotateCmpFunc_api_Point.f (k : Nat) (l0 : List (S24)) (a1 : Int) (a2 : Int) (a3 : Int)  : Option ((List (S24))) := slices_rotateCmpFunc_api_Point.l0 k l0 a2 (wrap64 (a2 - a1)) (wrap64 (a3 - a2))
theorem slices_rotateCmpFunc_api_Point.mono_l : ∀ k, (∀ y0 y1 y2 y3, LeO (slices_rotateCmpFunc_api_Point.l0 k y0 y1 y2 y3) (slices_rotateCmpFunc_api_Point.l0 (k + 1) y0 y1 y2 y3))
 | 0 => fun _ _ _ _ r h => by simp [slices_rotateCmpFunc_api_Point.l0] at h
 | k + 1 => by
  have ih0 := slices_rotateCmpFunc_api_Point.mono_l k
  ·intro y0 y1 y2 y3
   unfold slices_rotateCmpFunc_api_Point.l0
   repeat' first
   | (with_reducible exact ih0 _ _ _ _)
   | (with_reducible exact slices_swapRangeCmpFunc_api_Point.mono _ _ _ _ _)
   | (with_reducible exact LeO.refl _)
   | (with_reducible exact LeO.none _)
   | (with_reducible refine LeO.ite ?_ ?_)
   | (with_reducible refine LeO.bind ?_ (fun _ => ?_))
   | exact ih0 _ _ _ _
   | exact slices_swapRangeCmpFunc_api_Point.mono _ _ _ _ _
   | exact LeO.none _
   | refine LeO.ite ?_ ?_
   | refine LeO.bind ?_ (fun _ => ?_)
theorem slices_rotateCmpFunc_api_Point.mono : ∀ a0 a1 a2 a3 k, LeO (slices_rotateCmpFunc_api_Point.f k a0 a1 a2 a3) (slices_rotateCmpFunc_api_Point.f (k + 1) a0 a1 a2 a3) := by
 intro a0 a1 a2 a3 k
 have ih0 := slices_rotateCmpFunc_api_Point.mono_l k
 unfold slices_rotateCmpFunc_api_Point.f
 repeat' first
   | (with_reducible exact ih0 _ _ _ _)
   | (with_reducible exact slices_swapRangeCmpFunc_api_Point.mono _ _ _ _ _)
   | (with_reducible exact LeO.refl _)
   | (with_reducible exact LeO.none _)
   | (with_reducible refine LeO.ite ?_ ?_)
   | (with_reducible refine LeO.bind ?_ (fun _ => ?_))
   | exact ih0 _ _ _ _
   | exact slices_swapRangeCmpFunc_api_Point.mono _ _ _ _ _
   | exact LeO.none _
   | refine LeO.ite ?_ ?_
   | refine LeO.bind ?_ (fun _ => ?_)
set_option maxHeartbeats 8000000 in
set_option maxRecDepth 100000 in
theorem slices_rotateCmpFunc_api_Point.calls (k : Nat) (P0_ : Nat → Prop) (u9000_ : Value) (l0 : List (S24)) (a1 : Int) (a2 : Int) (a3 : Int)  (r : List (S24)) (w0 w : World) (hB : Below w0.heap.size w0 w) (ho0 : Kd.R k24 24 w w0.heap.size P0_ u9000_ l0) (h : slices_rotateCmpFunc_api_Point.f k l0 a1 a2 a3 = some r) :
  Calls Try.prog 69 #[u9000_, .int .i64 a1, .int .i64 a2, .int .i64 a3, .func (.func 48) #[] #[]] w fun e w' => e = .returned (.tuple #[]) ∧ Kd.R k24 24 w' w0.heap.size (fun k_ => (P0_ k_ ∨ w.heap.size ≤ k_)) u9000_ r ∧ Below w0.heap.size w0 w' ∧ Kept w w' (fun k_ => P0_ k_) := by
 have Ap := Am (show Kd.R k24 24 w w0.heap.size (fun k_ => (P0_ k_ ∨ w.heap.size ≤ k_)) u9000_ l0 from Kd.R_mono ho0 (fun k_ hk => (.inl hk)))
 have HK := Am (Kept.refl w (fun k_ => P0_ k_))
 have HW0 := Am hB.size
 have HB := Am hB
 clear hB
 have H : (slices_rotateCmpFunc_api_Point.l0 k l0 a2 (wrap64 (a2 - a1)) (wrap64 (a3 - a2))) = some r := h
 clear h
 have H' := Am H
 clear H
 go_enter Try.func69, Try.ntmps69
 go_wp2
 go_loopg [10, 11] k (fun kq v10 v11 w' => ∃ (Ad : List (S24)) (Aa : Int) (Ab : Int), v10 = .int .i64 Aa ∧ v11 = .int .i64 Ab ∧ Aside0 (slices_rotateCmpFunc_api_Point.l0 kq Ad a2 Aa Ab = some r) ∧ Aside0 (kq ≤ k) ∧ Aside0 (Kd.R k24 24 w' w0.heap.size (fun k_ => (P0_ k_ ∨ w.heap.size ≤ k_)) u9000_ Ad) ∧ Aside0 (Kept w w' (fun k_ => P0_ k_)) ∧ Aside0 (Below w0.heap.size w0 w'))
 case atStart => exact ⟨(l0), (wrap64 (a2 - a1)), (wrap64 (a3 - a2)), (by first | rfl | (simp; done) | (simp [*]; done)), (by first | rfl | (simp; done) | (simp [*]; done)), H', ⟨Nat.le_refl _⟩, ⟨by (with_reducible repeat (first | apply Kd.R_alloc | apply Kd.R_drewN | apply Kd.R_drew)); exact Ap.out⟩, ⟨by repeat (first | (with_reducible first | exact HK.out | apply Kept.alloc | apply Kept.drewN | apply Kept.drew) | exact HK.out)⟩, ⟨pB HB.out⟩⟩
 case round =>
  clear H'
  try clear p2
  obtain ⟨Ad, Aa, Ab, rfl, rfl, HA, HK1, Ac, HK, HB⟩ := hrel
  cases gk with
  | zero => exact absurd HA.out (by simp [slices_rotateCmpFunc_api_Point.l0])
  | succ k1 =>
   have H := HA.out
   clear HA
   simp only [slices_rotateCmpFunc_api_Point.l0] at H
   by_cases c6 : Aa = Ab
   ·rw [if_pos c6] at H
    have c6b0 : (Aa == Ab) = true := beq_iff_eq.mpr c6
    have c6b1 : (Aa != Ab) = false := bne_eq_false_iff_eq.mpr c6
    clear c6
    replace H := Option.bind_eq_some_iff.mp H
    obtain ⟨t126, A70, H⟩ := H
    replace H : (some t126) = some r := H
    have A7 := Am A70
    clear A70
    obtain rfl := Option.some.inj H
    obtain ⟨Ak, Al, Aq⟩ := Kd.R_slice Ac.out
    subst Aq
    go_wp2_with (first | ((with_reducible refine gate_callee (f := 75) rfl ?_); refine goesL_ (some 57) rfl rfl Try.func75 (by kernel_rfl) rfl #[.slice Ak Ad.length Al, .int .i64 (wrap64 (a2 - Aa)), .int .i64 a2, .int .i64 Aa, .func (.func 48) #[] #[]] rfl pL ?_; (with_reducible refine (slices_swapRangeCmpFunc_api_Point.calls k1 (fun k_ => some k_ = (.slice Ak Ad.length Al : Value).ownBlock) (.slice Ak Ad.length Al) Ad (wrap64 (a2 - Aa)) a2 Aa t126 w0 _ ?Ae ?Af A7.out).mono ?_); (case Ae => repeat (first | (with_reducible first | exact HB.out | apply below_alloc | apply pw_below_drewN | apply below_drew1) | exact HB.out)); (case Af => exact Kd.R_tight rfl Ac.out); rintro e w9 ⟨rfl, hy0, hb, hkp⟩; refine ⟨_, rfl, ?_⟩; replace HK := Am (Kept.then_ (S := (fun k_ => P0_ k_)) (by repeat (first | (with_reducible first | exact HK.out | apply Kept.alloc | apply Kept.drewN | apply Kept.drew) | exact HK.out)) hkp (fun k_ hs_ => (fun e_ => (Ac.out.1 k_ e_.symm)) hs_)); replace Ac := Am (Kd.R_reok rfl hy0 (fun k_ e_ => Ac.out.1 k_ e_)); replace HB := Am (hb); (try clear hb); (try clear hkp); (try clear hy0)))
    first | go_end0 | ((try simp only [Exit.inBlock, Exit.then]); refine bodyPost_ret (results_none rfl _ _ _) rfl ?_)
    exact ⟨pX, by (with_reducible repeat (first | apply Kd.R_alloc | apply Kd.R_drewN | apply Kd.R_drew)); exact Ac.out, pB HB.out, by repeat (first | (with_reducible first | exact HK.out | apply Kept.alloc | apply Kept.drewN | apply Kept.drew) | exact HK.out)⟩
   rw [if_neg c6] at H
   have c6b0 : (Aa == Ab) = false := beq_eq_false_iff_ne.mpr c6
   have c6b1 : (Aa != Ab) = true := bne_iff_ne.mpr c6
   by_cases c10 : Aa > Ab
   ·rw [if_pos c10] at H
    have c10b0 : decide (Ab < Aa) = true := decide_eq_true c10
    clear c10
    replace H := Option.bind_eq_some_iff.mp H
    obtain ⟨t127, A110, H⟩ := H
    replace H : (slices_rotateCmpFunc_api_Point.l0 k1 t127 a2 (wrap64 (Aa - Ab)) Ab) = some r := H
    have A11 := Am A110
    clear A110
    have H' := Am H
    clear H
    obtain ⟨Ag, Ah, An⟩ := Kd.R_slice Ac.out
    subst An
    go_wp2_with (first | ((with_reducible refine gate_callee (f := 75) rfl ?_); refine goesL_ (some 31) rfl rfl Try.func75 (by kernel_rfl) rfl #[.slice Ag Ad.length Ah, .int .i64 (wrap64 (a2 - Aa)), .int .i64 a2, .int .i64 Ab, .func (.func 48) #[] #[]] rfl pL ?_; (with_reducible refine (slices_swapRangeCmpFunc_api_Point.calls k1 (fun k_ => some k_ = (.slice Ag Ad.length Ah : Value).ownBlock) (.slice Ag Ad.length Ah) Ad (wrap64 (a2 - Aa)) a2 Ab t127 w0 _ ?Ae ?Af A11.out).mono ?_); (case Ae => repeat (first | (with_reducible first | exact HB.out | apply below_alloc | apply pw_below_drewN | apply below_drew1) | exact HB.out)); (case Af => exact Kd.R_tight rfl Ac.out); rintro e w13 ⟨rfl, hy0, hb, hkp⟩; refine ⟨_, rfl, ?_⟩; replace HK := Am (Kept.then_ (S := (fun k_ => P0_ k_)) (by repeat (first | (with_reducible first | exact HK.out | apply Kept.alloc | apply Kept.drewN | apply Kept.drew) | exact HK.out)) hkp (fun k_ hs_ => (fun e_ => (Ac.out.1 k_ e_.symm)) hs_)); replace Ac := Am (Kd.R_reok rfl hy0 (fun k_ e_ => Ac.out.1 k_ e_)); replace HB := Am (hb); (try clear hb); (try clear hkp); (try clear hy0)))
    go_roundg k1
    case measure => have := HK1.out; omega
    case rel => exact ⟨(t127), (wrap64 (Aa - Ab)), (Ab), (by first | rfl | (simp; done) | (simp [*]; done)), (by first | rfl | (simp; done) | (simp [*]; done)), H', ⟨by have := HK1.out; omega⟩, ⟨by (with_reducible repeat (first | apply Kd.R_alloc | apply Kd.R_drewN | apply Kd.R_drew)); exact Ac.out⟩, ⟨by repeat (first | (with_reducible first | exact HK.out | apply Kept.alloc | apply Kept.drewN | apply Kept.drew) | exact HK.out)⟩, ⟨pB HB.out⟩⟩
   rw [if_neg c10] at H
   have c10b0 : decide (Ab < Aa) = false := decide_eq_false c10
   clear c10
   replace H := Option.bind_eq_some_iff.mp H
   obtain ⟨t128, A140, H⟩ := H
   replace H : (slices_rotateCmpFunc_api_Point.l0 k1 t128 a2 Aa (wrap64 (Ab - Aa))) = some r := H
   have A14 := Am A140
   clear A140
   have H' := Am H
   clear H
   obtain ⟨Ai, Aj, Ao⟩ := Kd.R_slice Ac.out
   subst Ao
   go_wp2_with (first | ((with_reducible refine gate_callee (f := 75) rfl ?_); refine goesL_ (some 46) rfl rfl Try.func75 (by kernel_rfl) rfl #[.slice Ai Ad.length Aj, .int .i64 (wrap64 (a2 - Aa)), .int .i64 (wrap64 ((wrap64 (a2 + Ab)) - Aa)), .int .i64 Aa, .func (.func 48) #[] #[]] rfl pL ?_; (with_reducible refine (slices_swapRangeCmpFunc_api_Point.calls k1 (fun k_ => some k_ = (.slice Ai Ad.length Aj : Value).ownBlock) (.slice Ai Ad.length Aj) Ad (wrap64 (a2 - Aa)) (wrap64 ((wrap64 (a2 + Ab)) - Aa)) Aa t128 w0 _ ?Ae ?Af A14.out).mono ?_); (case Ae => repeat (first | (with_reducible first | exact HB.out | apply below_alloc | apply pw_below_drewN | apply below_drew1) | exact HB.out)); (case Af => exact Kd.R_tight rfl Ac.out); rintro e w16 ⟨rfl, hy0, hb, hkp⟩; refine ⟨_, rfl, ?_⟩; replace HK := Am (Kept.then_ (S := (fun k_ => P0_ k_)) (by repeat (first | (with_reducible first | exact HK.out | apply Kept.alloc | apply Kept.drewN | apply Kept.drew) | exact HK.out)) hkp (fun k_ hs_ => (fun e_ => (Ac.out.1 k_ e_.symm)) hs_)); replace Ac := Am (Kd.R_reok rfl hy0 (fun k_ e_ => Ac.out.1 k_ e_)); replace HB := Am (hb); (try clear hb); (try clear hkp); (try clear hy0)))
   go_roundg k1
   case measure => have := HK1.out; omega
   case rel => exact ⟨(t128), (Aa), (wrap64 (Ab - Aa)), (by first | rfl | (simp; done) | (simp [*]; done)), (by first | rfl | (simp; done) | (simp [*]; done)), H', ⟨by have := HK1.out; omega⟩, ⟨by (with_reducible repeat (first | apply Kd.R_alloc | apply Kd.R_drewN | apply Kd.R_drew)); exact Ac.out⟩, ⟨by repeat (first | (with_reducible first | exact HK.out | apply Kept.alloc | apply Kept.drewN | apply Kept.drew) | exact HK.out)⟩, ⟨pB HB.out⟩⟩
end
end Go.Proofs.Ytpefjfibhjnijaa.PLivePuts
