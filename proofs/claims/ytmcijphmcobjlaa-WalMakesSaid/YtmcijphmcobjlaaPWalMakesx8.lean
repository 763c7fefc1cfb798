/- What the law reaches, as plain Lean functions, and that the machine's calls answer just that. -/
import Derived.Test.YtmcijphmcobjlaaPWalMakesx0
import Derived.Test.YtmcijphmcobjlaaPWalMakesx5
namespace Go.Proofs.Ytmcijphmcobjlaa.PWalMakes
open Go.RowKit Go.Proofs.YtmcijphmcobjlaaW.PrintWords Go.Proofs.YtmcijphmcobjlaaW.PrintLast Go.Proofs.YtmcijphmcobjlaaW.PrintMore
set_option linter.unusedVariables false
set_option maxHeartbeats 8000000
set_option linter.unusedSimpArgs false
section
attribute [local go_sem] max2_int min2_int max_two min_two max_three min_three max_four min_four
attribute [local go_sem] wrap64_l1 wrap64_l2 wrap64_l3 wrap64_l4 wrap64_l5
attribute [local go_sem high] eqA50
def point_Check.f (a0_0 : Int) (a0_1 : Int) (a0_2 : Int) (a0_3 : Int) : Option (Int) := if a0_0 < 1 then (some 1) else (if a0_0 > 2147483647 then (some 1) else (if a0_1 < 0 then (some 1) else (if a0_1 > 2147483647 then (some 1) else (if a0_2 < 0 then (some 1) else (if a0_2 > 4096 then (some 1) else (some 0))))))
set_option maxRecDepth 100000 in
theorem point_Check.calls (a0_0 : Int) (a0_1 : Int) (a0_2 : Int) (a0_3 : Int) (r : Int) (w : World) (h : point_Check.f a0_0 a0_1 a0_2 a0_3 = some r) :
 Calls Try.prog 68 #[.agg #[.int .i64 a0_0, .int .i64 a0_1, .int .i64 a0_2, .int .u32 a0_3]] w fun e w' => e = .returned (.int .i64 r) ∧ Below w.heap.size w w' := by
 have hu50 := Try.underlying50
 have HB := Am (Below.refl w.heap.size w)
 unfold point_Check.f at h
 have H := h
 clear h
 by_cases c2 : a0_0 < 1
 ·rw [if_pos c2] at H
  have c2b0 := decide_eq_true c2
  clear c2
  obtain rfl := Option.some.inj H
  go_enter Try.func68, Try.ntmps68
  go_wp2_with (first | ((with_reducible refine zD 1 rfl ?_); refine zE 1 #[.int .i64 a0_0, .int .i64 a0_1, .int .i64 a0_2, .int .u32 a0_3] 50 ?_; intro Ab hg w3 hbox hb; have Aa := Am (hbox); have Ac := zA hg HB; replace HB := zB HB hb; have Ad := Ac; clear hb hbox hg; obtain ⟨_, _, _, _⟩ := bc4 Aa.out; obtain ⟨_, _, _, _⟩ := bf4 Aa.out))
  go_ret
  exact ⟨pX, pE HB.out Ad.out⟩
 rw [if_neg c2] at H
 have c2b0 := decide_eq_false c2
 clear c2
 by_cases c5 : a0_0 > 2147483647
 ·rw [if_pos c5] at H
  have c5b0 : decide (2147483647 < a0_0) = true := decide_eq_true c5
  clear c5
  obtain rfl := Option.some.inj H
  go_enter Try.func68, Try.ntmps68
  go_wp2_with (first | ((with_reducible refine zD 1 rfl ?_); refine zE 1 #[.int .i64 a0_0, .int .i64 a0_1, .int .i64 a0_2, .int .u32 a0_3] 50 ?_; intro Ab hg w6 hbox hb; have Aa := Am (hbox); have Ac := zA hg HB; replace HB := zB HB hb; have Ad := Ac; clear hb hbox hg; obtain ⟨_, _, _, _⟩ := bc4 Aa.out; obtain ⟨_, _, _, _⟩ := bf4 Aa.out))
  go_ret
  exact ⟨pX, pE HB.out Ad.out⟩
 rw [if_neg c5] at H
 have c5b0 : decide (2147483647 < a0_0) = false := decide_eq_false c5
 clear c5
 by_cases c8 : a0_1 < 0
 ·rw [if_pos c8] at H
  have c8b0 := decide_eq_true c8
  clear c8
  obtain rfl := Option.some.inj H
  go_enter Try.func68, Try.ntmps68
  go_wp2_with (first | ((with_reducible refine zD 1 rfl ?_); refine zE 1 #[.int .i64 a0_0, .int .i64 a0_1, .int .i64 a0_2, .int .u32 a0_3] 50 ?_; intro Ab hg w9 hbox hb; have Aa := Am (hbox); have Ac := zA hg HB; replace HB := zB HB hb; have Ad := Ac; clear hb hbox hg; obtain ⟨_, _, _, _⟩ := bc4 Aa.out; obtain ⟨_, _, _, _⟩ := bf4 Aa.out))
  go_ret
  exact ⟨pX, pE HB.out Ad.out⟩
 rw [if_neg c8] at H
 have c8b0 := decide_eq_false c8
 clear c8
 by_cases c11 : a0_1 > 2147483647
 ·rw [if_pos c11] at H
  have c11b0 : decide (2147483647 < a0_1) = true := decide_eq_true c11
  clear c11
  obtain rfl := Option.some.inj H
  go_enter Try.func68, Try.ntmps68
  go_wp2_with (first | ((with_reducible refine zD 1 rfl ?_); refine zE 1 #[.int .i64 a0_0, .int .i64 a0_1, .int .i64 a0_2, .int .u32 a0_3] 50 ?_; intro Ab hg w12 hbox hb; have Aa := Am (hbox); have Ac := zA hg HB; replace HB := zB HB hb; have Ad := Ac; clear hb hbox hg; obtain ⟨_, _, _, _⟩ := bc4 Aa.out; obtain ⟨_, _, _, _⟩ := bf4 Aa.out))
  go_ret
  exact ⟨pX, pE HB.out Ad.out⟩
 rw [if_neg c11] at H
 have c11b0 : decide (2147483647 < a0_1) = false := decide_eq_false c11
 clear c11
 by_cases c14 : a0_2 < 0
 ·rw [if_pos c14] at H
  have c14b0 := decide_eq_true c14
  clear c14
  obtain rfl := Option.some.inj H
  go_enter Try.func68, Try.ntmps68
  go_wp2_with (first | ((with_reducible refine zD 1 rfl ?_); refine zE 1 #[.int .i64 a0_0, .int .i64 a0_1, .int .i64 a0_2, .int .u32 a0_3] 50 ?_; intro Ab hg w15 hbox hb; have Aa := Am (hbox); have Ac := zA hg HB; replace HB := zB HB hb; have Ad := Ac; clear hb hbox hg; obtain ⟨_, _, _, _⟩ := bc4 Aa.out; obtain ⟨_, _, _, _⟩ := bf4 Aa.out))
  go_ret
  exact ⟨pX, pE HB.out Ad.out⟩
 rw [if_neg c14] at H
 have c14b0 := decide_eq_false c14
 clear c14
 by_cases c17 : a0_2 > 4096
 ·rw [if_pos c17] at H
  have c17b0 : decide (4096 < a0_2) = true := decide_eq_true c17
  clear c17
  obtain rfl := Option.some.inj H
  go_enter Try.func68, Try.ntmps68
  go_wp2_with (first | ((with_reducible refine zD 1 rfl ?_); refine zE 1 #[.int .i64 a0_0, .int .i64 a0_1, .int .i64 a0_2, .int .u32 a0_3] 50 ?_; intro Ab hg w18 hbox hb; have Aa := Am (hbox); have Ac := zA hg HB; replace HB := zB HB hb; have Ad := Ac; clear hb hbox hg; obtain ⟨_, _, _, _⟩ := bc4 Aa.out; obtain ⟨_, _, _, _⟩ := bf4 Aa.out))
  go_ret
  exact ⟨pX, pE HB.out Ad.out⟩
 rw [if_neg c17] at H
 have c17b0 : decide (4096 < a0_2) = false := decide_eq_false c17
 clear c17
 obtain rfl := Option.some.inj H
 go_enter Try.func68, Try.ntmps68
 go_wp2_with (first | ((with_reducible refine zD 1 rfl ?_); refine zE 1 #[.int .i64 a0_0, .int .i64 a0_1, .int .i64 a0_2, .int .u32 a0_3] 50 ?_; intro Ab hg w20 hbox hb; have Aa := Am (hbox); have Ac := zA hg HB; replace HB := zB HB hb; have Ad := Ac; clear hb hbox hg; obtain ⟨_, _, _, _⟩ := bc4 Aa.out; obtain ⟨_, _, _, _⟩ := bf4 Aa.out))
 go_ret
 exact ⟨pX, pE HB.out Ad.out⟩
def cell_Check.f (a0_0 : Bool) (l0_1 : List Int) (a0_2 : Int) (a0_3 : Int) (a0_4 : Int) (a0_5 : Int) : Option (Int) := if a0_0 = true then (if (l0_1.length : Int) > 0 then (some 1) else ((point_Check.f a0_2 a0_3 a0_4 a0_5).bind fun t133 => (some t133))) else (if (l0_1.length : Int) > 32 then (some 1) else (if (!(a0_2 == 0) || (!(a0_3 == 0) || (!(a0_4 == 0) || (!(a0_5 == 0))))) = true then (some 1) else (some 0)))
set_option maxRecDepth 100000 in
theorem cell_Check.calls (a0_0 : Bool) (A0_1 : Option Addr) (c0_1 : Nat) (l0_1 : List Int) (a0_2 : Int) (a0_3 : Int) (a0_4 : Int) (a0_5 : Int) (r : Int) (w : World) (hr0_1 : Kd.C (Kd.int .u8) w A0_1 l0_1.length l0_1) (hc0_1 : l0_1.length ≤ c0_1) (h : cell_Check.f a0_0 l0_1 a0_2 a0_3 a0_4 a0_5 = some r) :
 Calls Try.prog 55 #[.agg #[.bool a0_0, .slice A0_1 l0_1.length c0_1, .int .i64 a0_2, .int .i64 a0_3, .int .i64 a0_4, .int .u32 a0_5]] w fun e w' => e = .returned (.int .i64 r) ∧ Below w.heap.size w w' := by
 have hu52 := Try.underlying52
 have hu50 := Try.underlying50
 have HR0_1 := Am hr0_1
 have HC0_1 := Am hc0_1
 clear hr0_1 hc0_1
 have HB := Am (Below.refl w.heap.size w)
 unfold cell_Check.f at h
 have H := h
 clear h
 by_cases c2 : a0_0 = true
 ·subst c2
  rw [if_pos rfl] at H
  by_cases c3 : (l0_1.length : Int) > 0
  ·rw [if_pos c3] at H
   have c3b0 : decide (0 < (l0_1.length : Int)) = true := decide_eq_true c3
   have c3b1 : decide (0 < l0_1.length) = true := decide_eq_true (by omega)
   clear c3
   obtain rfl := Option.some.inj H
   go_enter Try.func55, Try.ntmps55
   go_wp2_with (first | ((with_reducible refine zD 1 rfl ?_); refine zE 1 #[.bool true, .slice A0_1 l0_1.length c0_1, .int .i64 a0_2, .int .i64 a0_3, .int .i64 a0_4, .int .u32 a0_5] 52 ?_; intro Ac hg w4 hbox hb; have Aa := Am (hbox); have Ad := zA hg HB; replace HB := zB HB hb; have Ab := Ad; clear hb hbox hg; obtain ⟨_, _, _, _, _, _⟩ := bc6 Aa.out; obtain ⟨_, _, _, _, _, _⟩ := bf6 Aa.out))
   go_ret
   exact ⟨pX, pE HB.out Ab.out⟩
  rw [if_neg c3] at H
  have c3b0 : decide (0 < (l0_1.length : Int)) = false := decide_eq_false c3
  have c3b1 : decide (0 < l0_1.length) = false := decide_eq_false (by omega)
  clear c3
  obtain ⟨t133, A6, H⟩ := zb H
  obtain rfl := Option.some.inj H
  go_enter Try.func55, Try.ntmps55
  go_wp2_with (first | ((with_reducible refine zD 1 rfl ?_); refine zE 1 #[.bool true, .slice A0_1 l0_1.length c0_1, .int .i64 a0_2, .int .i64 a0_3, .int .i64 a0_4, .int .u32 a0_5] 52 ?_; intro Ac hg w7 hbox hb; have Aa := Am (hbox); have Ad := zA hg HB; replace HB := zB HB hb; have Ab := Ad; clear hb hbox hg; obtain ⟨_, _, _, _, _, _⟩ := bc6 Aa.out; obtain ⟨_, _, _, _, _, _⟩ := bf6 Aa.out) | ((with_reducible refine zC 68 rfl ?_); refine zL (some 11) Try.func68 #[.agg #[.int .i64 a0_2, .int .i64 a0_3, .int .i64 a0_4, .int .u32 a0_5]] ?_; (with_reducible refine (point_Check.calls a0_2 a0_3 a0_4 a0_5 t133 _ A6.out).mono ?_); rintro e w9 ⟨rfl, hb⟩; refine ⟨_, rfl, ?_⟩; replace Aa := kBa Aa hb; replace HB := zX1 HB Ab.out hb; (try clear hb)))
  go_ret
  exact ⟨pX, pE HB.out Ab.out⟩
 replace c2 := Bool.eq_false_iff.mpr c2
 subst c2
 rw [if_neg zF] at H
 by_cases c10 : (l0_1.length : Int) > 32
 ·rw [if_pos c10] at H
  have c10b0 : decide (32 < (l0_1.length : Int)) = true := decide_eq_true c10
  have c10b1 : decide (32 < l0_1.length) = true := decide_eq_true (by omega)
  clear c10
  obtain rfl := Option.some.inj H
  go_enter Try.func55, Try.ntmps55
  go_wp2_with (first | ((with_reducible refine zD 1 rfl ?_); refine zE 1 #[.bool false, .slice A0_1 l0_1.length c0_1, .int .i64 a0_2, .int .i64 a0_3, .int .i64 a0_4, .int .u32 a0_5] 52 ?_; intro Ac hg w11 hbox hb; have Aa := Am (hbox); have Ad := zA hg HB; replace HB := zB HB hb; have Ab := Ad; clear hb hbox hg; obtain ⟨_, _, _, _, _, _⟩ := bc6 Aa.out; obtain ⟨_, _, _, _, _, _⟩ := bf6 Aa.out))
  go_ret
  exact ⟨pX, pE HB.out Ab.out⟩
 rw [if_neg c10] at H
 have c10b0 : decide (32 < (l0_1.length : Int)) = false := decide_eq_false c10
 have c10b1 : decide (32 < l0_1.length) = false := decide_eq_false (by omega)
 clear c10
 by_cases c13 : (!(a0_2 == 0) || (!(a0_3 == 0) || (!(a0_4 == 0) || (!(a0_5 == 0))))) = true
 ·rw [if_pos c13] at H
  have c13b0 : (!(a0_2 == 0) || (!(a0_3 == 0) || (!(a0_4 == 0) || (!(a0_5 == 0))))) = true := c13
  clear c13
  obtain rfl := Option.some.inj H
  go_enter Try.func55, Try.ntmps55
  go_wp2_with (first | ((with_reducible refine zD 1 rfl ?_); refine zE 1 #[.bool false, .slice A0_1 l0_1.length c0_1, .int .i64 a0_2, .int .i64 a0_3, .int .i64 a0_4, .int .u32 a0_5] 52 ?_; intro Ac hg w14 hbox hb; have Aa := Am (hbox); have Ad := zA hg HB; replace HB := zB HB hb; have Ab := Ad; clear hb hbox hg; obtain ⟨_, _, _, _, _, _⟩ := bc6 Aa.out; obtain ⟨_, _, _, _, _, _⟩ := bf6 Aa.out))
  go_ret
  exact ⟨pX, pE HB.out Ab.out⟩
 rw [if_neg c13] at H
 have c13b0 : (!(a0_2 == 0) || (!(a0_3 == 0) || (!(a0_4 == 0) || (!(a0_5 == 0))))) = false := by simpa using c13
 clear c13
 obtain rfl := Option.some.inj H
 go_enter Try.func55, Try.ntmps55
 go_wp2_with (first | ((with_reducible refine zD 1 rfl ?_); refine zE 1 #[.bool false, .slice A0_1 l0_1.length c0_1, .int .i64 a0_2, .int .i64 a0_3, .int .i64 a0_4, .int .u32 a0_5] 52 ?_; intro Ac hg w16 hbox hb; have Aa := Am (hbox); have Ad := zA hg HB; replace HB := zB HB hb; have Ab := Ad; clear hb hbox hg; obtain ⟨_, _, _, _, _, _⟩ := bc6 Aa.out; obtain ⟨_, _, _, _, _, _⟩ := bf6 Aa.out))
 go_ret
 exact ⟨pX, pE HB.out Ab.out⟩
mutual
def entry_Check.j0 : Nat → Bool → Int → Int → Int → ByteArray → Bool → List Int → Int → Int → Int → Int → Option (Int)
 | 0, _, _, _, _, _, _, _, _, _, _, _ => none
 | k + 1, x22, x135000, x135001, x135002, x135003, x135004, x135005, x135006, x135007, x135008, x135009 => if x22 = true then (some 1) else (if (x135003.size : Int) > 64 then (entry_Check.j1 k true x135000 x135001 x135002 x135003 x135004 x135005 x135006 x135007 x135008 x135009) else (entry_Check.j1 k ((x135003.toList == ([] : List UInt8)) != (x135002 == 0)) x135000 x135001 x135002 x135003 x135004 x135005 x135006 x135007 x135008 x135009))
def entry_Check.j1 : Nat → Bool → Int → Int → Int → ByteArray → Bool → List Int → Int → Int → Int → Int → Option (Int)
 | 0, _, _, _, _, _, _, _, _, _, _, _ => none
 | k + 1, x35, x135000, x135001, x135002, x135003, x135004, x135005, x135006, x135007, x135008, x135009 => if x35 = true then (some 1) else (if x135002 = 2 then ((cell_Same.f x135004 x135005 x135006 x135007 x135008 x135009 false ([] : List Int) 0 0 0 0).bind fun t137 => (if t137 = true then ((cell_Check.f x135004 x135005 x135006 x135007 x135008 x135009).bind fun t138 => (some t138)) else (some 1))) else ((cell_Check.f x135004 x135005 x135006 x135007 x135008 x135009).bind fun t139 => (some t139)))
end
def entry_Check.f (k : Nat) (a0_0 : Int) (a0_1 : Int) (a0_2 : Int) (a0_3 : ByteArray) (a0_4 : Bool) (l0_5 : List Int) (a0_6 : Int) (a0_7 : Int) (a0_8 : Int) (a0_9 : Int) : Option (Int) := (entry_counts.f a0_0).bind fun t135 => (if t135 = true then ((entry_counts.f a0_1).bind fun t136 => (if t136 = true then (if a0_2 < 0 then (entry_Check.j0 k true a0_0 a0_1 a0_2 a0_3 a0_4 l0_5 a0_6 a0_7 a0_8 a0_9) else (entry_Check.j0 k (decide (a0_2 > 2)) a0_0 a0_1 a0_2 a0_3 a0_4 l0_5 a0_6 a0_7 a0_8 a0_9)) else (entry_Check.j0 k true a0_0 a0_1 a0_2 a0_3 a0_4 l0_5 a0_6 a0_7 a0_8 a0_9))) else (entry_Check.j0 k true a0_0 a0_1 a0_2 a0_3 a0_4 l0_5 a0_6 a0_7 a0_8 a0_9))
theorem entry_Check.mono_l : ∀ k, (∀ y0 y1 y2 y3 y4 y5 y6 y7 y8 y9 y10, LeO (entry_Check.j0 k y0 y1 y2 y3 y4 y5 y6 y7 y8 y9 y10) (entry_Check.j0 (k + 1) y0 y1 y2 y3 y4 y5 y6 y7 y8 y9 y10)) ∧ (∀ y0 y1 y2 y3 y4 y5 y6 y7 y8 y9 y10, LeO (entry_Check.j1 k y0 y1 y2 y3 y4 y5 y6 y7 y8 y9 y10) (entry_Check.j1 (k + 1) y0 y1 y2 y3 y4 y5 y6 y7 y8 y9 y10))
 | 0 => ⟨fun _ _ _ _ _ _ _ _ _ _ _ r h => by simp [entry_Check.j0] at h, fun _ _ _ _ _ _ _ _ _ _ _ r h => by simp [entry_Check.j1] at h⟩
 | k + 1 => by
  obtain ⟨ih0, ih1⟩ := entry_Check.mono_l k
  refine ⟨?_, ?_⟩
  ·intro y0 y1 y2 y3 y4 y5 y6 y7 y8 y9 y10
   unfold entry_Check.j0
   repeat' (with_reducible first | exact ih0 .. | exact ih1 .. | exact LeO.refl .. | exact LeO.none .. | refine LeO.ite ?_ ?_ | refine LeO.bind ?_ (fun _ => ?_))
  ·intro y0 y1 y2 y3 y4 y5 y6 y7 y8 y9 y10
   unfold entry_Check.j1
   repeat' (with_reducible first | exact ih0 .. | exact ih1 .. | exact LeO.refl .. | exact LeO.none .. | refine LeO.ite ?_ ?_ | refine LeO.bind ?_ (fun _ => ?_))
theorem entry_Check.mono : ∀ a0 a1 a2 a3 a4 a5 a6 a7 a8 a9 k, LeO (entry_Check.f k a0 a1 a2 a3 a4 a5 a6 a7 a8 a9) (entry_Check.f (k + 1) a0 a1 a2 a3 a4 a5 a6 a7 a8 a9) := by
 intro a0 a1 a2 a3 a4 a5 a6 a7 a8 a9 k
 obtain ⟨ih0, ih1⟩ := entry_Check.mono_l k
 unfold entry_Check.f
 repeat' (with_reducible first | exact ih0 .. | exact ih1 .. | exact LeO.refl .. | exact LeO.none .. | refine LeO.ite ?_ ?_ | refine LeO.bind ?_ (fun _ => ?_))
set_option maxRecDepth 100000 in
theorem entry_Check.calls (k : Nat) (a0_0 : Int) (a0_1 : Int) (a0_2 : Int) (a0_3 : ByteArray) (a0_4 : Bool) (A0_5 : Option Addr) (c0_5 : Nat) (l0_5 : List Int) (a0_6 : Int) (a0_7 : Int) (a0_8 : Int) (a0_9 : Int) (r : Int) (w : World) (hr0_5 : Kd.C (Kd.int .u8) w A0_5 l0_5.length l0_5) (hc0_5 : l0_5.length ≤ c0_5) (h : entry_Check.f k a0_0 a0_1 a0_2 a0_3 a0_4 l0_5 a0_6 a0_7 a0_8 a0_9 = some r) :
 Calls Try.prog 34 #[.agg #[.int .i64 a0_0, .int .i64 a0_1, .int .i64 a0_2, .string a0_3, .bool a0_4, .slice A0_5 l0_5.length c0_5, .int .i64 a0_6, .int .i64 a0_7, .int .i64 a0_8, .int .u32 a0_9]] w fun e w' => e = .returned (.int .i64 r) ∧ Below w.heap.size w w' := by
 have hu54 := Try.underlying54
 have hu52 := Try.underlying52
 have Af := Am hr0_5
 have Ag := Am hc0_5
 clear hr0_5 hc0_5
 have HB := Am (Below.refl w.heap.size w)
 unfold entry_Check.f at h
 have H := h
 clear h
 have HC2 := Am H
 clear H
 go_enter Try.func34, Try.ntmps34
 go_upto_region 1 with (first | ((with_reducible refine zD 1 rfl ?_); refine zE 1 #[.int .i64 a0_0, .int .i64 a0_1, .int .i64 a0_2, .string a0_3, .bool a0_4, .slice A0_5 l0_5.length c0_5, .int .i64 a0_6, .int .i64 a0_7, .int .i64 a0_8, .int .u32 a0_9] 54 ?_; intro B9 hg w3 hbox hb; have Aa := Am (hbox); have D0 := zA hg HB; replace HB := zB HB hb; have Ab := D0; clear hb hbox hg))
 (try simp only [Act.put, List.setIfInBounds_toArray, List.set_cons_zero, List.set_cons_succ])
 go_cut [22] (fun v22 wc => ∃ (kq : Nat) (Ah : Bool), v22 = .bool Ah ∧ Aside0 (entry_Check.j0 kq Ah a0_0 a0_1 a0_2 a0_3 a0_4 l0_5 a0_6 a0_7 a0_8 a0_9 = some r) ∧ Aside0 (kq ≤ k) ∧ Aside0 (wc.heap[B9]? = some (.cells #[.int .i64 a0_0, .int .i64 a0_1, .int .i64 a0_2, .string a0_3, .bool a0_4, (.slice A0_5 l0_5.length c0_5), .int .i64 a0_6, .int .i64 a0_7, .int .i64 a0_8, .int .u32 a0_9] 54 (0, 0))) ∧ Aside0 (Below w.heap.size w wc))
 case first =>
  have H := HC2.out
  clear HC2
  obtain ⟨t135, A4, H⟩ := zb H
  by_cases c5 : t135 = true
  rotate_left
  ·replace c5 := Bool.eq_false_iff.mpr c5
   subst c5
   rw [if_neg zF] at H
   have H' := Am H
   clear H
   obtain ⟨Bp, Bq, Br, Bs, Bt, Bu, Bv, Bw, Bx, By⟩ := bc10 Aa.out
   obtain ⟨Bz, B0, B1, B2, B3, B4, B5, B6, B7, B8⟩ := bf10 Aa.out
   go_wp2_with (first | ((with_reducible refine zC 53 rfl ?_); refine zL (some 5) Try.func53 #[.int .i64 a0_0] ?_; (with_reducible refine (entry_counts.calls a0_0 false _ A4.out).mono ?_); rintro e w' ⟨rfl, ⟨nd, rfl⟩⟩; refine ⟨_, rfl, ?_⟩))
   go_meet
   case rel => exact ⟨_, (true), zr, H', ⟨zo⟩, ⟨pK Aa.out⟩, ⟨pE HB.out Ab.out⟩⟩
  subst c5
  rw [if_pos rfl] at H
  obtain ⟨t136, A6, H⟩ := zb H
  by_cases c7 : t136 = true
  rotate_left
  ·replace c7 := Bool.eq_false_iff.mpr c7
   subst c7
   rw [if_neg zF] at H
   have H' := Am H
   clear H
   obtain ⟨A3, A5, A7, A8, A9, Ba, Bb, Bc, Bd, Be⟩ := bc10 Aa.out
   obtain ⟨Bf, Bg, Bh, Bi, Bj, Bk, Bl, Bm, Bn, Bo⟩ := bf10 Aa.out
   go_wp2_with (first | ((with_reducible refine zC 53 rfl ?_); refine zL (some 5) Try.func53 #[.int .i64 a0_0] ?_; (with_reducible refine (entry_counts.calls a0_0 true _ A4.out).mono ?_); rintro e w' ⟨rfl, ⟨nd, rfl⟩⟩; refine ⟨_, rfl, ?_⟩) | (go_at_call 53; (with_reducible refine (entry_counts.calls a0_1 false _ A6.out).mono ?_); rintro e w' ⟨rfl, ⟨nd, rfl⟩⟩))
   go_meet
   case rel => exact ⟨_, (true), zr, H', ⟨zo⟩, ⟨pK Aa.out⟩, ⟨pE HB.out Ab.out⟩⟩
  subst c7
  rw [if_pos rfl] at H
  by_cases c8 : a0_2 < 0
  ·rw [if_pos c8] at H
   have c8b0 := decide_eq_true c8
   clear c8
   (first | rw [c8b0] | (simp only [i64_w, i32_w]; rw [c8b0]) | skip)
   have H' := Am H
   clear H
   obtain ⟨Cc, Cd, Ce, Cf, Cg, Ch, Ci, Cj, Ck, Cl⟩ := bc10 Aa.out
   obtain ⟨Cm, Cn, Co, Cp, Cq, Cr, Cs, Ct, Cu, Cv⟩ := bf10 Aa.out
   go_wp2_with (first | ((with_reducible refine zC 53 rfl ?_); refine zL (some 5) Try.func53 #[.int .i64 a0_0] ?_; (with_reducible refine (entry_counts.calls a0_0 true _ A4.out).mono ?_); rintro e w' ⟨rfl, ⟨nd, rfl⟩⟩; refine ⟨_, rfl, ?_⟩) | (go_at_call 53; (with_reducible refine (entry_counts.calls a0_1 true _ A6.out).mono ?_); rintro e w' ⟨rfl, ⟨nd, rfl⟩⟩))
   go_meet
   case rel => exact ⟨_, (true), zr, H', ⟨zo⟩, ⟨pK Aa.out⟩, ⟨pE HB.out Ab.out⟩⟩
  rw [if_neg c8] at H
  have c8b0 := decide_eq_false c8
  clear c8
  (first | rw [c8b0] | (simp only [i64_w, i32_w]; rw [c8b0]) | skip)
  have H' := Am H
  clear H
  obtain ⟨Ai, Aj, Ak, Al, An, Ao, Ap, Aq, Ar, As⟩ := bc10 Aa.out
  obtain ⟨At, Au, Av, Aw, Ax, Ay, Az, A0, A1, A2⟩ := bf10 Aa.out
  go_wp2_with (first | ((with_reducible refine zC 53 rfl ?_); refine zL (some 5) Try.func53 #[.int .i64 a0_0] ?_; (with_reducible refine (entry_counts.calls a0_0 true _ A4.out).mono ?_); rintro e w' ⟨rfl, ⟨nd, rfl⟩⟩; refine ⟨_, rfl, ?_⟩) | (go_at_call 53; (with_reducible refine (entry_counts.calls a0_1 true _ A6.out).mono ?_); rintro e w' ⟨rfl, ⟨nd, rfl⟩⟩))
  go_meet
  case rel => exact ⟨_, (decide (a0_2 > 2)), zr, H', ⟨zo⟩, ⟨pK Aa.out⟩, ⟨pE HB.out Ab.out⟩⟩
 case rest =>
  clear HC2
  try clear p2
  try clear c3
  try clear c5
  try clear c7
  try clear c8
  try clear c8b0
  try clear Ai Aj Ak Al An Ao Ap Aq Ar As
  try clear A3 A5 A7 A8 A9 Ba Bb Bc Bd Be
  try clear Bp Bq Br Bs Bt Bu Bv Bw Bx By
  try clear Cc Cd Ce Cf Cg Ch Ci Cj Ck Cl
  try clear At Au Av Aw Ax Ay Az A0 A1 A2
  try clear Bf Bg Bh Bi Bj Bk Bl Bm Bn Bo
  try clear Bz B0 B1 B2 B3 B4 B5 B6 B7 B8
  try clear Cm Cn Co Cp Cq Cr Cs Ct Cu Cv
  obtain ⟨kq, Ah, rfl, HA, HJ1, Aa, HB⟩ := hcut
  cases kq with
  | zero => exact absurd HA.out (by simp [entry_Check.j0])
  | succ kj1 =>
   have H := HA.out
   clear HA
   simp only [entry_Check.j0] at H
   by_cases c13 : Ah = true
   ·subst c13
    rw [if_pos rfl] at H
    obtain rfl := Option.some.inj H
    go_wp2
    go_ret
    exact ⟨pX, pE HB.out Ab.out⟩
   replace c13 := Bool.eq_false_iff.mpr c13
   subst c13
   rw [if_neg zF] at H
   have HC14 := Am H
   clear H
   go_upto_region 3 with (fail)
   go_cut [35] (fun v35 wc => ∃ (kq : Nat) (Ae : Bool), v35 = .bool Ae ∧ Aside0 (entry_Check.j1 kq Ae a0_0 a0_1 a0_2 a0_3 a0_4 l0_5 a0_6 a0_7 a0_8 a0_9 = some r) ∧ Aside0 (kq ≤ kj1) ∧ Aside0 (wc.heap[B9]? = some (.cells #[.int .i64 a0_0, .int .i64 a0_1, .int .i64 a0_2, .string a0_3, .bool a0_4, (.slice A0_5 l0_5.length c0_5), .int .i64 a0_6, .int .i64 a0_7, .int .i64 a0_8, .int .u32 a0_9] 54 (0, 0))) ∧ Aside0 (Below w.heap.size w wc))
   case first =>
    have H := HC14.out
    clear HC14
    by_cases c15 : (a0_3.size : Int) > 64
    ·rw [if_pos c15] at H
     have c15b0 : decide (64 < (a0_3.size : Int)) = true := decide_eq_true c15
     have c15b1 : decide (64 < a0_3.size) = true := decide_eq_true (by omega)
     clear c15
     (first | rw [c15b0] | (simp only [i64_w, i32_w]; rw [c15b0]) | skip)
     have H' := Am H
     clear H
     obtain ⟨Cw, Cx, Cy, Cz, C0, C1, C2, C3, C4, C5⟩ := bc10 Aa.out
     obtain ⟨C6, C7, C8, C9, Da, Db, Dc, Dd, De, Df⟩ := bf10 Aa.out
     go_wp2
     go_meet
     case rel => exact ⟨_, (true), zr, H', ⟨by have := HJ1.out; first | omega | exact Nat.le_refl _⟩, ⟨pK Aa.out⟩, ⟨pE HB.out Ab.out⟩⟩
    rw [if_neg c15] at H
    have c15b0 : decide (64 < (a0_3.size : Int)) = false := decide_eq_false c15
    have c15b1 : decide (64 < a0_3.size) = false := decide_eq_false (by omega)
    clear c15
    (first | rw [c15b0] | (simp only [i64_w, i32_w]; rw [c15b0]) | skip)
    have H' := Am H
    clear H
    obtain ⟨Dg, Dh, Di, Dj, Dk, Dl, Dm, Dn, Do, Dp⟩ := bc10 Aa.out
    obtain ⟨Dq, Dr, Ds, Dt, Du, Dv, Dw, Dx, Dy, Dz⟩ := bf10 Aa.out
    go_wp2
    go_meet
    case rel => exact ⟨_, (((a0_3.toList == ([] : List UInt8)) != (a0_2 == 0))), (by first | rfl | (simp; done) | (simp [*]; done) | (simp; generalize List.isEmpty _ = p_; generalize (a0_2 == 0) = q_; revert p_ q_; decide)), H', ⟨by have := HJ1.out; first | omega | exact Nat.le_refl _⟩, ⟨pK Aa.out⟩, ⟨pE HB.out Ab.out⟩⟩
   case rest =>
    clear HC14
    try clear c1
    try clear p2
    try clear c3
    try clear c5
    try clear c7
    try clear c8
    try clear c8b0
    try clear c13
    try clear c15
    try clear c15b0
    try clear c15b1
    try clear Ai Aj Ak Al An Ao Ap Aq Ar As
    try clear A3 A5 A7 A8 A9 Ba Bb Bc Bd Be
    try clear Bp Bq Br Bs Bt Bu Bv Bw Bx By
    try clear Cw Cx Cy Cz C0 C1 C2 C3 C4 C5
    try clear Dg Dh Di Dj Dk Dl Dm Dn Do Dp
    try clear Cc Cd Ce Cf Cg Ch Ci Cj Ck Cl
    try clear At Au Av Aw Ax Ay Az A0 A1 A2
    try clear Bf Bg Bh Bi Bj Bk Bl Bm Bn Bo
    try clear Bz B0 B1 B2 B3 B4 B5 B6 B7 B8
    try clear C6 C7 C8 C9 Da Db Dc Dd De Df
    try clear Dq Dr Ds Dt Du Dv Dw Dx Dy Dz
    try clear Cm Cn Co Cp Cq Cr Cs Ct Cu Cv
    try clear p2
    obtain ⟨kq, Ae, rfl, HA, HJ13, Aa, HB⟩ := hcut
    cases kq with
    | zero => exact absurd HA.out (by simp [entry_Check.j1])
    | succ kj13 =>
     have H := HA.out
     clear HA
     simp only [entry_Check.j1] at H
     by_cases c18 : Ae = true
     ·subst c18
      rw [if_pos rfl] at H
      obtain rfl := Option.some.inj H
      go_wp2
      go_ret
      exact ⟨pX, pE HB.out Ab.out⟩
     replace c18 := Bool.eq_false_iff.mpr c18
     subst c18
     rw [if_neg zF] at H
     by_cases c19 : a0_2 = 2
     rotate_left
     ·rw [if_neg c19] at H
      obtain ⟨c19b0, c19b1⟩ := zk c19
      obtain ⟨t139, A29, H⟩ := zb H
      obtain rfl := Option.some.inj H
      obtain ⟨_, _, _, _, _, _, _, _, _, _⟩ := bc10 Aa.out
      obtain ⟨_, _, _, _, _, _, _, _, _, _⟩ := bf10 Aa.out
      go_wp2_with (first | ((with_reducible refine zC 55 rfl ?_); refine zL (some 48) Try.func55 #[.agg #[.bool a0_4, .slice A0_5 l0_5.length c0_5, .int .i64 a0_6, .int .i64 a0_7, .int .i64 a0_8, .int .u32 a0_9]] ?_; (with_reducible refine (cell_Check.calls a0_4 _ _ l0_5 a0_6 a0_7 a0_8 a0_9 t139 _ ?Ac ?Ad A29.out).mono ?_); (case Ac => exact pC (Kd.C_below Af.out HB.out)); (case Ad => exact Ag.out); rintro e w31 ⟨rfl, hb⟩; refine ⟨_, rfl, ?_⟩; replace Aa := kBa Aa hb; replace HB := zX1 HB Ab.out hb; (try clear hb)))
      go_ret
      exact ⟨pX, pE HB.out Ab.out⟩
     rw [if_pos c19] at H
     obtain ⟨c19b0, c19b1⟩ := zc c19
     clear c19
     obtain ⟨t137, A20, H⟩ := zb H
     by_cases c21 : t137 = true
     rotate_left
     ·replace c21 := Bool.eq_false_iff.mpr c21
      subst c21
      rw [if_neg zF] at H
      obtain rfl := Option.some.inj H
      obtain ⟨_, _, _, _, _, _, _, _, _, _⟩ := bc10 Aa.out
      obtain ⟨_, _, _, _, _, _, _, _, _, _⟩ := bf10 Aa.out
      go_wp2_with (first | (go_at_call 54; (refine (cell_Same.calls a0_4 _ _ l0_5 a0_6 a0_7 a0_8 a0_9 false _ _ ([] : List Int) 0 0 0 0 false _ ?Ac ?Ad ?Ca ?Cb A20.out).mono ?_); (case Ac => exact pC (Kd.C_below Af.out HB.out)); (case Ad => exact Ag.out); (case Ca => exact Kd.C_nil _ _); (case Cb => exact Nat.le_refl _); rintro e w28 ⟨rfl, hb⟩; replace Aa := kBa Aa hb; replace HB := zX1 HB Ab.out hb; (try clear hb)))
      go_ret
      exact ⟨pX, pE HB.out Ab.out⟩
     subst c21
     rw [if_pos rfl] at H
     obtain ⟨t138, A22, H⟩ := zb H
     obtain rfl := Option.some.inj H
     obtain ⟨_, _, _, _, _, _, _, _, _, _⟩ := bc10 Aa.out
     obtain ⟨_, _, _, _, _, _, _, _, _, _⟩ := bf10 Aa.out
     go_wp2_with (first | (go_at_call 54; (refine (cell_Same.calls a0_4 _ _ l0_5 a0_6 a0_7 a0_8 a0_9 false _ _ ([] : List Int) 0 0 0 0 true _ ?Ac ?Ad ?Ca ?Cb A20.out).mono ?_); (case Ac => exact pC (Kd.C_below Af.out HB.out)); (case Ad => exact Ag.out); (case Ca => exact Kd.C_nil _ _); (case Cb => exact Nat.le_refl _); rintro e w24 ⟨rfl, hb⟩; replace Aa := kBa Aa hb; replace HB := zX1 HB Ab.out hb; (try clear hb); obtain ⟨_, _, _, _, _, _, _, _, _, _⟩ := bc10 Aa.out; obtain ⟨_, _, _, _, _, _, _, _, _, _⟩ := bf10 Aa.out) | ((with_reducible refine zC 55 rfl ?_); refine zL (some 48) Try.func55 #[.agg #[.bool a0_4, .slice A0_5 l0_5.length c0_5, .int .i64 a0_6, .int .i64 a0_7, .int .i64 a0_8, .int .u32 a0_9]] ?_; (with_reducible refine (cell_Check.calls a0_4 _ _ l0_5 a0_6 a0_7 a0_8 a0_9 t138 _ ?Ac ?Ad A22.out).mono ?_); (case Ac => exact pC (Kd.C_below Af.out HB.out)); (case Ad => exact Ag.out); rintro e w26 ⟨rfl, hb⟩; refine ⟨_, rfl, ?_⟩; replace Aa := kBa Aa hb; replace HB := zX1 HB Ab.out hb; (try clear hb)))
     go_ret
     exact ⟨pX, pE HB.out Ab.out⟩
mutual
def entry_Batch.j0 : Nat → List (S54) → Bool → Option (Int)
 | 0, _, _ => none
 | k + 1, x0, x13 => if x13 = true then (some 1) else (entry_Batch.l0 k x0 x0 (x0.length : Int) 0)
def entry_Batch.l0 : Nat → List (S54) → List (S54) → Int → Int → Option (Int)
 | 0, _, _, _, _ => none
 | k + 1, x0, x14, x15, x16 => if x16 < x15 then (if 0 ≤ x16 then (if x16 < (x14.length : Int) then ((entry_Check.f k ((rd_T54 x14 x16).f0) ((rd_T54 x14 x16).f1) ((rd_T54 x14 x16).f2) ((rd_T54 x14 x16).f3) ((rd_T54 x14 x16).f4.f0) ((rd_T54 x14 x16).f4.f1) ((rd_T54 x14 x16).f4.f2.f0) ((rd_T54 x14 x16).f4.f2.f1) ((rd_T54 x14 x16).f4.f2.f2) ((rd_T54 x14 x16).f4.f2.f3)).bind fun t142 => (if t142 = 0 then (if x16 > 0 then (if 0 ≤ (wrap64 (x16 - 1)) then (if (wrap64 (x16 - 1)) < (x0.length : Int) then (if ((rd_T54 x14 x16).f0) = (wrap64 (((rd_T54 x0 (wrap64 (x16 - 1))).f0) + 1)) then (if ((rd_T54 x14 x16).f1) < ((rd_T54 x0 (wrap64 (x16 - 1))).f1) then (some 1) else (entry_Batch.l0 k x0 x14 x15 (wrap64 (x16 + 1)))) else (some 1)) else (none)) else (none)) else (entry_Batch.l0 k x0 x14 x15 (wrap64 (x16 + 1)))) else (some t142))) else (none)) else (none)) else (some 0)
end
def entry_Batch.f (k : Nat) (l0 : List (S54)) : Option (Int) := if (l0.length : Int) < 1 then (entry_Batch.j0 k l0 true) else (entry_Batch.j0 k l0 (decide ((l0.length : Int) > 16)))
theorem entry_Batch.mono_l : ∀ k, (∀ y0 y1, LeO (entry_Batch.j0 k y0 y1) (entry_Batch.j0 (k + 1) y0 y1)) ∧ (∀ y0 y1 y2 y3, LeO (entry_Batch.l0 k y0 y1 y2 y3) (entry_Batch.l0 (k + 1) y0 y1 y2 y3))
 | 0 => ⟨fun _ _ r h => by simp [entry_Batch.j0] at h, fun _ _ _ _ r h => by simp [entry_Batch.l0] at h⟩
 | k + 1 => by
  obtain ⟨ih0, ih1⟩ := entry_Batch.mono_l k
  refine ⟨?_, ?_⟩
  ·intro y0 y1
   unfold entry_Batch.j0
   repeat' (with_reducible first | exact ih0 .. | exact ih1 .. | exact entry_Check.mono .. | exact LeO.refl .. | exact LeO.none .. | refine LeO.ite ?_ ?_ | refine LeO.bind ?_ (fun _ => ?_))
  ·intro y0 y1 y2 y3
   unfold entry_Batch.l0
   repeat' (with_reducible first | exact ih0 .. | exact ih1 .. | exact entry_Check.mono .. | exact LeO.refl .. | exact LeO.none .. | refine LeO.ite ?_ ?_ | refine LeO.bind ?_ (fun _ => ?_))
theorem entry_Batch.mono : ∀ a0 k, LeO (entry_Batch.f k a0) (entry_Batch.f (k + 1) a0) := by
 intro a0 k
 obtain ⟨ih0, ih1⟩ := entry_Batch.mono_l k
 unfold entry_Batch.f
 repeat' (with_reducible first | exact ih0 .. | exact ih1 .. | exact entry_Check.mono .. | exact LeO.refl .. | exact LeO.none .. | refine LeO.ite ?_ ?_ | refine LeO.bind ?_ (fun _ => ?_))
set_option maxRecDepth 100000 in
theorem entry_Batch.calls (k : Nat) (A0 : Option Addr) (c0 : Nat) (l0 : List (S54)) (r : Int) (w : World) (hr0 : Kd.C k54 w A0 l0.length l0) (hc0 : l0.length ≤ c0) (h : entry_Batch.f k l0 = some r) :
 Calls Try.prog 47 #[.slice A0 l0.length c0] w fun e w' => e = .returned (.int .i64 r) ∧ Below w.heap.size w w' := by
 have hu54 := Try.underlying54
 have HR0 := Am hr0
 have HC0 := Am hc0
 clear hr0 hc0
 have HB := Am (Below.refl w.heap.size w)
 unfold entry_Batch.f at h
 have H := h
 clear h
 have HC2 := Am H
 clear H
 go_enter Try.func47, Try.ntmps47
 go_upto_region 1 with (fail)
 repeat (go_quiet (fail); go_upto_region 1 with (fail))
 go_cut [13] (fun v13 wc => ∃ (kq : Nat) (Bw : Bool), v13 = .bool Bw ∧ Aside0 (entry_Batch.j0 kq l0 Bw = some r) ∧ Aside0 (kq ≤ k) ∧ Aside0 (Below w.heap.size w wc))
 case first =>
  have H := HC2.out
  clear HC2
  by_cases c3 : (l0.length : Int) < 1
  ·rw [if_pos c3] at H
   have c3b0 := decide_eq_true c3
   have c3b1 : decide (l0.length < 1) = true := decide_eq_true (by omega)
   clear c3
   (first | rw [c3b0] | (simp only [i64_w, i32_w]; rw [c3b0]) | skip)
   have H' := Am H
   clear H
   go_wp2
   repeat (go_quiet (fail); try go_wp2)
   go_meet
   case rel => exact ⟨_, (true), zr, H', ⟨zo⟩, ⟨pB HB.out⟩⟩
  rw [if_neg c3] at H
  have c3b0 := decide_eq_false c3
  have c3b1 : decide (l0.length < 1) = false := decide_eq_false (by omega)
  clear c3
  (first | rw [c3b0] | (simp only [i64_w, i32_w]; rw [c3b0]) | skip)
  have H' := Am H
  clear H
  go_wp2
  repeat (go_quiet (fail); try go_wp2)
  go_meet
  case rel => exact ⟨_, (decide ((l0.length : Int) > 16)), zr, H', ⟨zo⟩, ⟨pB HB.out⟩⟩
 case rest =>
  clear HC2
  try clear p2
  try clear c3
  try clear c3b0
  try clear c3b1
  obtain ⟨kq, Bw, rfl, HA, HJ1, HB⟩ := hcut
  cases kq with
  | zero => exact absurd HA.out (by simp [entry_Batch.j0])
  | succ kj1 =>
   have H := HA.out
   clear HA
   simp only [entry_Batch.j0] at H
   by_cases c4 : Bw = true
   ·subst c4
    rw [if_pos rfl] at H
    obtain rfl := Option.some.inj H
    go_wp2
    repeat (go_quiet (fail); try go_wp2)
    go_ret
    exact ⟨pX, pB HB.out⟩
   replace c4 := Bool.eq_false_iff.mpr c4
   subst c4
   rw [if_neg zF] at H
   have H' := Am H
   clear H
   go_wp2
   repeat (go_quiet (fail); try go_wp2)
   go_loopg [16] kj1 (fun kq v16 w' => ∃ (Aa : Int), v16 = .int .i64 Aa ∧ Aside0 (entry_Batch.l0 kq l0 l0 (l0.length : Int) Aa = some r) ∧ Aside0 (kq ≤ kj1) ∧ Aside0 (Below w.heap.size w w'))
   case atStart => exact ⟨(0), zr, H', ⟨Nat.le_refl _⟩, ⟨pB HB.out⟩⟩
   case round =>
    clear H'
    try clear p2
    try clear c3
    try clear c3b0
    try clear c3b1
    try clear c4
    try clear p2
    obtain ⟨Aa, rfl, HA, HK2, HB⟩ := hrel
    cases gk with
    | zero => exact absurd HA.out (by simp [entry_Batch.l0])
    | succ k2 =>
     have H := HA.out
     clear HA
     simp only [entry_Batch.l0] at H
     by_cases c5 : Aa < (l0.length : Int)
     rotate_left
     ·rw [if_neg c5] at H
      have c5b0 := decide_eq_false c5
      clear c5
      obtain rfl := Option.some.inj H
      go_wp2
      repeat (go_quiet (fail); try go_wp2)
      go_ret
      exact ⟨pX, pB HB.out⟩
     rw [if_pos c5] at H
     have c5b0 := decide_eq_true c5
     clear c5
     obtain ⟨c6, H⟩ := zI H
     have c6b0 := decide_eq_true c6
     clear c6
     obtain ⟨c7, H⟩ := zI H
     have c7b0 := decide_eq_true c7
     clear c7
     obtain ⟨t142, A8, H⟩ := zb H
     by_cases c9 : t142 = 0
     rotate_left
     ·rw [if_neg c9] at H
      obtain ⟨c9b0, c9b1⟩ := zk c9
      obtain rfl := Option.some.inj H
      have p140 : 0 ≤ (Aa : Int) := of_decide_eq_true pS
      have q140 : Aa < (l0.length : Int) := of_decide_eq_true pS
      obtain ⟨Bc, Bv, c140_5, e140, Bk, Bl, Bm, Bn, Bo, Bp, Bq, Br, Bs, Bt, Ba, Bb⟩ := at_T54u HR0.out Aa p140 q140 HB.out
      cases e140
      have As := Am Bb
      have At := Am Ba
      clear Bb Ba
      replace p140 := eq_true p140
      replace q140 := eq_true q140
      go_wp2_with (first | ((with_reducible refine zD 4 rfl ?_); (try (refine gate_guard (by rfl) ?_; dsimp only)); refine zE 4 #[.int .i64 0, .int .i64 0, .int .i64 0, .string (⟨#[]⟩ : ByteArray), .bool false, .slice none 0 0, .int .i64 0, .int .i64 0, .int .i64 0, .int .u32 0] 54 ?_; intro Ae hg w31 hbox hb; have Ab := Am (hbox); have Au := zA hg HB; replace HB := zB HB hb; have Ad := Au; clear hb hbox hg; obtain ⟨Fv, Fw, Fx, Fy, Fz, F0, F1, F2, F3, F4⟩ := bc10 Ab.out; obtain ⟨F5, F6, F7, F8, F9, Ga, Gb, Gc, Gd, Ge⟩ := bf10 Ab.out) | (go_at_call 34; (with_reducible refine (entry_Check.calls k2 ((rd_T54 l0 Aa).f0) ((rd_T54 l0 Aa).f1) ((rd_T54 l0 Aa).f2) ((rd_T54 l0 Aa).f3) ((rd_T54 l0 Aa).f4.f0) _ _ ((rd_T54 l0 Aa).f4.f1) ((rd_T54 l0 Aa).f4.f2.f0) ((rd_T54 l0 Aa).f4.f2.f1) ((rd_T54 l0 Aa).f4.f2.f2) ((rd_T54 l0 Aa).f4.f2.f3) t142 _ ?Av ?Aw A8.out).mono ?_); (case Av => exact Kd.C_below As.out (pE HB.out Ad.out)); (case Aw => exact At.out); rintro e w33 ⟨rfl, hb⟩; replace Ab := Am (blk_below (g := Ae) (kX0 Ab.out) hb); replace HB := zX1 HB Ad.out hb; (try clear hb)))
      repeat (go_quiet (first | ((with_reducible refine zD 4 rfl ?_); (try (refine gate_guard (by rfl) ?_; dsimp only)); refine zE 4 #[.int .i64 0, .int .i64 0, .int .i64 0, .string (⟨#[]⟩ : ByteArray), .bool false, .slice none 0 0, .int .i64 0, .int .i64 0, .int .i64 0, .int .u32 0] 54 ?_; intro Ae hg w31 hbox hb; have Ab := Am (hbox); have Au := zA hg HB; replace HB := zB HB hb; have Ad := Au; clear hb hbox hg; obtain ⟨Fv, Fw, Fx, Fy, Fz, F0, F1, F2, F3, F4⟩ := bc10 Ab.out; obtain ⟨F5, F6, F7, F8, F9, Ga, Gb, Gc, Gd, Ge⟩ := bf10 Ab.out) | (go_at_call 34; (with_reducible refine (entry_Check.calls k2 ((rd_T54 l0 Aa).f0) ((rd_T54 l0 Aa).f1) ((rd_T54 l0 Aa).f2) ((rd_T54 l0 Aa).f3) ((rd_T54 l0 Aa).f4.f0) _ _ ((rd_T54 l0 Aa).f4.f1) ((rd_T54 l0 Aa).f4.f2.f0) ((rd_T54 l0 Aa).f4.f2.f1) ((rd_T54 l0 Aa).f4.f2.f2) ((rd_T54 l0 Aa).f4.f2.f3) t142 _ ?Av ?Aw A8.out).mono ?_); (case Av => exact Kd.C_below As.out (pE HB.out Ad.out)); (case Aw => exact At.out); rintro e w33 ⟨rfl, hb⟩; replace Ab := Am (blk_below (g := Ae) (kX0 Ab.out) hb); replace HB := zX1 HB Ad.out hb; (try clear hb))); try go_wp2_with (first | ((with_reducible refine zD 4 rfl ?_); (try (refine gate_guard (by rfl) ?_; dsimp only)); refine zE 4 #[.int .i64 0, .int .i64 0, .int .i64 0, .string (⟨#[]⟩ : ByteArray), .bool false, .slice none 0 0, .int .i64 0, .int .i64 0, .int .i64 0, .int .u32 0] 54 ?_; intro Ae hg w31 hbox hb; have Ab := Am (hbox); have Au := zA hg HB; replace HB := zB HB hb; have Ad := Au; clear hb hbox hg; obtain ⟨Fv, Fw, Fx, Fy, Fz, F0, F1, F2, F3, F4⟩ := bc10 Ab.out; obtain ⟨F5, F6, F7, F8, F9, Ga, Gb, Gc, Gd, Ge⟩ := bf10 Ab.out) | (go_at_call 34; (with_reducible refine (entry_Check.calls k2 ((rd_T54 l0 Aa).f0) ((rd_T54 l0 Aa).f1) ((rd_T54 l0 Aa).f2) ((rd_T54 l0 Aa).f3) ((rd_T54 l0 Aa).f4.f0) _ _ ((rd_T54 l0 Aa).f4.f1) ((rd_T54 l0 Aa).f4.f2.f0) ((rd_T54 l0 Aa).f4.f2.f1) ((rd_T54 l0 Aa).f4.f2.f2) ((rd_T54 l0 Aa).f4.f2.f3) t142 _ ?Av ?Aw A8.out).mono ?_); (case Av => exact Kd.C_below As.out (pE HB.out Ad.out)); (case Aw => exact At.out); rintro e w33 ⟨rfl, hb⟩; replace Ab := Am (blk_below (g := Ae) (kX0 Ab.out) hb); replace HB := zX1 HB Ad.out hb; (try clear hb))))
      go_ret
      exact ⟨pX, pE HB.out Ad.out⟩
     rw [if_pos c9] at H
     obtain ⟨c9b0, c9b1⟩ := zc c9
     clear c9
     by_cases c10 : Aa > 0
     rotate_left
     ·rw [if_neg c10] at H
      have c10b0 : decide (0 < Aa) = false := decide_eq_false c10
      clear c10
      have H' := Am H
      clear H
      have p140 : 0 ≤ (Aa : Int) := of_decide_eq_true pS
      have q140 : Aa < (l0.length : Int) := of_decide_eq_true pS
      obtain ⟨Bc, Bv, c140_5, e140, Bk, Bl, Bm, Bn, Bo, Bp, Bq, Br, Bs, Bt, Ba, Bb⟩ := at_T54u HR0.out Aa p140 q140 HB.out
      cases e140
      have As := Am Bb
      have At := Am Ba
      clear Bb Ba
      replace p140 := eq_true p140
      replace q140 := eq_true q140
      go_wp2_with (first | ((with_reducible refine zD 4 rfl ?_); (try (refine gate_guard (by rfl) ?_; dsimp only)); refine zE 4 #[.int .i64 0, .int .i64 0, .int .i64 0, .string (⟨#[]⟩ : ByteArray), .bool false, .slice none 0 0, .int .i64 0, .int .i64 0, .int .i64 0, .int .u32 0] 54 ?_; intro Ae hg w28 hbox hb; have Ab := Am (hbox); have Au := zA hg HB; replace HB := zB HB hb; have Ad := Au; clear hb hbox hg; obtain ⟨Fb, Fc, Fd, Fe, Ff, Fg, Fh, Fi, Fj, Fk⟩ := bc10 Ab.out; obtain ⟨Fl, Fm, Fn, Fo, Fp, Fq, Fr, Fs, Ft, Fu⟩ := bf10 Ab.out) | (go_at_call 34; (with_reducible refine (entry_Check.calls k2 ((rd_T54 l0 Aa).f0) ((rd_T54 l0 Aa).f1) ((rd_T54 l0 Aa).f2) ((rd_T54 l0 Aa).f3) ((rd_T54 l0 Aa).f4.f0) _ _ ((rd_T54 l0 Aa).f4.f1) ((rd_T54 l0 Aa).f4.f2.f0) ((rd_T54 l0 Aa).f4.f2.f1) ((rd_T54 l0 Aa).f4.f2.f2) ((rd_T54 l0 Aa).f4.f2.f3) t142 _ ?Av ?Aw A8.out).mono ?_); (case Av => exact Kd.C_below As.out (pE HB.out Ad.out)); (case Aw => exact At.out); rintro e w30 ⟨rfl, hb⟩; replace Ab := Am (blk_below (g := Ae) (kX0 Ab.out) hb); replace HB := zX1 HB Ad.out hb; (try clear hb)))
      repeat (go_quiet (first | ((with_reducible refine zD 4 rfl ?_); (try (refine gate_guard (by rfl) ?_; dsimp only)); refine zE 4 #[.int .i64 0, .int .i64 0, .int .i64 0, .string (⟨#[]⟩ : ByteArray), .bool false, .slice none 0 0, .int .i64 0, .int .i64 0, .int .i64 0, .int .u32 0] 54 ?_; intro Ae hg w28 hbox hb; have Ab := Am (hbox); have Au := zA hg HB; replace HB := zB HB hb; have Ad := Au; clear hb hbox hg; obtain ⟨Fb, Fc, Fd, Fe, Ff, Fg, Fh, Fi, Fj, Fk⟩ := bc10 Ab.out; obtain ⟨Fl, Fm, Fn, Fo, Fp, Fq, Fr, Fs, Ft, Fu⟩ := bf10 Ab.out) | (go_at_call 34; (with_reducible refine (entry_Check.calls k2 ((rd_T54 l0 Aa).f0) ((rd_T54 l0 Aa).f1) ((rd_T54 l0 Aa).f2) ((rd_T54 l0 Aa).f3) ((rd_T54 l0 Aa).f4.f0) _ _ ((rd_T54 l0 Aa).f4.f1) ((rd_T54 l0 Aa).f4.f2.f0) ((rd_T54 l0 Aa).f4.f2.f1) ((rd_T54 l0 Aa).f4.f2.f2) ((rd_T54 l0 Aa).f4.f2.f3) t142 _ ?Av ?Aw A8.out).mono ?_); (case Av => exact Kd.C_below As.out (pE HB.out Ad.out)); (case Aw => exact At.out); rintro e w30 ⟨rfl, hb⟩; replace Ab := Am (blk_below (g := Ae) (kX0 Ab.out) hb); replace HB := zX1 HB Ad.out hb; (try clear hb))); try go_wp2_with (first | ((with_reducible refine zD 4 rfl ?_); (try (refine gate_guard (by rfl) ?_; dsimp only)); refine zE 4 #[.int .i64 0, .int .i64 0, .int .i64 0, .string (⟨#[]⟩ : ByteArray), .bool false, .slice none 0 0, .int .i64 0, .int .i64 0, .int .i64 0, .int .u32 0] 54 ?_; intro Ae hg w28 hbox hb; have Ab := Am (hbox); have Au := zA hg HB; replace HB := zB HB hb; have Ad := Au; clear hb hbox hg; obtain ⟨Fb, Fc, Fd, Fe, Ff, Fg, Fh, Fi, Fj, Fk⟩ := bc10 Ab.out; obtain ⟨Fl, Fm, Fn, Fo, Fp, Fq, Fr, Fs, Ft, Fu⟩ := bf10 Ab.out) | (go_at_call 34; (with_reducible refine (entry_Check.calls k2 ((rd_T54 l0 Aa).f0) ((rd_T54 l0 Aa).f1) ((rd_T54 l0 Aa).f2) ((rd_T54 l0 Aa).f3) ((rd_T54 l0 Aa).f4.f0) _ _ ((rd_T54 l0 Aa).f4.f1) ((rd_T54 l0 Aa).f4.f2.f0) ((rd_T54 l0 Aa).f4.f2.f1) ((rd_T54 l0 Aa).f4.f2.f2) ((rd_T54 l0 Aa).f4.f2.f3) t142 _ ?Av ?Aw A8.out).mono ?_); (case Av => exact Kd.C_below As.out (pE HB.out Ad.out)); (case Aw => exact At.out); rintro e w30 ⟨rfl, hb⟩; replace Ab := Am (blk_below (g := Ae) (kX0 Ab.out) hb); replace HB := zX1 HB Ad.out hb; (try clear hb))))
      go_roundg k2
      case measure => have := HJ1.out; have := HK2.out; omega
      case rel => exact ⟨(wrap64 (Aa + 1)), zr, H', ⟨by have := HJ1.out; have := HK2.out; omega⟩, ⟨pE HB.out Ad.out⟩⟩
     rw [if_pos c10] at H
     have c10b0 : decide (0 < Aa) = true := decide_eq_true c10
     clear c10
     obtain ⟨ji11, hji11⟩ : ∃ j_ : Int, (wrap64 (Aa - 1)) = j_ := ⟨_, rfl⟩
     replace H : (if 0 ≤ (ji11) then (if (ji11) < (l0.length : Int) then (if ((rd_T54 l0 Aa).f0) = (wrap64 (((rd_T54 l0 (ji11)).f0) + 1)) then (if ((rd_T54 l0 Aa).f1) < ((rd_T54 l0 (ji11)).f1) then (some 1) else (entry_Batch.l0 k2 l0 l0 (l0.length : Int) (wrap64 (Aa + 1)))) else (some 1)) else (none)) else (none)) = some r := by first | (rw [hji11] at H; exact H) | (simp only [hji11] at H ⊢; exact H)
     (try rw [hji11] at A8)
     have hji11w : (IntKind.i64.wrap (Aa - 1)) = ji11 := (i64_w _).trans hji11
     obtain ⟨c12, H⟩ := zI H
     have c12b0 := decide_eq_true c12
     clear c12
     obtain ⟨c13, H⟩ := zI H
     have c13b0 := decide_eq_true c13
     clear c13
     by_cases c14 : ((rd_T54 l0 Aa).f0) = (wrap64 (((rd_T54 l0 (ji11)).f0) + 1))
     rotate_left
     ·rw [if_neg c14] at H
      obtain ⟨c14b0, c14b1⟩ := zk c14
      obtain rfl := Option.some.inj H
      have p140 : 0 ≤ (Aa : Int) := of_decide_eq_true pS
      have q140 : Aa < (l0.length : Int) := of_decide_eq_true pS
      obtain ⟨Bc, Bv, c140_5, e140, Bk, Bl, Bm, Bn, Bo, Bp, Bq, Br, Bs, Bt, Ba, Bb⟩ := at_T54u HR0.out Aa p140 q140 HB.out
      cases e140
      have As := Am Bb
      have At := Am Ba
      clear Bb Ba
      replace p140 := eq_true p140
      replace q140 := eq_true q140
      go_wp2_with (first | ((with_reducible refine zD 4 rfl ?_); (try (refine gate_guard (by rfl) ?_; dsimp only)); refine zE 4 #[.int .i64 0, .int .i64 0, .int .i64 0, .string (⟨#[]⟩ : ByteArray), .bool false, .slice none 0 0, .int .i64 0, .int .i64 0, .int .i64 0, .int .u32 0] 54 ?_; intro Ae hg w24 hbox hb; have Ab := Am (hbox); have Au := zA hg HB; replace HB := zB HB hb; have Ad := Au; clear hb hbox hg; obtain ⟨D5, D6, D7, D8, D9, Ea, Eb, Ec, Ed, Ee⟩ := bc10 Ab.out; obtain ⟨Ef, Eg, Eh, Ei, Ej, Ek, El, Em, En, Eo⟩ := bf10 Ab.out) | (go_at_call 34; (with_reducible refine (entry_Check.calls k2 ((rd_T54 l0 Aa).f0) ((rd_T54 l0 Aa).f1) ((rd_T54 l0 Aa).f2) ((rd_T54 l0 Aa).f3) ((rd_T54 l0 Aa).f4.f0) _ _ ((rd_T54 l0 Aa).f4.f1) ((rd_T54 l0 Aa).f4.f2.f0) ((rd_T54 l0 Aa).f4.f2.f1) ((rd_T54 l0 Aa).f4.f2.f2) ((rd_T54 l0 Aa).f4.f2.f3) t142 _ ?Av ?Aw A8.out).mono ?_); (case Av => exact Kd.C_below As.out (pE HB.out Ad.out)); (case Aw => exact At.out); rintro e w26 ⟨rfl, hb⟩; replace Ab := Am (blk_below (g := Ae) (kX0 Ab.out) hb); replace HB := zX1 HB Ad.out hb; (try clear hb); obtain ⟨Ep, Er, Es, Et, Eu, Ew, Ex, Ey, Ez, E0⟩ := bc10 Ab.out; obtain ⟨E1, E2, E3, E4, E5, E6, E7, E8, E9, Fa⟩ := bf10 Ab.out; have p143 : 0 ≤ ((ji11) : Int) := of_decide_eq_true pS; have q143 : (ji11) < (l0.length : Int) := of_decide_eq_true pS; obtain ⟨Bd, Bh, c143_5, e143, Af, Ag, Ah, Ai, Aj, Ac, Ak, Al, An, Ao, Ap, Aq⟩ := at_T54 HR0.out (ji11) p143 q143; obtain rfl : Bc = Bd := (by injection e143); replace Af := cU HB.out Af; replace Ag := cU HB.out Ag; replace Ah := cU HB.out Ah; replace Ai := cU HB.out Ai; replace Aj := cU HB.out Aj; replace Ac := cU HB.out Ac; replace Ak := cU HB.out Ak; replace Al := cU HB.out Al; replace An := cU HB.out An; replace Ao := cU HB.out Ao; have Be := Am Aq; have Bf := Am Ap; clear Aq Ap; replace p143 := eq_true p143; replace q143 := eq_true q143))
      repeat (go_quiet (first | ((with_reducible refine zD 4 rfl ?_); (try (refine gate_guard (by rfl) ?_; dsimp only)); refine zE 4 #[.int .i64 0, .int .i64 0, .int .i64 0, .string (⟨#[]⟩ : ByteArray), .bool false, .slice none 0 0, .int .i64 0, .int .i64 0, .int .i64 0, .int .u32 0] 54 ?_; intro Ae hg w24 hbox hb; have Ab := Am (hbox); have Au := zA hg HB; replace HB := zB HB hb; have Ad := Au; clear hb hbox hg; obtain ⟨D5, D6, D7, D8, D9, Ea, Eb, Ec, Ed, Ee⟩ := bc10 Ab.out; obtain ⟨Ef, Eg, Eh, Ei, Ej, Ek, El, Em, En, Eo⟩ := bf10 Ab.out) | (go_at_call 34; (with_reducible refine (entry_Check.calls k2 ((rd_T54 l0 Aa).f0) ((rd_T54 l0 Aa).f1) ((rd_T54 l0 Aa).f2) ((rd_T54 l0 Aa).f3) ((rd_T54 l0 Aa).f4.f0) _ _ ((rd_T54 l0 Aa).f4.f1) ((rd_T54 l0 Aa).f4.f2.f0) ((rd_T54 l0 Aa).f4.f2.f1) ((rd_T54 l0 Aa).f4.f2.f2) ((rd_T54 l0 Aa).f4.f2.f3) t142 _ ?Av ?Aw A8.out).mono ?_); (case Av => exact Kd.C_below As.out (pE HB.out Ad.out)); (case Aw => exact At.out); rintro e w26 ⟨rfl, hb⟩; replace Ab := Am (blk_below (g := Ae) (kX0 Ab.out) hb); replace HB := zX1 HB Ad.out hb; (try clear hb); obtain ⟨Ep, Er, Es, Et, Eu, Ew, Ex, Ey, Ez, E0⟩ := bc10 Ab.out; obtain ⟨E1, E2, E3, E4, E5, E6, E7, E8, E9, Fa⟩ := bf10 Ab.out; have p143 : 0 ≤ ((ji11) : Int) := of_decide_eq_true pS; have q143 : (ji11) < (l0.length : Int) := of_decide_eq_true pS; obtain ⟨Bd, Bh, c143_5, e143, Af, Ag, Ah, Ai, Aj, Ac, Ak, Al, An, Ao, Ap, Aq⟩ := at_T54 HR0.out (ji11) p143 q143; obtain rfl : Bc = Bd := (by injection e143); replace Af := cU HB.out Af; replace Ag := cU HB.out Ag; replace Ah := cU HB.out Ah; replace Ai := cU HB.out Ai; replace Aj := cU HB.out Aj; replace Ac := cU HB.out Ac; replace Ak := cU HB.out Ak; replace Al := cU HB.out Al; replace An := cU HB.out An; replace Ao := cU HB.out Ao; have Be := Am Aq; have Bf := Am Ap; clear Aq Ap; replace p143 := eq_true p143; replace q143 := eq_true q143)); try go_wp2_with (first | ((with_reducible refine zD 4 rfl ?_); (try (refine gate_guard (by rfl) ?_; dsimp only)); refine zE 4 #[.int .i64 0, .int .i64 0, .int .i64 0, .string (⟨#[]⟩ : ByteArray), .bool false, .slice none 0 0, .int .i64 0, .int .i64 0, .int .i64 0, .int .u32 0] 54 ?_; intro Ae hg w24 hbox hb; have Ab := Am (hbox); have Au := zA hg HB; replace HB := zB HB hb; have Ad := Au; clear hb hbox hg; obtain ⟨D5, D6, D7, D8, D9, Ea, Eb, Ec, Ed, Ee⟩ := bc10 Ab.out; obtain ⟨Ef, Eg, Eh, Ei, Ej, Ek, El, Em, En, Eo⟩ := bf10 Ab.out) | (go_at_call 34; (with_reducible refine (entry_Check.calls k2 ((rd_T54 l0 Aa).f0) ((rd_T54 l0 Aa).f1) ((rd_T54 l0 Aa).f2) ((rd_T54 l0 Aa).f3) ((rd_T54 l0 Aa).f4.f0) _ _ ((rd_T54 l0 Aa).f4.f1) ((rd_T54 l0 Aa).f4.f2.f0) ((rd_T54 l0 Aa).f4.f2.f1) ((rd_T54 l0 Aa).f4.f2.f2) ((rd_T54 l0 Aa).f4.f2.f3) t142 _ ?Av ?Aw A8.out).mono ?_); (case Av => exact Kd.C_below As.out (pE HB.out Ad.out)); (case Aw => exact At.out); rintro e w26 ⟨rfl, hb⟩; replace Ab := Am (blk_below (g := Ae) (kX0 Ab.out) hb); replace HB := zX1 HB Ad.out hb; (try clear hb); obtain ⟨Ep, Er, Es, Et, Eu, Ew, Ex, Ey, Ez, E0⟩ := bc10 Ab.out; obtain ⟨E1, E2, E3, E4, E5, E6, E7, E8, E9, Fa⟩ := bf10 Ab.out; have p143 : 0 ≤ ((ji11) : Int) := of_decide_eq_true pS; have q143 : (ji11) < (l0.length : Int) := of_decide_eq_true pS; obtain ⟨Bd, Bh, c143_5, e143, Af, Ag, Ah, Ai, Aj, Ac, Ak, Al, An, Ao, Ap, Aq⟩ := at_T54 HR0.out (ji11) p143 q143; obtain rfl : Bc = Bd := (by injection e143); replace Af := cU HB.out Af; replace Ag := cU HB.out Ag; replace Ah := cU HB.out Ah; replace Ai := cU HB.out Ai; replace Aj := cU HB.out Aj; replace Ac := cU HB.out Ac; replace Ak := cU HB.out Ak; replace Al := cU HB.out Al; replace An := cU HB.out An; replace Ao := cU HB.out Ao; have Be := Am Aq; have Bf := Am Ap; clear Aq Ap; replace p143 := eq_true p143; replace q143 := eq_true q143)))
      go_ret
      exact ⟨by first | rfl | (simp [errW_none, errW_some] <;> rfl) | (simp only [← hji11]; first | rfl | (simp [errW_none, errW_some] <;> rfl)) | (simp [*, errW_none, errW_some] <;> rfl), pE HB.out Ad.out⟩
     rw [if_pos c14] at H
     obtain ⟨c14b0, c14b1⟩ := zc c14
     clear c14
     by_cases c15 : ((rd_T54 l0 Aa).f1) < ((rd_T54 l0 (ji11)).f1)
     ·rw [if_pos c15] at H
      have c15b0 := decide_eq_true c15
      clear c15
      obtain rfl := Option.some.inj H
      have p140 : 0 ≤ (Aa : Int) := of_decide_eq_true pS
      have q140 : Aa < (l0.length : Int) := of_decide_eq_true pS
      obtain ⟨Bc, Bv, c140_5, e140, Bk, Bl, Bm, Bn, Bo, Bp, Bq, Br, Bs, Bt, Ba, Bb⟩ := at_T54u HR0.out Aa p140 q140 HB.out
      cases e140
      have As := Am Bb
      have At := Am Ba
      clear Bb Ba
      replace p140 := eq_true p140
      replace q140 := eq_true q140
      go_wp2_with (first | ((with_reducible refine zD 4 rfl ?_); (try (refine gate_guard (by rfl) ?_; dsimp only)); refine zE 4 #[.int .i64 0, .int .i64 0, .int .i64 0, .string (⟨#[]⟩ : ByteArray), .bool false, .slice none 0 0, .int .i64 0, .int .i64 0, .int .i64 0, .int .u32 0] 54 ?_; intro Ae hg w16 hbox hb; have Ab := Am (hbox); have Au := zA hg HB; replace HB := zB HB hb; have Ad := Au; clear hb hbox hg; obtain ⟨Bx, By, Bz, B0, B1, B2, B3, B4, B5, B6⟩ := bc10 Ab.out; obtain ⟨B7, B8, B9, Ca, Cb, Cc, Cd, Ce, Cf, Cg⟩ := bf10 Ab.out) | (go_at_call 34; (with_reducible refine (entry_Check.calls k2 ((rd_T54 l0 Aa).f0) ((rd_T54 l0 Aa).f1) ((rd_T54 l0 Aa).f2) ((rd_T54 l0 Aa).f3) ((rd_T54 l0 Aa).f4.f0) _ _ ((rd_T54 l0 Aa).f4.f1) ((rd_T54 l0 Aa).f4.f2.f0) ((rd_T54 l0 Aa).f4.f2.f1) ((rd_T54 l0 Aa).f4.f2.f2) ((rd_T54 l0 Aa).f4.f2.f3) t142 _ ?Av ?Aw A8.out).mono ?_); (case Av => exact Kd.C_below As.out (pE HB.out Ad.out)); (case Aw => exact At.out); rintro e w18 ⟨rfl, hb⟩; replace Ab := Am (blk_below (g := Ae) (kX0 Ab.out) hb); replace HB := zX1 HB Ad.out hb; (try clear hb); obtain ⟨Ch, Ci, Cj, Ck, Cl, Cm, Cn, Co, Cp, Cq⟩ := bc10 Ab.out; obtain ⟨Cr, Cs, Ct, Cu, Cv, Cw, Cx, Cy, Cz, C0⟩ := bf10 Ab.out; have p143 : 0 ≤ ((ji11) : Int) := of_decide_eq_true pS; have q143 : (ji11) < (l0.length : Int) := of_decide_eq_true pS; obtain ⟨Bd, Bh, c143_5, e143, Af, Ag, Ah, Ai, Aj, Ac, Ak, Al, An, Ao, Ap, Aq⟩ := at_T54 HR0.out (ji11) p143 q143; obtain rfl : Bc = Bd := (by injection e143); replace Af := cU HB.out Af; replace Ag := cU HB.out Ag; replace Ah := cU HB.out Ah; replace Ai := cU HB.out Ai; replace Aj := cU HB.out Aj; replace Ac := cU HB.out Ac; replace Ak := cU HB.out Ak; replace Al := cU HB.out Al; replace An := cU HB.out An; replace Ao := cU HB.out Ao; have Be := Am Aq; have Bf := Am Ap; clear Aq Ap; replace p143 := eq_true p143; replace q143 := eq_true q143; have p144 : 0 ≤ ((ji11) : Int) := of_decide_eq_true pS; have q144 : (ji11) < (l0.length : Int) := of_decide_eq_true pS; obtain ⟨Bg, Bu, c144_5, e144, Ax, Ay, Az, A1, A2, Ar, A3, A4, A5, A6, A7, A9⟩ := at_T54 HR0.out (ji11) p144 q144; obtain rfl : Bc = Bg := (by injection e144); replace Ax := cU HB.out Ax; replace Ay := cU HB.out Ay; replace Az := cU HB.out Az; replace A1 := cU HB.out A1; replace A2 := cU HB.out A2; replace Ar := cU HB.out Ar; replace A3 := cU HB.out A3; replace A4 := cU HB.out A4; replace A5 := cU HB.out A5; replace A6 := cU HB.out A6; have Bi := Am A9; have Bj := Am A7; clear A9 A7; replace p144 := eq_true p144; replace q144 := eq_true q144; have ea_ := Option.some.inj (Ac.symm.trans Ar); injection ea_ with ea_ en_ ec_; subst ea_; subst ec_; clear en_))
      repeat (go_quiet (first | ((with_reducible refine zD 4 rfl ?_); (try (refine gate_guard (by rfl) ?_; dsimp only)); refine zE 4 #[.int .i64 0, .int .i64 0, .int .i64 0, .string (⟨#[]⟩ : ByteArray), .bool false, .slice none 0 0, .int .i64 0, .int .i64 0, .int .i64 0, .int .u32 0] 54 ?_; intro Ae hg w16 hbox hb; have Ab := Am (hbox); have Au := zA hg HB; replace HB := zB HB hb; have Ad := Au; clear hb hbox hg; obtain ⟨Bx, By, Bz, B0, B1, B2, B3, B4, B5, B6⟩ := bc10 Ab.out; obtain ⟨B7, B8, B9, Ca, Cb, Cc, Cd, Ce, Cf, Cg⟩ := bf10 Ab.out) | (go_at_call 34; (with_reducible refine (entry_Check.calls k2 ((rd_T54 l0 Aa).f0) ((rd_T54 l0 Aa).f1) ((rd_T54 l0 Aa).f2) ((rd_T54 l0 Aa).f3) ((rd_T54 l0 Aa).f4.f0) _ _ ((rd_T54 l0 Aa).f4.f1) ((rd_T54 l0 Aa).f4.f2.f0) ((rd_T54 l0 Aa).f4.f2.f1) ((rd_T54 l0 Aa).f4.f2.f2) ((rd_T54 l0 Aa).f4.f2.f3) t142 _ ?Av ?Aw A8.out).mono ?_); (case Av => exact Kd.C_below As.out (pE HB.out Ad.out)); (case Aw => exact At.out); rintro e w18 ⟨rfl, hb⟩; replace Ab := Am (blk_below (g := Ae) (kX0 Ab.out) hb); replace HB := zX1 HB Ad.out hb; (try clear hb); obtain ⟨Ch, Ci, Cj, Ck, Cl, Cm, Cn, Co, Cp, Cq⟩ := bc10 Ab.out; obtain ⟨Cr, Cs, Ct, Cu, Cv, Cw, Cx, Cy, Cz, C0⟩ := bf10 Ab.out; have p143 : 0 ≤ ((ji11) : Int) := of_decide_eq_true pS; have q143 : (ji11) < (l0.length : Int) := of_decide_eq_true pS; obtain ⟨Bd, Bh, c143_5, e143, Af, Ag, Ah, Ai, Aj, Ac, Ak, Al, An, Ao, Ap, Aq⟩ := at_T54 HR0.out (ji11) p143 q143; obtain rfl : Bc = Bd := (by injection e143); replace Af := cU HB.out Af; replace Ag := cU HB.out Ag; replace Ah := cU HB.out Ah; replace Ai := cU HB.out Ai; replace Aj := cU HB.out Aj; replace Ac := cU HB.out Ac; replace Ak := cU HB.out Ak; replace Al := cU HB.out Al; replace An := cU HB.out An; replace Ao := cU HB.out Ao; have Be := Am Aq; have Bf := Am Ap; clear Aq Ap; replace p143 := eq_true p143; replace q143 := eq_true q143; have p144 : 0 ≤ ((ji11) : Int) := of_decide_eq_true pS; have q144 : (ji11) < (l0.length : Int) := of_decide_eq_true pS; obtain ⟨Bg, Bu, c144_5, e144, Ax, Ay, Az, A1, A2, Ar, A3, A4, A5, A6, A7, A9⟩ := at_T54 HR0.out (ji11) p144 q144; obtain rfl : Bc = Bg := (by injection e144); replace Ax := cU HB.out Ax; replace Ay := cU HB.out Ay; replace Az := cU HB.out Az; replace A1 := cU HB.out A1; replace A2 := cU HB.out A2; replace Ar := cU HB.out Ar; replace A3 := cU HB.out A3; replace A4 := cU HB.out A4; replace A5 := cU HB.out A5; replace A6 := cU HB.out A6; have Bi := Am A9; have Bj := Am A7; clear A9 A7; replace p144 := eq_true p144; replace q144 := eq_true q144; have ea_ := Option.some.inj (Ac.symm.trans Ar); injection ea_ with ea_ en_ ec_; subst ea_; subst ec_; clear en_)); try go_wp2_with (first | ((with_reducible refine zD 4 rfl ?_); (try (refine gate_guard (by rfl) ?_; dsimp only)); refine zE 4 #[.int .i64 0, .int .i64 0, .int .i64 0, .string (⟨#[]⟩ : ByteArray), .bool false, .slice none 0 0, .int .i64 0, .int .i64 0, .int .i64 0, .int .u32 0] 54 ?_; intro Ae hg w16 hbox hb; have Ab := Am (hbox); have Au := zA hg HB; replace HB := zB HB hb; have Ad := Au; clear hb hbox hg; obtain ⟨Bx, By, Bz, B0, B1, B2, B3, B4, B5, B6⟩ := bc10 Ab.out; obtain ⟨B7, B8, B9, Ca, Cb, Cc, Cd, Ce, Cf, Cg⟩ := bf10 Ab.out) | (go_at_call 34; (with_reducible refine (entry_Check.calls k2 ((rd_T54 l0 Aa).f0) ((rd_T54 l0 Aa).f1) ((rd_T54 l0 Aa).f2) ((rd_T54 l0 Aa).f3) ((rd_T54 l0 Aa).f4.f0) _ _ ((rd_T54 l0 Aa).f4.f1) ((rd_T54 l0 Aa).f4.f2.f0) ((rd_T54 l0 Aa).f4.f2.f1) ((rd_T54 l0 Aa).f4.f2.f2) ((rd_T54 l0 Aa).f4.f2.f3) t142 _ ?Av ?Aw A8.out).mono ?_); (case Av => exact Kd.C_below As.out (pE HB.out Ad.out)); (case Aw => exact At.out); rintro e w18 ⟨rfl, hb⟩; replace Ab := Am (blk_below (g := Ae) (kX0 Ab.out) hb); replace HB := zX1 HB Ad.out hb; (try clear hb); obtain ⟨Ch, Ci, Cj, Ck, Cl, Cm, Cn, Co, Cp, Cq⟩ := bc10 Ab.out; obtain ⟨Cr, Cs, Ct, Cu, Cv, Cw, Cx, Cy, Cz, C0⟩ := bf10 Ab.out; have p143 : 0 ≤ ((ji11) : Int) := of_decide_eq_true pS; have q143 : (ji11) < (l0.length : Int) := of_decide_eq_true pS; obtain ⟨Bd, Bh, c143_5, e143, Af, Ag, Ah, Ai, Aj, Ac, Ak, Al, An, Ao, Ap, Aq⟩ := at_T54 HR0.out (ji11) p143 q143; obtain rfl : Bc = Bd := (by injection e143); replace Af := cU HB.out Af; replace Ag := cU HB.out Ag; replace Ah := cU HB.out Ah; replace Ai := cU HB.out Ai; replace Aj := cU HB.out Aj; replace Ac := cU HB.out Ac; replace Ak := cU HB.out Ak; replace Al := cU HB.out Al; replace An := cU HB.out An; replace Ao := cU HB.out Ao; have Be := Am Aq; have Bf := Am Ap; clear Aq Ap; replace p143 := eq_true p143; replace q143 := eq_true q143; have p144 : 0 ≤ ((ji11) : Int) := of_decide_eq_true pS; have q144 : (ji11) < (l0.length : Int) := of_decide_eq_true pS; obtain ⟨Bg, Bu, c144_5, e144, Ax, Ay, Az, A1, A2, Ar, A3, A4, A5, A6, A7, A9⟩ := at_T54 HR0.out (ji11) p144 q144; obtain rfl : Bc = Bg := (by injection e144); replace Ax := cU HB.out Ax; replace Ay := cU HB.out Ay; replace Az := cU HB.out Az; replace A1 := cU HB.out A1; replace A2 := cU HB.out A2; replace Ar := cU HB.out Ar; replace A3 := cU HB.out A3; replace A4 := cU HB.out A4; replace A5 := cU HB.out A5; replace A6 := cU HB.out A6; have Bi := Am A9; have Bj := Am A7; clear A9 A7; replace p144 := eq_true p144; replace q144 := eq_true q144; have ea_ := Option.some.inj (Ac.symm.trans Ar); injection ea_ with ea_ en_ ec_; subst ea_; subst ec_; clear en_)))
      go_ret
      exact ⟨by first | rfl | (simp [errW_none, errW_some] <;> rfl) | (simp only [← hji11]; first | rfl | (simp [errW_none, errW_some] <;> rfl)) | (simp [*, errW_none, errW_some] <;> rfl), pE HB.out Ad.out⟩
     rw [if_neg c15] at H
     have c15b0 := decide_eq_false c15
     clear c15
     have H' := Am H
     clear H
     have p140 : 0 ≤ (Aa : Int) := of_decide_eq_true pS
     have q140 : Aa < (l0.length : Int) := of_decide_eq_true pS
     obtain ⟨Bc, Bv, c140_5, e140, Bk, Bl, Bm, Bn, Bo, Bp, Bq, Br, Bs, Bt, Ba, Bb⟩ := at_T54u HR0.out Aa p140 q140 HB.out
     cases e140
     have As := Am Bb
     have At := Am Ba
     clear Bb Ba
     replace p140 := eq_true p140
     replace q140 := eq_true q140
     go_wp2_with (first | ((with_reducible refine zD 4 rfl ?_); (try (refine gate_guard (by rfl) ?_; dsimp only)); refine zE 4 #[.int .i64 0, .int .i64 0, .int .i64 0, .string (⟨#[]⟩ : ByteArray), .bool false, .slice none 0 0, .int .i64 0, .int .i64 0, .int .i64 0, .int .u32 0] 54 ?_; intro Ae hg w20 hbox hb; have Ab := Am (hbox); have Au := zA hg HB; replace HB := zB HB hb; have Ad := Au; clear hb hbox hg; obtain ⟨C1, C2, C3, C4, C5, C6, C7, C8, C9, Da⟩ := bc10 Ab.out; obtain ⟨Db, Dc, Dd, De, Df, Dg, Dh, Di, Dj, Dk⟩ := bf10 Ab.out) | (go_at_call 34; (with_reducible refine (entry_Check.calls k2 ((rd_T54 l0 Aa).f0) ((rd_T54 l0 Aa).f1) ((rd_T54 l0 Aa).f2) ((rd_T54 l0 Aa).f3) ((rd_T54 l0 Aa).f4.f0) _ _ ((rd_T54 l0 Aa).f4.f1) ((rd_T54 l0 Aa).f4.f2.f0) ((rd_T54 l0 Aa).f4.f2.f1) ((rd_T54 l0 Aa).f4.f2.f2) ((rd_T54 l0 Aa).f4.f2.f3) t142 _ ?Av ?Aw A8.out).mono ?_); (case Av => exact Kd.C_below As.out (pE HB.out Ad.out)); (case Aw => exact At.out); rintro e w22 ⟨rfl, hb⟩; replace Ab := Am (blk_below (g := Ae) (kX0 Ab.out) hb); replace HB := zX1 HB Ad.out hb; (try clear hb); obtain ⟨Dl, Dm, Dn, Do, Dp, Dq, Dr, Ds, Dt, Du⟩ := bc10 Ab.out; obtain ⟨Dv, Dw, Dx, Dy, Dz, D0, D1, D2, D3, D4⟩ := bf10 Ab.out; have p143 : 0 ≤ ((ji11) : Int) := of_decide_eq_true pS; have q143 : (ji11) < (l0.length : Int) := of_decide_eq_true pS; obtain ⟨Bd, Bh, c143_5, e143, Af, Ag, Ah, Ai, Aj, Ac, Ak, Al, An, Ao, Ap, Aq⟩ := at_T54 HR0.out (ji11) p143 q143; obtain rfl : Bc = Bd := (by injection e143); replace Af := cU HB.out Af; replace Ag := cU HB.out Ag; replace Ah := cU HB.out Ah; replace Ai := cU HB.out Ai; replace Aj := cU HB.out Aj; replace Ac := cU HB.out Ac; replace Ak := cU HB.out Ak; replace Al := cU HB.out Al; replace An := cU HB.out An; replace Ao := cU HB.out Ao; have Be := Am Aq; have Bf := Am Ap; clear Aq Ap; replace p143 := eq_true p143; replace q143 := eq_true q143; have p144 : 0 ≤ ((ji11) : Int) := of_decide_eq_true pS; have q144 : (ji11) < (l0.length : Int) := of_decide_eq_true pS; obtain ⟨Bg, Bu, c144_5, e144, Ax, Ay, Az, A1, A2, Ar, A3, A4, A5, A6, A7, A9⟩ := at_T54 HR0.out (ji11) p144 q144; obtain rfl : Bc = Bg := (by injection e144); replace Ax := cU HB.out Ax; replace Ay := cU HB.out Ay; replace Az := cU HB.out Az; replace A1 := cU HB.out A1; replace A2 := cU HB.out A2; replace Ar := cU HB.out Ar; replace A3 := cU HB.out A3; replace A4 := cU HB.out A4; replace A5 := cU HB.out A5; replace A6 := cU HB.out A6; have Bi := Am A9; have Bj := Am A7; clear A9 A7; replace p144 := eq_true p144; replace q144 := eq_true q144; have ea_ := Option.some.inj (Ac.symm.trans Ar); injection ea_ with ea_ en_ ec_; subst ea_; subst ec_; clear en_))
     repeat (go_quiet (first | ((with_reducible refine zD 4 rfl ?_); (try (refine gate_guard (by rfl) ?_; dsimp only)); refine zE 4 #[.int .i64 0, .int .i64 0, .int .i64 0, .string (⟨#[]⟩ : ByteArray), .bool false, .slice none 0 0, .int .i64 0, .int .i64 0, .int .i64 0, .int .u32 0] 54 ?_; intro Ae hg w20 hbox hb; have Ab := Am (hbox); have Au := zA hg HB; replace HB := zB HB hb; have Ad := Au; clear hb hbox hg; obtain ⟨C1, C2, C3, C4, C5, C6, C7, C8, C9, Da⟩ := bc10 Ab.out; obtain ⟨Db, Dc, Dd, De, Df, Dg, Dh, Di, Dj, Dk⟩ := bf10 Ab.out) | (go_at_call 34; (with_reducible refine (entry_Check.calls k2 ((rd_T54 l0 Aa).f0) ((rd_T54 l0 Aa).f1) ((rd_T54 l0 Aa).f2) ((rd_T54 l0 Aa).f3) ((rd_T54 l0 Aa).f4.f0) _ _ ((rd_T54 l0 Aa).f4.f1) ((rd_T54 l0 Aa).f4.f2.f0) ((rd_T54 l0 Aa).f4.f2.f1) ((rd_T54 l0 Aa).f4.f2.f2) ((rd_T54 l0 Aa).f4.f2.f3) t142 _ ?Av ?Aw A8.out).mono ?_); (case Av => exact Kd.C_below As.out (pE HB.out Ad.out)); (case Aw => exact At.out); rintro e w22 ⟨rfl, hb⟩; replace Ab := Am (blk_below (g := Ae) (kX0 Ab.out) hb); replace HB := zX1 HB Ad.out hb; (try clear hb); obtain ⟨Dl, Dm, Dn, Do, Dp, Dq, Dr, Ds, Dt, Du⟩ := bc10 Ab.out; obtain ⟨Dv, Dw, Dx, Dy, Dz, D0, D1, D2, D3, D4⟩ := bf10 Ab.out; have p143 : 0 ≤ ((ji11) : Int) := of_decide_eq_true pS; have q143 : (ji11) < (l0.length : Int) := of_decide_eq_true pS; obtain ⟨Bd, Bh, c143_5, e143, Af, Ag, Ah, Ai, Aj, Ac, Ak, Al, An, Ao, Ap, Aq⟩ := at_T54 HR0.out (ji11) p143 q143; obtain rfl : Bc = Bd := (by injection e143); replace Af := cU HB.out Af; replace Ag := cU HB.out Ag; replace Ah := cU HB.out Ah; replace Ai := cU HB.out Ai; replace Aj := cU HB.out Aj; replace Ac := cU HB.out Ac; replace Ak := cU HB.out Ak; replace Al := cU HB.out Al; replace An := cU HB.out An; replace Ao := cU HB.out Ao; have Be := Am Aq; have Bf := Am Ap; clear Aq Ap; replace p143 := eq_true p143; replace q143 := eq_true q143; have p144 : 0 ≤ ((ji11) : Int) := of_decide_eq_true pS; have q144 : (ji11) < (l0.length : Int) := of_decide_eq_true pS; obtain ⟨Bg, Bu, c144_5, e144, Ax, Ay, Az, A1, A2, Ar, A3, A4, A5, A6, A7, A9⟩ := at_T54 HR0.out (ji11) p144 q144; obtain rfl : Bc = Bg := (by injection e144); replace Ax := cU HB.out Ax; replace Ay := cU HB.out Ay; replace Az := cU HB.out Az; replace A1 := cU HB.out A1; replace A2 := cU HB.out A2; replace Ar := cU HB.out Ar; replace A3 := cU HB.out A3; replace A4 := cU HB.out A4; replace A5 := cU HB.out A5; replace A6 := cU HB.out A6; have Bi := Am A9; have Bj := Am A7; clear A9 A7; replace p144 := eq_true p144; replace q144 := eq_true q144; have ea_ := Option.some.inj (Ac.symm.trans Ar); injection ea_ with ea_ en_ ec_; subst ea_; subst ec_; clear en_)); try go_wp2_with (first | ((with_reducible refine zD 4 rfl ?_); (try (refine gate_guard (by rfl) ?_; dsimp only)); refine zE 4 #[.int .i64 0, .int .i64 0, .int .i64 0, .string (⟨#[]⟩ : ByteArray), .bool false, .slice none 0 0, .int .i64 0, .int .i64 0, .int .i64 0, .int .u32 0] 54 ?_; intro Ae hg w20 hbox hb; have Ab := Am (hbox); have Au := zA hg HB; replace HB := zB HB hb; have Ad := Au; clear hb hbox hg; obtain ⟨C1, C2, C3, C4, C5, C6, C7, C8, C9, Da⟩ := bc10 Ab.out; obtain ⟨Db, Dc, Dd, De, Df, Dg, Dh, Di, Dj, Dk⟩ := bf10 Ab.out) | (go_at_call 34; (with_reducible refine (entry_Check.calls k2 ((rd_T54 l0 Aa).f0) ((rd_T54 l0 Aa).f1) ((rd_T54 l0 Aa).f2) ((rd_T54 l0 Aa).f3) ((rd_T54 l0 Aa).f4.f0) _ _ ((rd_T54 l0 Aa).f4.f1) ((rd_T54 l0 Aa).f4.f2.f0) ((rd_T54 l0 Aa).f4.f2.f1) ((rd_T54 l0 Aa).f4.f2.f2) ((rd_T54 l0 Aa).f4.f2.f3) t142 _ ?Av ?Aw A8.out).mono ?_); (case Av => exact Kd.C_below As.out (pE HB.out Ad.out)); (case Aw => exact At.out); rintro e w22 ⟨rfl, hb⟩; replace Ab := Am (blk_below (g := Ae) (kX0 Ab.out) hb); replace HB := zX1 HB Ad.out hb; (try clear hb); obtain ⟨Dl, Dm, Dn, Do, Dp, Dq, Dr, Ds, Dt, Du⟩ := bc10 Ab.out; obtain ⟨Dv, Dw, Dx, Dy, Dz, D0, D1, D2, D3, D4⟩ := bf10 Ab.out; have p143 : 0 ≤ ((ji11) : Int) := of_decide_eq_true pS; have q143 : (ji11) < (l0.length : Int) := of_decide_eq_true pS; obtain ⟨Bd, Bh, c143_5, e143, Af, Ag, Ah, Ai, Aj, Ac, Ak, Al, An, Ao, Ap, Aq⟩ := at_T54 HR0.out (ji11) p143 q143; obtain rfl : Bc = Bd := (by injection e143); replace Af := cU HB.out Af; replace Ag := cU HB.out Ag; replace Ah := cU HB.out Ah; replace Ai := cU HB.out Ai; replace Aj := cU HB.out Aj; replace Ac := cU HB.out Ac; replace Ak := cU HB.out Ak; replace Al := cU HB.out Al; replace An := cU HB.out An; replace Ao := cU HB.out Ao; have Be := Am Aq; have Bf := Am Ap; clear Aq Ap; replace p143 := eq_true p143; replace q143 := eq_true q143; have p144 : 0 ≤ ((ji11) : Int) := of_decide_eq_true pS; have q144 : (ji11) < (l0.length : Int) := of_decide_eq_true pS; obtain ⟨Bg, Bu, c144_5, e144, Ax, Ay, Az, A1, A2, Ar, A3, A4, A5, A6, A7, A9⟩ := at_T54 HR0.out (ji11) p144 q144; obtain rfl : Bc = Bg := (by injection e144); replace Ax := cU HB.out Ax; replace Ay := cU HB.out Ay; replace Az := cU HB.out Az; replace A1 := cU HB.out A1; replace A2 := cU HB.out A2; replace Ar := cU HB.out Ar; replace A3 := cU HB.out A3; replace A4 := cU HB.out A4; replace A5 := cU HB.out A5; replace A6 := cU HB.out A6; have Bi := Am A9; have Bj := Am A7; clear A9 A7; replace p144 := eq_true p144; replace q144 := eq_true q144; have ea_ := Option.some.inj (Ac.symm.trans Ar); injection ea_ with ea_ en_ ec_; subst ea_; subst ec_; clear en_)))
     go_roundg k2
     case measure => have := HJ1.out; have := HK2.out; omega
     case rel => exact ⟨(wrap64 (Aa + 1)), zr, H', ⟨by have := HJ1.out; have := HK2.out; omega⟩, ⟨pE HB.out Ad.out⟩⟩
end
section
attribute [local go_sem] max2_int min2_int max_two min_two max_three min_three max_four min_four
attribute [local go_sem] wrap64_l1 wrap64_l2 wrap64_l3 wrap64_l4 wrap64_l5
attribute [local go_sem high] eqA24
mutual
def wal_Check.j0 : Nat → Bool → Bool → Bool → Bool → Int → List (S54) → Int → Int → Int → Int → Option (Int)
 | 0, _, _, _, _, _, _, _, _, _, _ => none
 | k + 1, x3, x4, x5, x15, x146000, x146001, x146002, x146003, x146004, x146005 => if x15 = true then (wal_Check.j2 k x3 x4 x15 x146000 x146001 x146002 x146003 x146004 x146005) else (if x3 = true then (wal_Check.j1 k x3 x4 x5 false x146000 x146001 x146002 x146003 x146004 x146005) else (wal_Check.j1 k x3 x4 x5 (decide ((x146001.length : Int) > 0)) x146000 x146001 x146002 x146003 x146004 x146005))
def wal_Check.j2 : Nat → Bool → Bool → Bool → Int → List (S54) → Int → Int → Int → Int → Option (Int)
 | 0, _, _, _, _, _, _, _, _, _ => none
 | k + 1, x3, x4, x15, x146000, x146001, x146002, x146003, x146004, x146005 => if x15 = true then (some 1) else (if x3 = true then ((entry_Batch.f k x146001).bind fun t146 => (some t146)) else (if x4 = true then ((hard_Check.f x146002 x146003 x146004).bind fun t147 => (some t147)) else (if x146005 < 1 then (some 1) else (if x146005 > 2147483647 then (some 1) else (some 0)))))
def wal_Check.j1 : Nat → Bool → Bool → Bool → Bool → Int → List (S54) → Int → Int → Int → Int → Option (Int)
 | 0, _, _, _, _, _, _, _, _, _, _ => none
 | k + 1, x3, x4, x5, x15, x146000, x146001, x146002, x146003, x146004, x146005 => if x15 = true then (wal_Check.j2 k x3 x4 x15 x146000 x146001 x146002 x146003 x146004 x146005) else (if x4 = true then (if x5 = true then (wal_Check.j2 k x3 x4 false x146000 x146001 x146002 x146003 x146004 x146005) else (wal_Check.j2 k x3 x4 (x146005 != 0) x146000 x146001 x146002 x146003 x146004 x146005)) else (if (!(x146002 == 0) || (!(x146003 == 0) || (!(x146004 == 0)))) = true then (wal_Check.j2 k x3 x4 (!(x146002 == 0) || (!(x146003 == 0) || (!(x146004 == 0)))) x146000 x146001 x146002 x146003 x146004 x146005) else (if x5 = true then (wal_Check.j2 k x3 x4 false x146000 x146001 x146002 x146003 x146004 x146005) else (wal_Check.j2 k x3 x4 (x146005 != 0) x146000 x146001 x146002 x146003 x146004 x146005))))
end
def wal_Check.f (k : Nat) (a0_0 : Int) (l0_1 : List (S54)) (a0_2 : Int) (a0_3 : Int) (a0_4 : Int) (a0_5 : Int) : Option (Int) := if a0_0 = 1 then (wal_Check.j0 k (a0_0 == 1) (a0_0 == 2) (a0_0 == 3) false a0_0 l0_1 a0_2 a0_3 a0_4 a0_5) else (if a0_0 = 2 then (wal_Check.j0 k (a0_0 == 1) (a0_0 == 2) (a0_0 == 3) false a0_0 l0_1 a0_2 a0_3 a0_4 a0_5) else (wal_Check.j0 k (a0_0 == 1) (a0_0 == 2) (a0_0 == 3) (!(a0_0 == 3)) a0_0 l0_1 a0_2 a0_3 a0_4 a0_5))
theorem wal_Check.mono_l : ∀ k, (∀ y0 y1 y2 y3 y4 y5 y6 y7 y8 y9, LeO (wal_Check.j0 k y0 y1 y2 y3 y4 y5 y6 y7 y8 y9) (wal_Check.j0 (k + 1) y0 y1 y2 y3 y4 y5 y6 y7 y8 y9)) ∧ (∀ y0 y1 y2 y3 y4 y5 y6 y7 y8, LeO (wal_Check.j2 k y0 y1 y2 y3 y4 y5 y6 y7 y8) (wal_Check.j2 (k + 1) y0 y1 y2 y3 y4 y5 y6 y7 y8)) ∧ (∀ y0 y1 y2 y3 y4 y5 y6 y7 y8 y9, LeO (wal_Check.j1 k y0 y1 y2 y3 y4 y5 y6 y7 y8 y9) (wal_Check.j1 (k + 1) y0 y1 y2 y3 y4 y5 y6 y7 y8 y9))
 | 0 => ⟨fun _ _ _ _ _ _ _ _ _ _ r h => by simp [wal_Check.j0] at h, fun _ _ _ _ _ _ _ _ _ r h => by simp [wal_Check.j2] at h, fun _ _ _ _ _ _ _ _ _ _ r h => by simp [wal_Check.j1] at h⟩
 | k + 1 => by
  obtain ⟨ih0, ih1, ih2⟩ := wal_Check.mono_l k
  refine ⟨?_, ?_, ?_⟩
  ·intro y0 y1 y2 y3 y4 y5 y6 y7 y8 y9
   unfold wal_Check.j0
   repeat' (with_reducible first | exact ih0 .. | exact ih1 .. | exact ih2 .. | exact entry_Batch.mono .. | exact LeO.refl .. | exact LeO.none .. | refine LeO.ite ?_ ?_ | refine LeO.bind ?_ (fun _ => ?_))
  ·intro y0 y1 y2 y3 y4 y5 y6 y7 y8
   unfold wal_Check.j2
   repeat' (with_reducible first | exact ih0 .. | exact ih1 .. | exact ih2 .. | exact entry_Batch.mono .. | exact LeO.refl .. | exact LeO.none .. | refine LeO.ite ?_ ?_ | refine LeO.bind ?_ (fun _ => ?_))
  ·intro y0 y1 y2 y3 y4 y5 y6 y7 y8 y9
   unfold wal_Check.j1
   repeat' (with_reducible first | exact ih0 .. | exact ih1 .. | exact ih2 .. | exact entry_Batch.mono .. | exact LeO.refl .. | exact LeO.none .. | refine LeO.ite ?_ ?_ | refine LeO.bind ?_ (fun _ => ?_))
theorem wal_Check.mono : ∀ a0 a1 a2 a3 a4 a5 k, LeO (wal_Check.f k a0 a1 a2 a3 a4 a5) (wal_Check.f (k + 1) a0 a1 a2 a3 a4 a5) := by
 intro a0 a1 a2 a3 a4 a5 k
 obtain ⟨ih0, ih1, ih2⟩ := wal_Check.mono_l k
 unfold wal_Check.f
 repeat' (with_reducible first | exact ih0 .. | exact ih1 .. | exact ih2 .. | exact entry_Batch.mono .. | exact LeO.refl .. | exact LeO.none .. | refine LeO.ite ?_ ?_ | refine LeO.bind ?_ (fun _ => ?_))
set_option maxRecDepth 100000 in
theorem wal_Check.calls (k : Nat) (a0_0 : Int) (A0_1 : Option Addr) (c0_1 : Nat) (l0_1 : List (S54)) (a0_2 : Int) (a0_3 : Int) (a0_4 : Int) (a0_5 : Int) (r : Int) (w : World) (hr0_1 : Kd.C k54 w A0_1 l0_1.length l0_1) (hc0_1 : l0_1.length ≤ c0_1) (h : wal_Check.f k a0_0 l0_1 a0_2 a0_3 a0_4 a0_5 = some r) :
 Calls Try.prog 27 #[.agg #[.int .i64 a0_0, .slice A0_1 l0_1.length c0_1, .int .i64 a0_2, .int .i64 a0_3, .int .i64 a0_4, .int .i64 a0_5]] w fun e w' => e = .returned (.int .i64 r) ∧ Below w.heap.size w w' := by
 have hu34 := Try.underlying34
 have hu24 := Try.underlying24
 have A8 := Am hr0_1
 have A9 := Am hc0_1
 clear hr0_1 hc0_1
 have HB := Am (Below.refl w.heap.size w)
 unfold wal_Check.f at h
 have H := h
 clear h
 have HC2 := Am H
 clear H
 go_enter Try.func27, Try.ntmps27
 go_upto_region 2 with (first | ((with_reducible refine zD 1 rfl ?_); (try (refine gate_guard (by rfl) ?_; dsimp only)); refine zE 1 #[.int .i64 a0_0, .slice A0_1 l0_1.length c0_1, .int .i64 a0_2, .int .i64 a0_3, .int .i64 a0_4, .int .i64 a0_5] 34 ?_; intro Ac hg w3 hbox hb; have Aa := Am (hbox); have Aq := zA hg HB; replace HB := zB HB hb; have Ab := Aq; clear hb hbox hg; obtain ⟨Ad, Ae, Af, Ag, Ah, Ai⟩ := bc6 Aa.out; obtain ⟨Aj, Ak, Al, An, Ao, Ap⟩ := bf6 Aa.out))
 repeat (go_quiet (first | ((with_reducible refine zD 1 rfl ?_); (try (refine gate_guard (by rfl) ?_; dsimp only)); refine zE 1 #[.int .i64 a0_0, .slice A0_1 l0_1.length c0_1, .int .i64 a0_2, .int .i64 a0_3, .int .i64 a0_4, .int .i64 a0_5] 34 ?_; intro Ac hg w3 hbox hb; have Aa := Am (hbox); have Aq := zA hg HB; replace HB := zB HB hb; have Ab := Aq; clear hb hbox hg; obtain ⟨Ad, Ae, Af, Ag, Ah, Ai⟩ := bc6 Aa.out; obtain ⟨Aj, Ak, Al, An, Ao, Ap⟩ := bf6 Aa.out)); go_upto_region 2 with (first | ((with_reducible refine zD 1 rfl ?_); (try (refine gate_guard (by rfl) ?_; dsimp only)); refine zE 1 #[.int .i64 a0_0, .slice A0_1 l0_1.length c0_1, .int .i64 a0_2, .int .i64 a0_3, .int .i64 a0_4, .int .i64 a0_5] 34 ?_; intro Ac hg w3 hbox hb; have Aa := Am (hbox); have Aq := zA hg HB; replace HB := zB HB hb; have Ab := Aq; clear hb hbox hg; obtain ⟨Ad, Ae, Af, Ag, Ah, Ai⟩ := bc6 Aa.out; obtain ⟨Aj, Ak, Al, An, Ao, Ap⟩ := bf6 Aa.out)))
 (try simp only [Act.put, List.setIfInBounds_toArray, List.set_cons_zero, List.set_cons_succ])
 go_cut [15] (fun v15 wc => ∃ (kq : Nat) (At : Bool), v15 = .bool At ∧ Aside0 (wal_Check.j0 kq (a0_0 == 1) (a0_0 == 2) (a0_0 == 3) At a0_0 l0_1 a0_2 a0_3 a0_4 a0_5 = some r) ∧ Aside0 (kq ≤ k) ∧ Aside0 (wc.heap[Ac]? = some (.cells #[.int .i64 a0_0, (.slice A0_1 l0_1.length c0_1), .int .i64 a0_2, .int .i64 a0_3, .int .i64 a0_4, .int .i64 a0_5] 34 (0, 0))) ∧ Aside0 (Below w.heap.size w wc))
 case first =>
  have H := HC2.out
  clear HC2
  by_cases c5 : a0_0 = 1
  ·rw [if_pos c5] at H
   obtain ⟨c5b0, c5b1⟩ := zc c5
   clear c5
   (first | rw [c5b0] | (simp only [i64_w, i32_w]; rw [c5b0]) | skip)
   have H' := Am H
   clear H
   go_wp2
   repeat (go_quiet (fail); try go_wp2)
   (refine Met.intro ?_; go_step; (repeat apply Exists.intro); refine ⟨?rel, ?eq_⟩; (case eq_ => first | rfl | (simp only [c5b0]; rfl)))
   case rel => exact ⟨_, (false), zr, H', ⟨zo⟩, ⟨pK Aa.out⟩, ⟨pE HB.out Ab.out⟩⟩
  rw [if_neg c5] at H
  obtain ⟨c5b0, c5b1⟩ := zk c5
  (first | rw [c5b0] | (simp only [i64_w, i32_w]; rw [c5b0]) | skip)
  by_cases c6 : a0_0 = 2
  rotate_left
  ·rw [if_neg c6] at H
   obtain ⟨c6b0, c6b1⟩ := zk c6
   have H' := Am H
   clear H
   go_wp2
   repeat (go_quiet (fail); try go_wp2)
   (refine Met.intro ?_; go_step; (repeat apply Exists.intro); refine ⟨?rel, ?eq_⟩; (case eq_ => first | rfl | (simp only [c5b0, c6b0]; rfl)))
   case rel => exact ⟨_, (!(a0_0 == 3)), zr, H', ⟨zo⟩, ⟨pK Aa.out⟩, ⟨pE HB.out Ab.out⟩⟩
  rw [if_pos c6] at H
  obtain ⟨c6b0, c6b1⟩ := zc c6
  clear c6
  have H' := Am H
  clear H
  go_wp2
  repeat (go_quiet (fail); try go_wp2)
  (refine Met.intro ?_; go_step; (repeat apply Exists.intro); refine ⟨?rel, ?eq_⟩; (case eq_ => first | rfl | (simp only [c5b0, c6b0]; rfl)))
  case rel => exact ⟨_, (false), zr, H', ⟨zo⟩, ⟨pK Aa.out⟩, ⟨pE HB.out Ab.out⟩⟩
 case rest =>
  clear HC2
  try clear c2
  try clear p2
  try clear c5
  try clear c5b0
  try clear c5b1
  try clear c6
  try clear c6b0
  try clear c6b1
  try clear Ad Ae Af Ag Ah Ai
  try clear Aj Ak Al An Ao Ap
  obtain ⟨kq, At, rfl, HA, HJ1, Aa, HB⟩ := hcut
  cases kq with
  | zero => exact absurd HA.out (by simp [wal_Check.j0])
  | succ kj1 =>
   have H := HA.out
   clear HA
   simp only [wal_Check.j0] at H
   have HC7 := Am H
   clear H
   go_upto_if 15 with (fail)
   repeat (go_quiet (fail); go_upto_if 15 with (fail))
   go_cut [15] (fun v15 wc => ∃ (kq : Nat) (Au : Bool), v15 = .bool Au ∧ Aside0 (wal_Check.j2 kq (a0_0 == 1) (a0_0 == 2) Au a0_0 l0_1 a0_2 a0_3 a0_4 a0_5 = some r) ∧ Aside0 (kq ≤ kj1) ∧ Aside0 (wc.heap[Ac]? = some (.cells #[.int .i64 a0_0, (.slice A0_1 l0_1.length c0_1), .int .i64 a0_2, .int .i64 a0_3, .int .i64 a0_4, .int .i64 a0_5] 34 (0, 0))) ∧ Aside0 (Below w.heap.size w wc))
   case first =>
    have H := HC7.out
    clear HC7
    by_cases c8 : At = true
    ·subst c8
     rw [if_pos rfl] at H
     have H' := Am H
     clear H
     go_wp2
     repeat (go_quiet (fail); try go_wp2)
     go_meet
     case rel => exact ⟨_, (true), zr, H', ⟨by have := HJ1.out; first | omega | exact Nat.le_refl _⟩, ⟨pK Aa.out⟩, ⟨pE HB.out Ab.out⟩⟩
    replace c8 := Bool.eq_false_iff.mpr c8
    subst c8
    rw [if_neg zF] at H
    have HC9 := Am H
    clear H
    go_upto_region 3 with (fail)
    repeat (go_quiet (fail); go_upto_region 3 with (fail))
    go_cut [15] (fun v15 wc => ∃ (kq : Nat) (Av : Bool), v15 = .bool Av ∧ Aside0 (wal_Check.j1 kq (a0_0 == 1) (a0_0 == 2) (a0_0 == 3) Av a0_0 l0_1 a0_2 a0_3 a0_4 a0_5 = some r) ∧ Aside0 (kq ≤ kj1) ∧ Aside0 (wc.heap[Ac]? = some (.cells #[.int .i64 a0_0, (.slice A0_1 l0_1.length c0_1), .int .i64 a0_2, .int .i64 a0_3, .int .i64 a0_4, .int .i64 a0_5] 34 (0, 0))) ∧ Aside0 (Below w.heap.size w wc))
    case first =>
     have H := HC9.out
     clear HC9
     by_cases c10 : (a0_0 == 1) = true
     ·rw [if_pos c10] at H
      have c10b0 : (a0_0 == 1) = true := c10
      (try (have c10b1 : decide (a0_0 = 1) = true := by simpa using c10))
      (try (have c10b2 : (a0_0 == 1) = true := by simpa using c10))
      clear c10
      (first | rw [c10b0] | (simp only [i64_w, i32_w]; rw [c10b0]) | skip)
      have H' := Am H
      clear H
      go_wp2
      repeat (go_quiet (fail); try go_wp2)
      (refine Met.intro ?_; go_step; (repeat apply Exists.intro); refine ⟨?rel, ?eq_⟩; (case eq_ => first | rfl | (simp only [c10b0]; rfl)))
      case rel => exact ⟨_, (false), zr, H', ⟨by have := HJ1.out; first | omega | exact Nat.le_refl _⟩, ⟨pK Aa.out⟩, ⟨pE HB.out Ab.out⟩⟩
     rw [if_neg c10] at H
     have c10b0 : (a0_0 == 1) = false := by simpa using c10
     (try (have c10b1 : decide (a0_0 = 1) = false := by simpa using c10))
     (try (have c10b2 : (a0_0 == 1) = false := by simpa using c10))
     (try (have c10b3 : ¬ (a0_0 = 1) := by simpa using c10))
     clear c10
     (first | rw [c10b0] | (simp only [i64_w, i32_w]; rw [c10b0]) | skip)
     have H' := Am H
     clear H
     obtain ⟨Aw, Ax, Ay, Az, A0, A1⟩ := bc6 Aa.out
     obtain ⟨A2, A3, A4, A5, A6, A7⟩ := bf6 Aa.out
     go_wp2
     repeat (go_quiet (fail); try go_wp2)
     (refine Met.intro ?_; go_step; (repeat apply Exists.intro); refine ⟨?rel, ?eq_⟩; (case eq_ => first | rfl | (simp only [c10b0]; rfl)))
     case rel => exact ⟨_, (decide ((l0_1.length : Int) > 0)), zr, H', ⟨by have := HJ1.out; first | omega | exact Nat.le_refl _⟩, ⟨pK Aa.out⟩, ⟨pE HB.out Ab.out⟩⟩
    case rest =>
     clear HC9
     try clear c1
     try clear c2
     try clear p2
     try clear c5
     try clear c5b0
     try clear c5b1
     try clear c6
     try clear c6b0
     try clear c6b1
     try clear c8
     try clear c10
     try clear c10b0
     try clear c10b1
     try clear c10b2
     try clear Aw Ax Ay Az A0 A1
     try clear Ad Ae Af Ag Ah Ai
     try clear A2 A3 A4 A5 A6 A7
     try clear Aj Ak Al An Ao Ap
     try clear p2
     obtain ⟨kq, Av, rfl, HA, HJ8, Aa, HB⟩ := hcut
     cases kq with
     | zero => exact absurd HA.out (by simp [wal_Check.j1])
     | succ kj8 =>
      have H := HA.out
      clear HA
      simp only [wal_Check.j1] at H
      by_cases c12 : Av = true
      ·subst c12
       rw [if_pos rfl] at H
       have H' := Am H
       clear H
       go_wp2
       repeat (go_quiet (fail); try go_wp2)
       go_meet
       case rel => exact ⟨_, (true), zr, H', ⟨by have := HJ1.out; have := HJ8.out; first | omega | exact Nat.le_refl _⟩, ⟨pK Aa.out⟩, ⟨pE HB.out Ab.out⟩⟩
      replace c12 := Bool.eq_false_iff.mpr c12
      subst c12
      rw [if_neg zF] at H
      by_cases c13 : (a0_0 == 2) = true
      ·rw [if_pos c13] at H
       have c13b0 : (a0_0 == 2) = true := c13
       (try (have c13b1 : decide (a0_0 = 2) = true := by simpa using c13))
       (try (have c13b2 : (a0_0 == 2) = true := by simpa using c13))
       clear c13
       by_cases c14 : (a0_0 == 3) = true
       ·rw [if_pos c14] at H
        have c14b0 : (a0_0 == 3) = true := c14
        (try (have c14b1 : decide (a0_0 = 3) = true := by simpa using c14))
        (try (have c14b2 : (a0_0 == 3) = true := by simpa using c14))
        clear c14
        have H' := Am H
        clear H
        go_wp2
        repeat (go_quiet (fail); try go_wp2)
        (refine Met.intro ?_; go_step; (repeat apply Exists.intro); refine ⟨?rel, ?eq_⟩; (case eq_ => first | rfl | (simp only [c13b0, c14b0]; rfl)))
        case rel => exact ⟨_, (false), zr, H', ⟨by have := HJ1.out; have := HJ8.out; first | omega | exact Nat.le_refl _⟩, ⟨pK Aa.out⟩, ⟨pE HB.out Ab.out⟩⟩
       rw [if_neg c14] at H
       have c14b0 : (a0_0 == 3) = false := by simpa using c14
       (try (have c14b1 : decide (a0_0 = 3) = false := by simpa using c14))
       (try (have c14b2 : (a0_0 == 3) = false := by simpa using c14))
       (try (have c14b3 : ¬ (a0_0 = 3) := by simpa using c14))
       clear c14
       have H' := Am H
       clear H
       obtain ⟨Ba, Bb, Bc, Bd, Be, Bf⟩ := bc6 Aa.out
       obtain ⟨Bg, Bh, Bi, Bj, Bk, Bl⟩ := bf6 Aa.out
       go_wp2
       repeat (go_quiet (fail); try go_wp2)
       (refine Met.intro ?_; go_step; (repeat apply Exists.intro); refine ⟨?rel, ?eq_⟩; (case eq_ => first | rfl | (simp only [c13b0, c14b0]; rfl)))
       case rel => exact ⟨_, ((a0_5 != 0)), zr, H', ⟨by have := HJ1.out; have := HJ8.out; first | omega | exact Nat.le_refl _⟩, ⟨pK Aa.out⟩, ⟨pE HB.out Ab.out⟩⟩
      rw [if_neg c13] at H
      have c13b0 : (a0_0 == 2) = false := by simpa using c13
      (try (have c13b1 : decide (a0_0 = 2) = false := by simpa using c13))
      (try (have c13b2 : (a0_0 == 2) = false := by simpa using c13))
      (try (have c13b3 : ¬ (a0_0 = 2) := by simpa using c13))
      clear c13
      by_cases c16 : (!(a0_2 == 0) || (!(a0_3 == 0) || (!(a0_4 == 0)))) = true
      ·rw [if_pos c16] at H
       have c16b0 : (!(a0_2 == 0) || (!(a0_3 == 0) || (!(a0_4 == 0)))) = true := c16
       clear c16
       have H' := Am H
       clear H
       obtain ⟨Bm, Bn, Bo, Bp, Bq, Br⟩ := bc6 Aa.out
       obtain ⟨Bs, Bt, Bu, Bv, Bw, Bx⟩ := bf6 Aa.out
       go_wp2
       repeat (go_quiet (fail); try go_wp2)
       (refine Met.intro ?_; go_step; (repeat apply Exists.intro); refine ⟨?rel, ?eq_⟩; (case eq_ => first | rfl | (simp only [c13b0, c16b0]; rfl)))
       case rel => exact ⟨_, ((!(a0_2 == 0) || (!(a0_3 == 0) || (!(a0_4 == 0))))), zr, H', ⟨by have := HJ1.out; have := HJ8.out; first | omega | exact Nat.le_refl _⟩, ⟨pK Aa.out⟩, ⟨pE HB.out Ab.out⟩⟩
      rw [if_neg c16] at H
      have c16b0 : (!(a0_2 == 0) || (!(a0_3 == 0) || (!(a0_4 == 0)))) = false := by simpa using c16
      clear c16
      by_cases c18 : (a0_0 == 3) = true
      ·rw [if_pos c18] at H
       have c18b0 : (a0_0 == 3) = true := c18
       (try (have c18b1 : decide (a0_0 = 3) = true := by simpa using c18))
       (try (have c18b2 : (a0_0 == 3) = true := by simpa using c18))
       clear c18
       have H' := Am H
       clear H
       obtain ⟨By, Bz, B0, B1, B2, B3⟩ := bc6 Aa.out
       obtain ⟨B4, B5, B6, B7, B8, B9⟩ := bf6 Aa.out
       go_wp2
       repeat (go_quiet (fail); try go_wp2)
       (refine Met.intro ?_; go_step; (repeat apply Exists.intro); refine ⟨?rel, ?eq_⟩; (case eq_ => first | rfl | (simp only [c13b0, c16b0, c18b0]; rfl)))
       case rel => exact ⟨_, (false), zr, H', ⟨by have := HJ1.out; have := HJ8.out; first | omega | exact Nat.le_refl _⟩, ⟨pK Aa.out⟩, ⟨pE HB.out Ab.out⟩⟩
      rw [if_neg c18] at H
      have c18b0 : (a0_0 == 3) = false := by simpa using c18
      (try (have c18b1 : decide (a0_0 = 3) = false := by simpa using c18))
      (try (have c18b2 : (a0_0 == 3) = false := by simpa using c18))
      (try (have c18b3 : ¬ (a0_0 = 3) := by simpa using c18))
      clear c18
      have H' := Am H
      clear H
      obtain ⟨Ca, Cb, Cc, Cd, Ce, Cf⟩ := bc6 Aa.out
      obtain ⟨Cg, Ch, Ci, Cj, Ck, Cl⟩ := bf6 Aa.out
      go_wp2
      repeat (go_quiet (fail); try go_wp2)
      (refine Met.intro ?_; go_step; (repeat apply Exists.intro); refine ⟨?rel, ?eq_⟩; (case eq_ => first | rfl | (simp only [c13b0, c16b0, c18b0]; rfl)))
      case rel => exact ⟨_, ((a0_5 != 0)), zr, H', ⟨by have := HJ1.out; have := HJ8.out; first | omega | exact Nat.le_refl _⟩, ⟨pK Aa.out⟩, ⟨pE HB.out Ab.out⟩⟩
   case rest =>
    clear HC7
    try clear c1
    try clear c2
    try clear p2
    try clear c5
    try clear c5b0
    try clear c5b1
    try clear c6
    try clear c6b0
    try clear c6b1
    try clear c8
    try clear c10
    try clear c10b0
    try clear c10b1
    try clear c10b2
    try clear c12
    try clear c13
    try clear c13b0
    try clear c13b1
    try clear c13b2
    try clear c14
    try clear c14b0
    try clear c14b1
    try clear c14b2
    try clear c16
    try clear c16b0
    try clear c18
    try clear c18b0
    try clear c18b1
    try clear c18b2
    try clear Aw Ax Ay Az A0 A1
    try clear Ba Bb Bc Bd Be Bf
    try clear Bm Bn Bo Bp Bq Br
    try clear By Bz B0 B1 B2 B3
    try clear Ca Cb Cc Cd Ce Cf
    try clear Ad Ae Af Ag Ah Ai
    try clear A2 A3 A4 A5 A6 A7
    try clear Bg Bh Bi Bj Bk Bl
    try clear Bs Bt Bu Bv Bw Bx
    try clear B4 B5 B6 B7 B8 B9
    try clear Cg Ch Ci Cj Ck Cl
    try clear Aj Ak Al An Ao Ap
    try clear p2
    obtain ⟨kq, Au, rfl, HA, HJ6, Aa, HB⟩ := hcut
    cases kq with
    | zero => exact absurd HA.out (by simp [wal_Check.j2])
    | succ kj6 =>
     have H := HA.out
     clear HA
     simp only [wal_Check.j2] at H
     by_cases c21 : Au = true
     ·subst c21
      rw [if_pos rfl] at H
      obtain rfl := Option.some.inj H
      go_wp2
      repeat (go_quiet (fail); try go_wp2)
      go_ret
      exact ⟨pX, pE HB.out Ab.out⟩
     replace c21 := Bool.eq_false_iff.mpr c21
     subst c21
     rw [if_neg zF] at H
     by_cases c22 : (a0_0 == 1) = true
     ·rw [if_pos c22] at H
      have c22b0 : (a0_0 == 1) = true := c22
      (try (have c22b1 : decide (a0_0 = 1) = true := by simpa using c22))
      (try (have c22b2 : (a0_0 == 1) = true := by simpa using c22))
      clear c22
      obtain ⟨t146, A23, H⟩ := zb H
      obtain rfl := Option.some.inj H
      obtain ⟨_, _, _, _, _, _⟩ := bc6 Aa.out
      obtain ⟨_, _, _, _, _, _⟩ := bf6 Aa.out
      go_wp2_with (first | (go_at_call 47; (with_reducible refine (entry_Batch.calls kj6 _ _ l0_1 t146 _ ?Ar ?As A23.out).mono ?_); (case Ar => exact pC (Kd.C_below A8.out HB.out)); (case As => exact A9.out); rintro e w25 ⟨rfl, hb⟩; replace Aa := kBa Aa hb; replace HB := zX1 HB Ab.out hb; (try clear hb)))
      repeat (go_quiet (first | (go_at_call 47; (with_reducible refine (entry_Batch.calls kj6 _ _ l0_1 t146 _ ?Ar ?As A23.out).mono ?_); (case Ar => exact pC (Kd.C_below A8.out HB.out)); (case As => exact A9.out); rintro e w25 ⟨rfl, hb⟩; replace Aa := kBa Aa hb; replace HB := zX1 HB Ab.out hb; (try clear hb))); try go_wp2_with (first | (go_at_call 47; (with_reducible refine (entry_Batch.calls kj6 _ _ l0_1 t146 _ ?Ar ?As A23.out).mono ?_); (case Ar => exact pC (Kd.C_below A8.out HB.out)); (case As => exact A9.out); rintro e w25 ⟨rfl, hb⟩; replace Aa := kBa Aa hb; replace HB := zX1 HB Ab.out hb; (try clear hb))))
      go_ret
      exact ⟨pX, pE HB.out Ab.out⟩
     rw [if_neg c22] at H
     have c22b0 : (a0_0 == 1) = false := by simpa using c22
     (try (have c22b1 : decide (a0_0 = 1) = false := by simpa using c22))
     (try (have c22b2 : (a0_0 == 1) = false := by simpa using c22))
     (try (have c22b3 : ¬ (a0_0 = 1) := by simpa using c22))
     clear c22
     by_cases c26 : (a0_0 == 2) = true
     ·rw [if_pos c26] at H
      have c26b0 : (a0_0 == 2) = true := c26
      (try (have c26b1 : decide (a0_0 = 2) = true := by simpa using c26))
      (try (have c26b2 : (a0_0 == 2) = true := by simpa using c26))
      clear c26
      obtain ⟨t147, A27, H⟩ := zb H
      obtain rfl := Option.some.inj H
      obtain ⟨_, _, _, _, _, _⟩ := bc6 Aa.out
      obtain ⟨_, _, _, _, _, _⟩ := bf6 Aa.out
      go_wp2_with (first | (go_at_call 45; (with_reducible refine (hard_Check.calls a0_2 a0_3 a0_4 t147 _ A27.out).mono ?_); rintro e w29 ⟨rfl, hb⟩; replace Aa := kBa Aa hb; replace HB := zX1 HB Ab.out hb; (try clear hb)))
      repeat (go_quiet (first | (go_at_call 45; (with_reducible refine (hard_Check.calls a0_2 a0_3 a0_4 t147 _ A27.out).mono ?_); rintro e w29 ⟨rfl, hb⟩; replace Aa := kBa Aa hb; replace HB := zX1 HB Ab.out hb; (try clear hb))); try go_wp2_with (first | (go_at_call 45; (with_reducible refine (hard_Check.calls a0_2 a0_3 a0_4 t147 _ A27.out).mono ?_); rintro e w29 ⟨rfl, hb⟩; replace Aa := kBa Aa hb; replace HB := zX1 HB Ab.out hb; (try clear hb))))
      go_ret
      exact ⟨pX, pE HB.out Ab.out⟩
     rw [if_neg c26] at H
     have c26b0 : (a0_0 == 2) = false := by simpa using c26
     (try (have c26b1 : decide (a0_0 = 2) = false := by simpa using c26))
     (try (have c26b2 : (a0_0 == 2) = false := by simpa using c26))
     (try (have c26b3 : ¬ (a0_0 = 2) := by simpa using c26))
     clear c26
     by_cases c30 : a0_5 < 1
     ·rw [if_pos c30] at H
      have c30b0 := decide_eq_true c30
      clear c30
      obtain rfl := Option.some.inj H
      obtain ⟨_, _, _, _, _, _⟩ := bc6 Aa.out
      obtain ⟨_, _, _, _, _, _⟩ := bf6 Aa.out
      go_wp2
      repeat (go_quiet (fail); try go_wp2)
      go_ret
      exact ⟨pX, pE HB.out Ab.out⟩
     rw [if_neg c30] at H
     have c30b0 := decide_eq_false c30
     clear c30
     by_cases c32 : a0_5 > 2147483647
     ·rw [if_pos c32] at H
      have c32b0 : decide (2147483647 < a0_5) = true := decide_eq_true c32
      clear c32
      obtain rfl := Option.some.inj H
      obtain ⟨_, _, _, _, _, _⟩ := bc6 Aa.out
      obtain ⟨_, _, _, _, _, _⟩ := bf6 Aa.out
      go_wp2
      repeat (go_quiet (fail); try go_wp2)
      go_ret
      exact ⟨pX, pE HB.out Ab.out⟩
     rw [if_neg c32] at H
     have c32b0 : decide (2147483647 < a0_5) = false := decide_eq_false c32
     clear c32
     obtain rfl := Option.some.inj H
     obtain ⟨_, _, _, _, _, _⟩ := bc6 Aa.out
     obtain ⟨_, _, _, _, _, _⟩ := bf6 Aa.out
     go_wp2
     repeat (go_quiet (fail); try go_wp2)
     go_ret
     exact ⟨pX, pE HB.out Ab.out⟩
def wal_Make_1.f (k : Nat) (a0_0 : Int) (l0_1 : List (S54)) (a0_2 : Int) (a0_3 : Int) (a0_4 : Int) (a0_5 : Int) : Option (Bool) := (wal_Check.f k a0_0 l0_1 a0_2 a0_3 a0_4 a0_5).bind fun t149 => (some (t149 != 0))
theorem wal_Make_1.mono : ∀ a0 a1 a2 a3 a4 a5 k, LeO (wal_Make_1.f k a0 a1 a2 a3 a4 a5) (wal_Make_1.f (k + 1) a0 a1 a2 a3 a4 a5) := by
 intro a0 a1 a2 a3 a4 a5 k
 unfold wal_Make_1.f
 repeat' (with_reducible first | exact wal_Check.mono .. | exact LeO.refl .. | exact LeO.none .. | refine LeO.ite ?_ ?_ | refine LeO.bind ?_ (fun _ => ?_))
set_option maxRecDepth 100000 in
theorem wal_Make_1.calls (k : Nat) (a0_0 : Int) (A0_1 : Option Addr) (c0_1 : Nat) (l0_1 : List (S54)) (a0_2 : Int) (a0_3 : Int) (a0_4 : Int) (a0_5 : Int) (r : Bool) (w : World) (hr0_1 : Kd.C k54 w A0_1 l0_1.length l0_1) (hc0_1 : l0_1.length ≤ c0_1) (h : wal_Make_1.f k a0_0 l0_1 a0_2 a0_3 a0_4 a0_5 = some r) :
 Calls Try.prog 26 #[.agg #[.int .i64 a0_0, .slice A0_1 l0_1.length c0_1, .int .i64 a0_2, .int .i64 a0_3, .int .i64 a0_4, .int .i64 a0_5]] w fun e w' => e = .returned (.bool r) ∧ Below w.heap.size w w' := by
 have hu34 := Try.underlying34
 have HR0_1 := Am hr0_1
 have HC0_1 := Am hc0_1
 clear hr0_1 hc0_1
 have HB := Am (Below.refl w.heap.size w)
 unfold wal_Make_1.f at h
 have H := h
 clear h
 obtain ⟨t149, A2, H⟩ := zb H
 obtain rfl := Option.some.inj H
 go_enter Try.func26, Try.ntmps26
 go_wp2_with (first | ((with_reducible refine zD 1 rfl ?_); refine zE 1 #[.int .i64 a0_0, .slice A0_1 l0_1.length c0_1, .int .i64 a0_2, .int .i64 a0_3, .int .i64 a0_4, .int .i64 a0_5] 34 ?_; intro gb148 hg w3 hbox hb; have BK148 := Am (hbox); have GW148 := zA hg HB; replace HB := zB HB hb; have GE148 := GW148; clear hb hbox hg; obtain ⟨hcz4_0, hcz4_1, hcz4_2, hcz4_3, hcz4_4, hcz4_5⟩ := bc6 BK148.out; obtain ⟨hfz4_0, hfz4_1, hfz4_2, hfz4_3, hfz4_4, hfz4_5⟩ := bf6 BK148.out) | ((with_reducible refine zC 27 rfl ?_); refine zL (some 4) Try.func27 #[.agg #[.int .i64 a0_0, .slice A0_1 l0_1.length c0_1, .int .i64 a0_2, .int .i64 a0_3, .int .i64 a0_4, .int .i64 a0_5]] ?_; (with_reducible refine (wal_Check.calls k a0_0 _ _ l0_1 a0_2 a0_3 a0_4 a0_5 t149 _ ?side1 ?side2 A2.out).mono ?_); (case side1 => exact pC (Kd.C_below HR0_1.out HB.out)); (case side2 => exact HC0_1.out); rintro e w5 ⟨rfl, hb⟩; refine ⟨_, rfl, ?_⟩; replace BK148 := kBa BK148 hb; replace HB := zX1 HB GE148.out hb; (try clear hb)))
 go_ret
 exact ⟨pX, pE HB.out GE148.out⟩
def slices_IndexFunc_api_Rec.l0 : Nat → List (S34) → Int → Int → Option (Int)
 | 0, _, _, _ => none
 | k + 1, x0, x7, x8 => if x8 < x7 then (if 0 ≤ x8 then (if x8 < (x0.length : Int) then ((wal_Make_1.f k ((rd_T34 x0 x8).f0) ((rd_T34 x0 x8).f1) ((rd_T34 x0 x8).f2.f0) ((rd_T34 x0 x8).f2.f1) ((rd_T34 x0 x8).f2.f2) ((rd_T34 x0 x8).f3)).bind fun t151 => (if t151 = true then (some x8) else (slices_IndexFunc_api_Rec.l0 k x0 x7 (wrap64 (x8 + 1))))) else (none)) else (none)) else (some (-1))
def slices_IndexFunc_api_Rec.f (k : Nat) (l0 : List (S34))  : Option (Int) := slices_IndexFunc_api_Rec.l0 k l0 (l0.length : Int) 0
theorem slices_IndexFunc_api_Rec.mono_l : ∀ k, (∀ y0 y1 y2, LeO (slices_IndexFunc_api_Rec.l0 k y0 y1 y2) (slices_IndexFunc_api_Rec.l0 (k + 1) y0 y1 y2))
 | 0 => fun _ _ _ r h => by simp [slices_IndexFunc_api_Rec.l0] at h
 | k + 1 => by
  have ih0 := slices_IndexFunc_api_Rec.mono_l k
  ·intro y0 y1 y2
   unfold slices_IndexFunc_api_Rec.l0
   repeat' (with_reducible first | exact ih0 .. | exact wal_Make_1.mono .. | exact LeO.refl .. | exact LeO.none .. | refine LeO.ite ?_ ?_ | refine LeO.bind ?_ (fun _ => ?_))
theorem slices_IndexFunc_api_Rec.mono : ∀ a0 k, LeO (slices_IndexFunc_api_Rec.f k a0) (slices_IndexFunc_api_Rec.f (k + 1) a0) := by
 intro a0 k
 have ih0 := slices_IndexFunc_api_Rec.mono_l k
 unfold slices_IndexFunc_api_Rec.f
 repeat' (with_reducible first | exact ih0 .. | exact wal_Make_1.mono .. | exact LeO.refl .. | exact LeO.none .. | refine LeO.ite ?_ ?_ | refine LeO.bind ?_ (fun _ => ?_))
set_option maxRecDepth 100000 in
theorem slices_IndexFunc_api_Rec.calls (k : Nat) (A0 : Option Addr) (c0 : Nat) (l0 : List (S34))  (r : Int) (w : World) (hr0 : Kd.C k34 w A0 l0.length l0) (hc0 : l0.length ≤ c0) (h : slices_IndexFunc_api_Rec.f k l0 = some r) :
 Calls Try.prog 46 #[.slice A0 l0.length c0, .func (.func 26) #[] #[]] w fun e w' => e = .returned (.int .i64 r) ∧ Below w.heap.size w w' := by
 have hu34 := Try.underlying34
 have HR0 := Am hr0
 have HC0 := Am hc0
 clear hr0 hc0
 have HB := Am (Below.refl w.heap.size w)
 unfold slices_IndexFunc_api_Rec.f at h
 have H := h
 clear h
 have H' := Am H
 clear H
 go_enter Try.func46, Try.ntmps46
 go_wp2
 go_loopg [8] k (fun kq v8 w' => ∃ (Aa : Int), v8 = .int .i64 Aa ∧ Aside0 (slices_IndexFunc_api_Rec.l0 kq l0 (l0.length : Int) Aa = some r) ∧ Aside0 (kq ≤ k) ∧ Aside0 (Below w.heap.size w w'))
 case atStart => exact ⟨(0), zr, H', ⟨Nat.le_refl _⟩, ⟨pB HB.out⟩⟩
 case round =>
  clear H'
  try clear p2
  obtain ⟨Aa, rfl, HA, HK1, HB⟩ := hrel
  cases gk with
  | zero => exact absurd HA.out (by simp [slices_IndexFunc_api_Rec.l0])
  | succ k1 =>
   have H := HA.out
   clear HA
   simp only [slices_IndexFunc_api_Rec.l0] at H
   by_cases c3 : Aa < (l0.length : Int)
   rotate_left
   ·rw [if_neg c3] at H
    have c3b0 := decide_eq_false c3
    clear c3
    obtain rfl := Option.some.inj H
    go_wp2
    go_ret
    exact ⟨pX, pB HB.out⟩
   rw [if_pos c3] at H
   have c3b0 := decide_eq_true c3
   clear c3
   obtain ⟨c4, H⟩ := zI H
   have c4b0 := decide_eq_true c4
   clear c4
   obtain ⟨c5, H⟩ := zI H
   have c5b0 := decide_eq_true c5
   clear c5
   obtain ⟨t151, A6, H⟩ := zb H
   by_cases c7 : t151 = true
   ·subst c7
    rw [if_pos rfl] at H
    obtain rfl := Option.some.inj H
    have p150 : 0 ≤ (Aa : Int) := of_decide_eq_true pS
    have q150 : Aa < (l0.length : Int) := of_decide_eq_true pS
    obtain ⟨Ap, Ao, c150_1, e150, Ah, Ai, Aj, Ak, Al, An, Ab, Ac⟩ := at_T34u HR0.out Aa p150 q150 HB.out
    cases e150
    have Ad := Am Ac
    have Ae := Am Ab
    clear Ac Ab
    replace p150 := eq_true p150
    replace q150 := eq_true q150
    go_wp2_with (first | (go_at_call 26; (with_reducible refine (wal_Make_1.calls k1 ((rd_T34 l0 Aa).f0) _ _ ((rd_T34 l0 Aa).f1) ((rd_T34 l0 Aa).f2.f0) ((rd_T34 l0 Aa).f2.f1) ((rd_T34 l0 Aa).f2.f2) ((rd_T34 l0 Aa).f3) true _ ?Af ?Ag A6.out).mono ?_); (case Af => exact pC (Kd.C_below Ad.out HB.out)); (case Ag => exact Ae.out); rintro e w8 ⟨rfl, hb⟩; replace HB := zB HB hb; (try clear hb)))
    go_ret
    exact ⟨pX, pB HB.out⟩
   replace c7 := Bool.eq_false_iff.mpr c7
   subst c7
   rw [if_neg zF] at H
   have H' := Am H
   clear H
   have p150 : 0 ≤ (Aa : Int) := of_decide_eq_true pS
   have q150 : Aa < (l0.length : Int) := of_decide_eq_true pS
   obtain ⟨Ap, Ao, c150_1, e150, Ah, Ai, Aj, Ak, Al, An, Ab, Ac⟩ := at_T34u HR0.out Aa p150 q150 HB.out
   cases e150
   have Ad := Am Ac
   have Ae := Am Ab
   clear Ac Ab
   replace p150 := eq_true p150
   replace q150 := eq_true q150
   go_wp2_with (first | (go_at_call 26; (with_reducible refine (wal_Make_1.calls k1 ((rd_T34 l0 Aa).f0) _ _ ((rd_T34 l0 Aa).f1) ((rd_T34 l0 Aa).f2.f0) ((rd_T34 l0 Aa).f2.f1) ((rd_T34 l0 Aa).f2.f2) ((rd_T34 l0 Aa).f3) false _ ?Af ?Ag A6.out).mono ?_); (case Af => exact pC (Kd.C_below Ad.out HB.out)); (case Ag => exact Ae.out); rintro e w9 ⟨rfl, hb⟩; replace HB := zB HB hb; (try clear hb)))
   go_roundg k1
   case measure => have := HK1.out; omega
   case rel => exact ⟨(wrap64 (Aa + 1)), zr, H', ⟨by have := HK1.out; omega⟩, ⟨pB HB.out⟩⟩
def slices_ContainsFunc_api_Rec.f (k : Nat) (l0 : List (S34))  : Option (Bool) := (slices_IndexFunc_api_Rec.f k l0).bind fun t152 => (some (decide (t152 ≥ 0)))
theorem slices_ContainsFunc_api_Rec.mono : ∀ a0 k, LeO (slices_ContainsFunc_api_Rec.f k a0) (slices_ContainsFunc_api_Rec.f (k + 1) a0) := by
 intro a0 k
 unfold slices_ContainsFunc_api_Rec.f
 repeat' (with_reducible first | exact slices_IndexFunc_api_Rec.mono .. | exact LeO.refl .. | exact LeO.none .. | refine LeO.ite ?_ ?_ | refine LeO.bind ?_ (fun _ => ?_))
set_option maxRecDepth 100000 in
theorem slices_ContainsFunc_api_Rec.calls (k : Nat) (A0 : Option Addr) (c0 : Nat) (l0 : List (S34))  (r : Bool) (w : World) (hr0 : Kd.C k34 w A0 l0.length l0) (hc0 : l0.length ≤ c0) (h : slices_ContainsFunc_api_Rec.f k l0 = some r) :
 Calls Try.prog 25 #[.slice A0 l0.length c0, .func (.func 26) #[] #[]] w fun e w' => e = .returned (.bool r) ∧ Below w.heap.size w w' := by
 have HR0 := Am hr0
 have HC0 := Am hc0
 clear hr0 hc0
 have HB := Am (Below.refl w.heap.size w)
 unfold slices_ContainsFunc_api_Rec.f at h
 have H := h
 clear h
 obtain ⟨t152, A3, H⟩ := zb H
 obtain rfl := Option.some.inj H
 go_enter Try.func25, Try.ntmps25
 go_wp2_with (first | ((with_reducible refine zC 46 rfl ?_); refine zL (some 7) Try.func46 #[.slice A0 l0.length c0, .func (.func 26) #[] #[]] ?_; (with_reducible refine (slices_IndexFunc_api_Rec.calls k _ _ l0 t152 _ ?side1 ?side2 A3.out).mono ?_); (case side1 => repeat (first | exact HR0.out | (with_reducible refine Kd.C_alloc ?_ _) | (with_reducible refine Kd.C_drewN ?_ _) | (with_reducible refine Kd.C_drew ?_))); (case side2 => exact HC0.out); rintro e w4 ⟨rfl, hb⟩; refine ⟨_, rfl, ?_⟩; replace HB := zB HB hb; (try clear hb)))
 go_ret
 exact ⟨pX, pB HB.out⟩
def raft_Last.f (k : Nat) (a0_0 : Int) (a0_1 : Int) (l0_2 : List (S54)) (a0_3 : Int) (a0_4 : Int) (a0_5 : Int) (a0_6 : Int) : Option (Int × Int) := (raft_Check.f k a0_0 a0_1 l0_2 a0_3 a0_4 a0_5 a0_6).bind fun t154 => (if t154 = 0 then (if (l0_2.length : Int) > 0 then (if 0 ≤ (wrap64 ((l0_2.length : Int) - 1)) then (if (wrap64 ((l0_2.length : Int) - 1)) < (l0_2.length : Int) then (some ((rd_T54 l0_2 (wrap64 ((l0_2.length : Int) - 1))).f0, (rd_T54 l0_2 (wrap64 ((l0_2.length : Int) - 1))).f1)) else (none)) else (none)) else (some (a0_0, a0_1))) else (some (0, 0)))
theorem raft_Last.mono : ∀ a0 a1 a2 a3 a4 a5 a6 k, LeO (raft_Last.f k a0 a1 a2 a3 a4 a5 a6) (raft_Last.f (k + 1) a0 a1 a2 a3 a4 a5 a6) := by
 intro a0 a1 a2 a3 a4 a5 a6 k
 unfold raft_Last.f
 repeat' (with_reducible first | exact raft_Check.mono .. | exact LeO.refl .. | exact LeO.none .. | refine LeO.ite ?_ ?_ | refine LeO.bind ?_ (fun _ => ?_))
set_option maxRecDepth 100000 in
theorem raft_Last.calls (k : Nat) (a0_0 : Int) (a0_1 : Int) (A0_2 : Option Addr) (c0_2 : Nat) (l0_2 : List (S54)) (a0_3 : Int) (a0_4 : Int) (a0_5 : Int) (a0_6 : Int) (r1 : Int) (r2 : Int) (w : World) (hr0_2 : Kd.C k54 w A0_2 l0_2.length l0_2) (hc0_2 : l0_2.length ≤ c0_2) (h : raft_Last.f k a0_0 a0_1 l0_2 a0_3 a0_4 a0_5 a0_6 = some (r1, r2)) :
 Calls Try.prog 63 #[.agg #[.int .i64 a0_0, .int .i64 a0_1, .slice A0_2 l0_2.length c0_2, .int .i64 a0_3, .int .i64 a0_4, .int .i64 a0_5, .int .i64 a0_6]] w fun e w' => e = .returned (.tuple #[.int .i64 r1, .int .i64 r2]) ∧ Below w.heap.size w w' := by
 have hu26 := Try.underlying26
 have Ai := Am hr0_2
 have A7 := Am hc0_2
 clear hr0_2 hc0_2
 have HB := Am (Below.refl w.heap.size w)
 unfold raft_Last.f at h
 have H := h
 clear h
 obtain ⟨t154, A2, H⟩ := zb H
 by_cases c3 : t154 = 0
 rotate_left
 ·rw [if_neg c3] at H
  obtain ⟨c3b0, c3b1⟩ := zk c3
  simp only [Option.some.injEq, Prod.mk.injEq] at H
  obtain ⟨rfl, rfl⟩ := H
  go_enter Try.func63, Try.ntmps63
  go_wp2_with (first | ((with_reducible refine zD 1 rfl ?_); refine zE 1 #[.int .i64 a0_0, .int .i64 a0_1, .slice A0_2 l0_2.length c0_2, .int .i64 a0_3, .int .i64 a0_4, .int .i64 a0_5, .int .i64 a0_6] 26 ?_; intro Ae hg w16 hbox hb; have Aa := Am (hbox); have Af := zA hg HB; replace HB := zB HB hb; have Ab := Af; clear hb hbox hg; obtain ⟨Ck, Cl, Cm, Cn, Co, Cp, Cq⟩ := bc7 Aa.out; obtain ⟨Cr, Cs, Ct, Cu, Cv, Cw, Cx⟩ := bf7 Aa.out) | (go_at_call 24; (with_reducible refine (raft_Check.calls k a0_0 a0_1 _ _ l0_2 a0_3 a0_4 a0_5 a0_6 t154 _ ?Ag ?Ah A2.out).mono ?_); (case Ag => exact pC (Kd.C_below Ai.out HB.out)); (case Ah => exact A7.out); rintro e w18 ⟨rfl, hb⟩; replace Aa := kBa Aa hb; replace HB := zX1 HB Ab.out hb; (try clear hb)))
  repeat (go_quiet (first | ((with_reducible refine zD 1 rfl ?_); refine zE 1 #[.int .i64 a0_0, .int .i64 a0_1, .slice A0_2 l0_2.length c0_2, .int .i64 a0_3, .int .i64 a0_4, .int .i64 a0_5, .int .i64 a0_6] 26 ?_; intro Ae hg w16 hbox hb; have Aa := Am (hbox); have Af := zA hg HB; replace HB := zB HB hb; have Ab := Af; clear hb hbox hg; obtain ⟨Ck, Cl, Cm, Cn, Co, Cp, Cq⟩ := bc7 Aa.out; obtain ⟨Cr, Cs, Ct, Cu, Cv, Cw, Cx⟩ := bf7 Aa.out) | (go_at_call 24; (with_reducible refine (raft_Check.calls k a0_0 a0_1 _ _ l0_2 a0_3 a0_4 a0_5 a0_6 t154 _ ?Ag ?Ah A2.out).mono ?_); (case Ag => exact pC (Kd.C_below Ai.out HB.out)); (case Ah => exact A7.out); rintro e w18 ⟨rfl, hb⟩; replace Aa := kBa Aa hb; replace HB := zX1 HB Ab.out hb; (try clear hb))); try go_wp2_with (first | ((with_reducible refine zD 1 rfl ?_); refine zE 1 #[.int .i64 a0_0, .int .i64 a0_1, .slice A0_2 l0_2.length c0_2, .int .i64 a0_3, .int .i64 a0_4, .int .i64 a0_5, .int .i64 a0_6] 26 ?_; intro Ae hg w16 hbox hb; have Aa := Am (hbox); have Af := zA hg HB; replace HB := zB HB hb; have Ab := Af; clear hb hbox hg; obtain ⟨Ck, Cl, Cm, Cn, Co, Cp, Cq⟩ := bc7 Aa.out; obtain ⟨Cr, Cs, Ct, Cu, Cv, Cw, Cx⟩ := bf7 Aa.out) | (go_at_call 24; (with_reducible refine (raft_Check.calls k a0_0 a0_1 _ _ l0_2 a0_3 a0_4 a0_5 a0_6 t154 _ ?Ag ?Ah A2.out).mono ?_); (case Ag => exact pC (Kd.C_below Ai.out HB.out)); (case Ah => exact A7.out); rintro e w18 ⟨rfl, hb⟩; replace Aa := kBa Aa hb; replace HB := zX1 HB Ab.out hb; (try clear hb))))
  go_ret2
  exact ⟨pX, pE HB.out Ab.out⟩
 rw [if_pos c3] at H
 obtain ⟨c3b0, c3b1⟩ := zc c3
 clear c3
 by_cases c4 : (l0_2.length : Int) > 0
 rotate_left
 ·rw [if_neg c4] at H
  have c4b0 : decide (0 < (l0_2.length : Int)) = false := decide_eq_false c4
  have c4b1 : decide (0 < l0_2.length) = false := decide_eq_false (by omega)
  clear c4
  simp only [Option.some.injEq, Prod.mk.injEq] at H
  obtain ⟨rfl, rfl⟩ := H
  go_enter Try.func63, Try.ntmps63
  go_wp2_with (first | ((with_reducible refine zD 1 rfl ?_); refine zE 1 #[.int .i64 a0_0, .int .i64 a0_1, .slice A0_2 l0_2.length c0_2, .int .i64 a0_3, .int .i64 a0_4, .int .i64 a0_5, .int .i64 a0_6] 26 ?_; intro Ae hg w12 hbox hb; have Aa := Am (hbox); have Af := zA hg HB; replace HB := zB HB hb; have Ab := Af; clear hb hbox hg; obtain ⟨Bs, Bt, Bu, Bv, Bw, Bx, By⟩ := bc7 Aa.out; obtain ⟨Bz, B0, B1, B2, B3, B4, B5⟩ := bf7 Aa.out) | (go_at_call 24; (with_reducible refine (raft_Check.calls k a0_0 a0_1 _ _ l0_2 a0_3 a0_4 a0_5 a0_6 t154 _ ?Ag ?Ah A2.out).mono ?_); (case Ag => exact pC (Kd.C_below Ai.out HB.out)); (case Ah => exact A7.out); rintro e w14 ⟨rfl, hb⟩; replace Aa := kBa Aa hb; replace HB := zX1 HB Ab.out hb; (try clear hb); obtain ⟨B6, B7, B8, B9, Ca, Cb, Cc⟩ := bc7 Aa.out; obtain ⟨Cd, Ce, Cf, Cg, Ch, Ci, Cj⟩ := bf7 Aa.out))
  repeat (go_quiet (first | ((with_reducible refine zD 1 rfl ?_); refine zE 1 #[.int .i64 a0_0, .int .i64 a0_1, .slice A0_2 l0_2.length c0_2, .int .i64 a0_3, .int .i64 a0_4, .int .i64 a0_5, .int .i64 a0_6] 26 ?_; intro Ae hg w12 hbox hb; have Aa := Am (hbox); have Af := zA hg HB; replace HB := zB HB hb; have Ab := Af; clear hb hbox hg; obtain ⟨Bs, Bt, Bu, Bv, Bw, Bx, By⟩ := bc7 Aa.out; obtain ⟨Bz, B0, B1, B2, B3, B4, B5⟩ := bf7 Aa.out) | (go_at_call 24; (with_reducible refine (raft_Check.calls k a0_0 a0_1 _ _ l0_2 a0_3 a0_4 a0_5 a0_6 t154 _ ?Ag ?Ah A2.out).mono ?_); (case Ag => exact pC (Kd.C_below Ai.out HB.out)); (case Ah => exact A7.out); rintro e w14 ⟨rfl, hb⟩; replace Aa := kBa Aa hb; replace HB := zX1 HB Ab.out hb; (try clear hb); obtain ⟨B6, B7, B8, B9, Ca, Cb, Cc⟩ := bc7 Aa.out; obtain ⟨Cd, Ce, Cf, Cg, Ch, Ci, Cj⟩ := bf7 Aa.out)); try go_wp2_with (first | ((with_reducible refine zD 1 rfl ?_); refine zE 1 #[.int .i64 a0_0, .int .i64 a0_1, .slice A0_2 l0_2.length c0_2, .int .i64 a0_3, .int .i64 a0_4, .int .i64 a0_5, .int .i64 a0_6] 26 ?_; intro Ae hg w12 hbox hb; have Aa := Am (hbox); have Af := zA hg HB; replace HB := zB HB hb; have Ab := Af; clear hb hbox hg; obtain ⟨Bs, Bt, Bu, Bv, Bw, Bx, By⟩ := bc7 Aa.out; obtain ⟨Bz, B0, B1, B2, B3, B4, B5⟩ := bf7 Aa.out) | (go_at_call 24; (with_reducible refine (raft_Check.calls k a0_0 a0_1 _ _ l0_2 a0_3 a0_4 a0_5 a0_6 t154 _ ?Ag ?Ah A2.out).mono ?_); (case Ag => exact pC (Kd.C_below Ai.out HB.out)); (case Ah => exact A7.out); rintro e w14 ⟨rfl, hb⟩; replace Aa := kBa Aa hb; replace HB := zX1 HB Ab.out hb; (try clear hb); obtain ⟨B6, B7, B8, B9, Ca, Cb, Cc⟩ := bc7 Aa.out; obtain ⟨Cd, Ce, Cf, Cg, Ch, Ci, Cj⟩ := bf7 Aa.out)))
  go_ret2
  exact ⟨pX, pE HB.out Ab.out⟩
 rw [if_pos c4] at H
 have c4b0 : decide (0 < (l0_2.length : Int)) = true := decide_eq_true c4
 have c4b1 : decide (0 < l0_2.length) = true := decide_eq_true (by omega)
 clear c4
 obtain ⟨ji5, hji5⟩ : ∃ j_ : Int, (wrap64 ((l0_2.length : Int) - 1)) = j_ := ⟨_, rfl⟩
 replace H : (if 0 ≤ (ji5) then (if (ji5) < (l0_2.length : Int) then (some ((rd_T54 l0_2 (ji5)).f0, (rd_T54 l0_2 (ji5)).f1)) else (none)) else (none)) = some (r1, r2) := by first | (rw [hji5] at H; exact H) | (simp only [hji5] at H ⊢; exact H)
 (try rw [hji5] at A2)
 have hji5w : (IntKind.i64.wrap ((l0_2.length : Int) - 1)) = ji5 := (i64_w _).trans hji5
 obtain ⟨c6, H⟩ := zI H
 have c6b0 := decide_eq_true c6
 clear c6
 obtain ⟨c7, H⟩ := zI H
 have c7b0 := decide_eq_true c7
 clear c7
 simp only [Option.some.injEq, Prod.mk.injEq] at H
 obtain ⟨rfl, rfl⟩ := H
 go_enter Try.func63, Try.ntmps63
 go_wp2_with (first | ((with_reducible refine zD 1 rfl ?_); refine zE 1 #[.int .i64 a0_0, .int .i64 a0_1, .slice A0_2 l0_2.length c0_2, .int .i64 a0_3, .int .i64 a0_4, .int .i64 a0_5, .int .i64 a0_6] 26 ?_; intro Ae hg w8 hbox hb; have Aa := Am (hbox); have Af := zA hg HB; replace HB := zB HB hb; have Ab := Af; clear hb hbox hg; obtain ⟨Cy, Cz, C0, C1, C2, C3, C4⟩ := bc7 Aa.out; obtain ⟨C5, C6, C7, C8, C9, Da, Db⟩ := bf7 Aa.out) | (go_at_call 24; (with_reducible refine (raft_Check.calls k a0_0 a0_1 _ _ l0_2 a0_3 a0_4 a0_5 a0_6 t154 _ ?Ag ?Ah A2.out).mono ?_); (case Ag => exact pC (Kd.C_below Ai.out HB.out)); (case Ah => exact A7.out); rintro e w10 ⟨rfl, hb⟩; replace Aa := kBa Aa hb; replace HB := zX1 HB Ab.out hb; (try clear hb); obtain ⟨Ba, Bb, Bc, Bd, Be, Bf, Bg⟩ := bc7 Aa.out; obtain ⟨Bh, Bi, Bj, Bk, Bl, Bm, Bn⟩ := bf7 Aa.out; have p155 : 0 ≤ ((ji5) : Int) := of_decide_eq_true pS; have q155 : (ji5) < (l0_2.length : Int) := of_decide_eq_true pS; obtain ⟨A8, Dc, c155_5, e155, Aj, Ak, Al, An, Ao, Ac, Ap, Aq, Ar, As, At, Au⟩ := at_T54 Ai.out (ji5) p155 q155; cases e155; replace Aj := cU HB.out Aj; replace Ak := cU HB.out Ak; replace Al := cU HB.out Al; replace An := cU HB.out An; replace Ao := cU HB.out Ao; replace Ac := cU HB.out Ac; replace Ap := cU HB.out Ap; replace Aq := cU HB.out Aq; replace Ar := cU HB.out Ar; replace As := cU HB.out As; have Bo := Am Au; have Bp := Am At; clear Au At; replace p155 := eq_true p155; replace q155 := eq_true q155; have p156 : 0 ≤ ((ji5) : Int) := of_decide_eq_true pS; have q156 : (ji5) < (l0_2.length : Int) := of_decide_eq_true pS; obtain ⟨A9, Dd, c156_5, e156, Av, Aw, Ax, Ay, Az, Ad, A0, A1, A3, A4, A5, A6⟩ := at_T54 Ai.out (ji5) p156 q156; obtain rfl : A8 = A9 := (by injection e156); replace Av := cU HB.out Av; replace Aw := cU HB.out Aw; replace Ax := cU HB.out Ax; replace Ay := cU HB.out Ay; replace Az := cU HB.out Az; replace Ad := cU HB.out Ad; replace A0 := cU HB.out A0; replace A1 := cU HB.out A1; replace A3 := cU HB.out A3; replace A4 := cU HB.out A4; have Bq := Am A6; have Br := Am A5; clear A6 A5; replace p156 := eq_true p156; replace q156 := eq_true q156; have ea_ := Option.some.inj (Ac.symm.trans Ad); injection ea_ with ea_ en_ ec_; subst ea_; subst ec_; clear en_))
 repeat (go_quiet (first | ((with_reducible refine zD 1 rfl ?_); refine zE 1 #[.int .i64 a0_0, .int .i64 a0_1, .slice A0_2 l0_2.length c0_2, .int .i64 a0_3, .int .i64 a0_4, .int .i64 a0_5, .int .i64 a0_6] 26 ?_; intro Ae hg w8 hbox hb; have Aa := Am (hbox); have Af := zA hg HB; replace HB := zB HB hb; have Ab := Af; clear hb hbox hg; obtain ⟨Cy, Cz, C0, C1, C2, C3, C4⟩ := bc7 Aa.out; obtain ⟨C5, C6, C7, C8, C9, Da, Db⟩ := bf7 Aa.out) | (go_at_call 24; (with_reducible refine (raft_Check.calls k a0_0 a0_1 _ _ l0_2 a0_3 a0_4 a0_5 a0_6 t154 _ ?Ag ?Ah A2.out).mono ?_); (case Ag => exact pC (Kd.C_below Ai.out HB.out)); (case Ah => exact A7.out); rintro e w10 ⟨rfl, hb⟩; replace Aa := kBa Aa hb; replace HB := zX1 HB Ab.out hb; (try clear hb); obtain ⟨Ba, Bb, Bc, Bd, Be, Bf, Bg⟩ := bc7 Aa.out; obtain ⟨Bh, Bi, Bj, Bk, Bl, Bm, Bn⟩ := bf7 Aa.out; have p155 : 0 ≤ ((ji5) : Int) := of_decide_eq_true pS; have q155 : (ji5) < (l0_2.length : Int) := of_decide_eq_true pS; obtain ⟨A8, Dc, c155_5, e155, Aj, Ak, Al, An, Ao, Ac, Ap, Aq, Ar, As, At, Au⟩ := at_T54 Ai.out (ji5) p155 q155; cases e155; replace Aj := cU HB.out Aj; replace Ak := cU HB.out Ak; replace Al := cU HB.out Al; replace An := cU HB.out An; replace Ao := cU HB.out Ao; replace Ac := cU HB.out Ac; replace Ap := cU HB.out Ap; replace Aq := cU HB.out Aq; replace Ar := cU HB.out Ar; replace As := cU HB.out As; have Bo := Am Au; have Bp := Am At; clear Au At; replace p155 := eq_true p155; replace q155 := eq_true q155; have p156 : 0 ≤ ((ji5) : Int) := of_decide_eq_true pS; have q156 : (ji5) < (l0_2.length : Int) := of_decide_eq_true pS; obtain ⟨A9, Dd, c156_5, e156, Av, Aw, Ax, Ay, Az, Ad, A0, A1, A3, A4, A5, A6⟩ := at_T54 Ai.out (ji5) p156 q156; obtain rfl : A8 = A9 := (by injection e156); replace Av := cU HB.out Av; replace Aw := cU HB.out Aw; replace Ax := cU HB.out Ax; replace Ay := cU HB.out Ay; replace Az := cU HB.out Az; replace Ad := cU HB.out Ad; replace A0 := cU HB.out A0; replace A1 := cU HB.out A1; replace A3 := cU HB.out A3; replace A4 := cU HB.out A4; have Bq := Am A6; have Br := Am A5; clear A6 A5; replace p156 := eq_true p156; replace q156 := eq_true q156; have ea_ := Option.some.inj (Ac.symm.trans Ad); injection ea_ with ea_ en_ ec_; subst ea_; subst ec_; clear en_)); try go_wp2_with (first | ((with_reducible refine zD 1 rfl ?_); refine zE 1 #[.int .i64 a0_0, .int .i64 a0_1, .slice A0_2 l0_2.length c0_2, .int .i64 a0_3, .int .i64 a0_4, .int .i64 a0_5, .int .i64 a0_6] 26 ?_; intro Ae hg w8 hbox hb; have Aa := Am (hbox); have Af := zA hg HB; replace HB := zB HB hb; have Ab := Af; clear hb hbox hg; obtain ⟨Cy, Cz, C0, C1, C2, C3, C4⟩ := bc7 Aa.out; obtain ⟨C5, C6, C7, C8, C9, Da, Db⟩ := bf7 Aa.out) | (go_at_call 24; (with_reducible refine (raft_Check.calls k a0_0 a0_1 _ _ l0_2 a0_3 a0_4 a0_5 a0_6 t154 _ ?Ag ?Ah A2.out).mono ?_); (case Ag => exact pC (Kd.C_below Ai.out HB.out)); (case Ah => exact A7.out); rintro e w10 ⟨rfl, hb⟩; replace Aa := kBa Aa hb; replace HB := zX1 HB Ab.out hb; (try clear hb); obtain ⟨Ba, Bb, Bc, Bd, Be, Bf, Bg⟩ := bc7 Aa.out; obtain ⟨Bh, Bi, Bj, Bk, Bl, Bm, Bn⟩ := bf7 Aa.out; have p155 : 0 ≤ ((ji5) : Int) := of_decide_eq_true pS; have q155 : (ji5) < (l0_2.length : Int) := of_decide_eq_true pS; obtain ⟨A8, Dc, c155_5, e155, Aj, Ak, Al, An, Ao, Ac, Ap, Aq, Ar, As, At, Au⟩ := at_T54 Ai.out (ji5) p155 q155; cases e155; replace Aj := cU HB.out Aj; replace Ak := cU HB.out Ak; replace Al := cU HB.out Al; replace An := cU HB.out An; replace Ao := cU HB.out Ao; replace Ac := cU HB.out Ac; replace Ap := cU HB.out Ap; replace Aq := cU HB.out Aq; replace Ar := cU HB.out Ar; replace As := cU HB.out As; have Bo := Am Au; have Bp := Am At; clear Au At; replace p155 := eq_true p155; replace q155 := eq_true q155; have p156 : 0 ≤ ((ji5) : Int) := of_decide_eq_true pS; have q156 : (ji5) < (l0_2.length : Int) := of_decide_eq_true pS; obtain ⟨A9, Dd, c156_5, e156, Av, Aw, Ax, Ay, Az, Ad, A0, A1, A3, A4, A5, A6⟩ := at_T54 Ai.out (ji5) p156 q156; obtain rfl : A8 = A9 := (by injection e156); replace Av := cU HB.out Av; replace Aw := cU HB.out Aw; replace Ax := cU HB.out Ax; replace Ay := cU HB.out Ay; replace Az := cU HB.out Az; replace Ad := cU HB.out Ad; replace A0 := cU HB.out A0; replace A1 := cU HB.out A1; replace A3 := cU HB.out A3; replace A4 := cU HB.out A4; have Bq := Am A6; have Br := Am A5; clear A6 A5; replace p156 := eq_true p156; replace q156 := eq_true q156; have ea_ := Option.some.inj (Ac.symm.trans Ad); injection ea_ with ea_ en_ ec_; subst ea_; subst ec_; clear en_)))
 go_ret2
 exact ⟨by first | rfl | (simp [errW_none, errW_some] <;> rfl) | (simp only [← hji5]; first | rfl | (simp [errW_none, errW_some] <;> rfl)) | (simp [*, errW_none, errW_some] <;> rfl), pE HB.out Ab.out⟩
end
section
attribute [local go_sem] max2_int min2_int max_two min_two max_three min_three max_four min_four
attribute [local go_sem] wrap64_l1 wrap64_l2 wrap64_l3 wrap64_l4 wrap64_l5
def raft_Term.f (k : Nat) (a0_0 : Int) (a0_1 : Int) (l0_2 : List (S54)) (a0_3 : Int) (a0_4 : Int) (a0_5 : Int) (a0_6 : Int) (a1 : Int) : Option (Int × Int) := (raft_Last.f k a0_0 a0_1 l0_2 a0_3 a0_4 a0_5 a0_6).bind fun bt158 => ((raft_Check.f k a0_0 a0_1 l0_2 a0_3 a0_4 a0_5 a0_6).bind fun t160 => (if t160 = 0 then (if a1 < a0_0 then (some (0, 4)) else (if a1 > bt158.1 then (some (0, 3)) else (if a1 = a0_0 then (some (a0_1, 0)) else (if 0 ≤ (wrap64 ((wrap64 (a1 - a0_0)) - 1)) then (if (wrap64 ((wrap64 (a1 - a0_0)) - 1)) < (l0_2.length : Int) then (some ((rd_T54 l0_2 (wrap64 ((wrap64 (a1 - a0_0)) - 1))).f1, 0)) else (none)) else (none))))) else (some (0, 1))))
theorem raft_Term.mono : ∀ a0 a1 a2 a3 a4 a5 a6 a7 k, LeO (raft_Term.f k a0 a1 a2 a3 a4 a5 a6 a7) (raft_Term.f (k + 1) a0 a1 a2 a3 a4 a5 a6 a7) := by
 intro a0 a1 a2 a3 a4 a5 a6 a7 k
 unfold raft_Term.f
 repeat' (with_reducible first | exact raft_Check.mono .. | exact raft_Last.mono .. | exact LeO.refl .. | exact LeO.none .. | refine LeO.ite ?_ ?_ | refine LeO.bind ?_ (fun _ => ?_))
set_option maxRecDepth 100000 in
theorem raft_Term.calls (k : Nat) (a0_0 : Int) (a0_1 : Int) (A0_2 : Option Addr) (c0_2 : Nat) (l0_2 : List (S54)) (a0_3 : Int) (a0_4 : Int) (a0_5 : Int) (a0_6 : Int) (a1 : Int) (r1 : Int) (r2 : Int) (w : World) (hr0_2 : Kd.C k54 w A0_2 l0_2.length l0_2) (hc0_2 : l0_2.length ≤ c0_2) (h : raft_Term.f k a0_0 a0_1 l0_2 a0_3 a0_4 a0_5 a0_6 a1 = some (r1, r2)) :
 Calls Try.prog 64 #[.agg #[.int .i64 a0_0, .int .i64 a0_1, .slice A0_2 l0_2.length c0_2, .int .i64 a0_3, .int .i64 a0_4, .int .i64 a0_5, .int .i64 a0_6], .int .i64 a1] w fun e w' => e = .returned (.tuple #[.int .i64 r1, .int .i64 r2]) ∧ Below w.heap.size w w' := by
 have hu26 := Try.underlying26
 have Ae := Am hr0_2
 have Af := Am hc0_2
 clear hr0_2 hc0_2
 have HB := Am (Below.refl w.heap.size w)
 unfold raft_Term.f at h
 have H := h
 clear h
 obtain ⟨⟨t158, t159⟩, A3, H⟩ := zb H
 dsimp only at H
 obtain ⟨t160, A4, H⟩ := zb H
 by_cases c5 : t160 = 0
 rotate_left
 ·rw [if_neg c5] at H
  obtain ⟨c5b0, c5b1⟩ := zk c5
  simp only [Option.some.injEq, Prod.mk.injEq] at H
  obtain ⟨rfl, rfl⟩ := H
  go_enter Try.func64, Try.ntmps64
  go_wp2_with (first | ((with_reducible refine zD 2 rfl ?_); refine zE 2 #[.int .i64 a0_0, .int .i64 a0_1, .slice A0_2 l0_2.length c0_2, .int .i64 a0_3, .int .i64 a0_4, .int .i64 a0_5, .int .i64 a0_6] 26 ?_; intro Ag hg w36 hbox hb; have Aa := Am (hbox); have Ah := zA hg HB; replace HB := zB HB hb; have Ab := Ah; clear hb hbox hg; obtain ⟨_, _, _, _, _, _, _⟩ := bc7 Aa.out; obtain ⟨_, _, _, _, _, _, _⟩ := bf7 Aa.out) | ((with_reducible refine zC 63 rfl ?_); refine zL (some 10) Try.func63 #[.agg #[.int .i64 a0_0, .int .i64 a0_1, .slice A0_2 l0_2.length c0_2, .int .i64 a0_3, .int .i64 a0_4, .int .i64 a0_5, .int .i64 a0_6]] ?_; (with_reducible refine (raft_Last.calls k a0_0 a0_1 _ _ l0_2 a0_3 a0_4 a0_5 a0_6 t158 t159 _ ?Ac ?Ad A3.out).mono ?_); (case Ac => exact pC (Kd.C_below Ae.out HB.out)); (case Ad => exact Af.out); rintro e w38 ⟨rfl, hb⟩; refine ⟨_, rfl, ?_⟩; replace Aa := kBa Aa hb; replace HB := zX1 HB Ab.out hb; (try clear hb); obtain ⟨_, _, _, _, _, _, _⟩ := bc7 Aa.out; obtain ⟨_, _, _, _, _, _, _⟩ := bf7 Aa.out) | ((with_reducible refine zC 24 rfl ?_); refine zL (some 15) Try.func24 #[.agg #[.int .i64 a0_0, .int .i64 a0_1, .slice A0_2 l0_2.length c0_2, .int .i64 a0_3, .int .i64 a0_4, .int .i64 a0_5, .int .i64 a0_6]] ?_; (with_reducible refine (raft_Check.calls k a0_0 a0_1 _ _ l0_2 a0_3 a0_4 a0_5 a0_6 t160 _ ?Ac ?Ad A4.out).mono ?_); (case Ac => exact pC (Kd.C_below Ae.out HB.out)); (case Ad => exact Af.out); rintro e w40 ⟨rfl, hb⟩; refine ⟨_, rfl, ?_⟩; replace Aa := kBa Aa hb; replace HB := zX1 HB Ab.out hb; (try clear hb)))
  go_ret2
  exact ⟨pX, pE HB.out Ab.out⟩
 rw [if_pos c5] at H
 obtain ⟨c5b0, c5b1⟩ := zc c5
 clear c5
 by_cases c6 : a1 < a0_0
 ·rw [if_pos c6] at H
  have c6b0 := decide_eq_true c6
  clear c6
  simp only [Option.some.injEq, Prod.mk.injEq] at H
  obtain ⟨rfl, rfl⟩ := H
  go_enter Try.func64, Try.ntmps64
  go_wp2_with (first | ((with_reducible refine zD 2 rfl ?_); refine zE 2 #[.int .i64 a0_0, .int .i64 a0_1, .slice A0_2 l0_2.length c0_2, .int .i64 a0_3, .int .i64 a0_4, .int .i64 a0_5, .int .i64 a0_6] 26 ?_; intro Ag hg w7 hbox hb; have Aa := Am (hbox); have Ah := zA hg HB; replace HB := zB HB hb; have Ab := Ah; clear hb hbox hg; obtain ⟨_, _, _, _, _, _, _⟩ := bc7 Aa.out; obtain ⟨_, _, _, _, _, _, _⟩ := bf7 Aa.out) | ((with_reducible refine zC 63 rfl ?_); refine zL (some 10) Try.func63 #[.agg #[.int .i64 a0_0, .int .i64 a0_1, .slice A0_2 l0_2.length c0_2, .int .i64 a0_3, .int .i64 a0_4, .int .i64 a0_5, .int .i64 a0_6]] ?_; (with_reducible refine (raft_Last.calls k a0_0 a0_1 _ _ l0_2 a0_3 a0_4 a0_5 a0_6 t158 t159 _ ?Ac ?Ad A3.out).mono ?_); (case Ac => exact pC (Kd.C_below Ae.out HB.out)); (case Ad => exact Af.out); rintro e w9 ⟨rfl, hb⟩; refine ⟨_, rfl, ?_⟩; replace Aa := kBa Aa hb; replace HB := zX1 HB Ab.out hb; (try clear hb); obtain ⟨_, _, _, _, _, _, _⟩ := bc7 Aa.out; obtain ⟨_, _, _, _, _, _, _⟩ := bf7 Aa.out) | ((with_reducible refine zC 24 rfl ?_); refine zL (some 15) Try.func24 #[.agg #[.int .i64 a0_0, .int .i64 a0_1, .slice A0_2 l0_2.length c0_2, .int .i64 a0_3, .int .i64 a0_4, .int .i64 a0_5, .int .i64 a0_6]] ?_; (with_reducible refine (raft_Check.calls k a0_0 a0_1 _ _ l0_2 a0_3 a0_4 a0_5 a0_6 t160 _ ?Ac ?Ad A4.out).mono ?_); (case Ac => exact pC (Kd.C_below Ae.out HB.out)); (case Ad => exact Af.out); rintro e w11 ⟨rfl, hb⟩; refine ⟨_, rfl, ?_⟩; replace Aa := kBa Aa hb; replace HB := zX1 HB Ab.out hb; (try clear hb); obtain ⟨_, _, _, _, _, _, _⟩ := bc7 Aa.out; obtain ⟨_, _, _, _, _, _, _⟩ := bf7 Aa.out))
  go_ret2
  exact ⟨pX, pE HB.out Ab.out⟩
 rw [if_neg c6] at H
 have c6b0 := decide_eq_false c6
 clear c6
 by_cases c13 : a1 > t158
 ·rw [if_pos c13] at H
  have c13b0 : decide (t158 < a1) = true := decide_eq_true c13
  clear c13
  simp only [Option.some.injEq, Prod.mk.injEq] at H
  obtain ⟨rfl, rfl⟩ := H
  go_enter Try.func64, Try.ntmps64
  go_wp2_with (first | ((with_reducible refine zD 2 rfl ?_); refine zE 2 #[.int .i64 a0_0, .int .i64 a0_1, .slice A0_2 l0_2.length c0_2, .int .i64 a0_3, .int .i64 a0_4, .int .i64 a0_5, .int .i64 a0_6] 26 ?_; intro Ag hg w14 hbox hb; have Aa := Am (hbox); have Ah := zA hg HB; replace HB := zB HB hb; have Ab := Ah; clear hb hbox hg; obtain ⟨_, _, _, _, _, _, _⟩ := bc7 Aa.out; obtain ⟨_, _, _, _, _, _, _⟩ := bf7 Aa.out) | ((with_reducible refine zC 63 rfl ?_); refine zL (some 10) Try.func63 #[.agg #[.int .i64 a0_0, .int .i64 a0_1, .slice A0_2 l0_2.length c0_2, .int .i64 a0_3, .int .i64 a0_4, .int .i64 a0_5, .int .i64 a0_6]] ?_; (with_reducible refine (raft_Last.calls k a0_0 a0_1 _ _ l0_2 a0_3 a0_4 a0_5 a0_6 t158 t159 _ ?Ac ?Ad A3.out).mono ?_); (case Ac => exact pC (Kd.C_below Ae.out HB.out)); (case Ad => exact Af.out); rintro e w16 ⟨rfl, hb⟩; refine ⟨_, rfl, ?_⟩; replace Aa := kBa Aa hb; replace HB := zX1 HB Ab.out hb; (try clear hb); obtain ⟨_, _, _, _, _, _, _⟩ := bc7 Aa.out; obtain ⟨_, _, _, _, _, _, _⟩ := bf7 Aa.out) | ((with_reducible refine zC 24 rfl ?_); refine zL (some 15) Try.func24 #[.agg #[.int .i64 a0_0, .int .i64 a0_1, .slice A0_2 l0_2.length c0_2, .int .i64 a0_3, .int .i64 a0_4, .int .i64 a0_5, .int .i64 a0_6]] ?_; (with_reducible refine (raft_Check.calls k a0_0 a0_1 _ _ l0_2 a0_3 a0_4 a0_5 a0_6 t160 _ ?Ac ?Ad A4.out).mono ?_); (case Ac => exact pC (Kd.C_below Ae.out HB.out)); (case Ad => exact Af.out); rintro e w18 ⟨rfl, hb⟩; refine ⟨_, rfl, ?_⟩; replace Aa := kBa Aa hb; replace HB := zX1 HB Ab.out hb; (try clear hb); obtain ⟨_, _, _, _, _, _, _⟩ := bc7 Aa.out; obtain ⟨_, _, _, _, _, _, _⟩ := bf7 Aa.out))
  go_ret2
  exact ⟨pX, pE HB.out Ab.out⟩
 rw [if_neg c13] at H
 have c13b0 : decide (t158 < a1) = false := decide_eq_false c13
 clear c13
 by_cases c20 : a1 = a0_0
 ·rw [if_pos c20] at H
  obtain ⟨c20b0, c20b1⟩ := zc c20
  clear c20
  simp only [Option.some.injEq, Prod.mk.injEq] at H
  obtain ⟨rfl, rfl⟩ := H
  go_enter Try.func64, Try.ntmps64
  go_wp2_with (first | ((with_reducible refine zD 2 rfl ?_); refine zE 2 #[.int .i64 a0_0, .int .i64 a0_1, .slice A0_2 l0_2.length c0_2, .int .i64 a0_3, .int .i64 a0_4, .int .i64 a0_5, .int .i64 a0_6] 26 ?_; intro Ag hg w21 hbox hb; have Aa := Am (hbox); have Ah := zA hg HB; replace HB := zB HB hb; have Ab := Ah; clear hb hbox hg; obtain ⟨_, _, _, _, _, _, _⟩ := bc7 Aa.out; obtain ⟨_, _, _, _, _, _, _⟩ := bf7 Aa.out) | ((with_reducible refine zC 63 rfl ?_); refine zL (some 10) Try.func63 #[.agg #[.int .i64 a0_0, .int .i64 a0_1, .slice A0_2 l0_2.length c0_2, .int .i64 a0_3, .int .i64 a0_4, .int .i64 a0_5, .int .i64 a0_6]] ?_; (with_reducible refine (raft_Last.calls k a0_0 a0_1 _ _ l0_2 a0_3 a0_4 a0_5 a0_6 t158 t159 _ ?Ac ?Ad A3.out).mono ?_); (case Ac => exact pC (Kd.C_below Ae.out HB.out)); (case Ad => exact Af.out); rintro e w23 ⟨rfl, hb⟩; refine ⟨_, rfl, ?_⟩; replace Aa := kBa Aa hb; replace HB := zX1 HB Ab.out hb; (try clear hb); obtain ⟨_, _, _, _, _, _, _⟩ := bc7 Aa.out; obtain ⟨_, _, _, _, _, _, _⟩ := bf7 Aa.out) | ((with_reducible refine zC 24 rfl ?_); refine zL (some 15) Try.func24 #[.agg #[.int .i64 a0_0, .int .i64 a0_1, .slice A0_2 l0_2.length c0_2, .int .i64 a0_3, .int .i64 a0_4, .int .i64 a0_5, .int .i64 a0_6]] ?_; (with_reducible refine (raft_Check.calls k a0_0 a0_1 _ _ l0_2 a0_3 a0_4 a0_5 a0_6 t160 _ ?Ac ?Ad A4.out).mono ?_); (case Ac => exact pC (Kd.C_below Ae.out HB.out)); (case Ad => exact Af.out); rintro e w25 ⟨rfl, hb⟩; refine ⟨_, rfl, ?_⟩; replace Aa := kBa Aa hb; replace HB := zX1 HB Ab.out hb; (try clear hb); obtain ⟨_, _, _, _, _, _, _⟩ := bc7 Aa.out; obtain ⟨_, _, _, _, _, _, _⟩ := bf7 Aa.out))
  go_ret2
  exact ⟨pX, pE HB.out Ab.out⟩
 rw [if_neg c20] at H
 obtain ⟨c20b0, c20b1⟩ := zk c20
 obtain ⟨ji27, hji27⟩ : ∃ j_ : Int, (wrap64 ((wrap64 (a1 - a0_0)) - 1)) = j_ := ⟨_, rfl⟩
 replace H : (if 0 ≤ (ji27) then (if (ji27) < (l0_2.length : Int) then (some ((rd_T54 l0_2 (ji27)).f1, 0)) else (none)) else (none)) = some (r1, r2) := by first | (rw [hji27] at H; exact H) | (simp only [hji27] at H ⊢; exact H)
 (try rw [hji27] at A3)
 (try rw [hji27] at A4)
 have hji27w : (IntKind.i64.wrap ((wrap64 (a1 - a0_0)) - 1)) = ji27 := (i64_w _).trans hji27
 obtain ⟨c28, H⟩ := zI H
 have c28b0 := decide_eq_true c28
 clear c28
 obtain ⟨c29, H⟩ := zI H
 have c29b0 := decide_eq_true c29
 clear c29
 simp only [Option.some.injEq, Prod.mk.injEq] at H
 obtain ⟨rfl, rfl⟩ := H
 go_enter Try.func64, Try.ntmps64
 go_wp2_with (first | ((with_reducible refine zD 2 rfl ?_); refine zE 2 #[.int .i64 a0_0, .int .i64 a0_1, .slice A0_2 l0_2.length c0_2, .int .i64 a0_3, .int .i64 a0_4, .int .i64 a0_5, .int .i64 a0_6] 26 ?_; intro Ag hg w30 hbox hb; have Aa := Am (hbox); have Ah := zA hg HB; replace HB := zB HB hb; have Ab := Ah; clear hb hbox hg; obtain ⟨_, _, _, _, _, _, _⟩ := bc7 Aa.out; obtain ⟨_, _, _, _, _, _, _⟩ := bf7 Aa.out) | ((with_reducible refine zC 63 rfl ?_); refine zL (some 10) Try.func63 #[.agg #[.int .i64 a0_0, .int .i64 a0_1, .slice A0_2 l0_2.length c0_2, .int .i64 a0_3, .int .i64 a0_4, .int .i64 a0_5, .int .i64 a0_6]] ?_; (with_reducible refine (raft_Last.calls k a0_0 a0_1 _ _ l0_2 a0_3 a0_4 a0_5 a0_6 t158 t159 _ ?Ac ?Ad A3.out).mono ?_); (case Ac => exact pC (Kd.C_below Ae.out HB.out)); (case Ad => exact Af.out); rintro e w32 ⟨rfl, hb⟩; refine ⟨_, rfl, ?_⟩; replace Aa := kBa Aa hb; replace HB := zX1 HB Ab.out hb; (try clear hb); obtain ⟨_, _, _, _, _, _, _⟩ := bc7 Aa.out; obtain ⟨_, _, _, _, _, _, _⟩ := bf7 Aa.out) | ((with_reducible refine zC 24 rfl ?_); refine zL (some 15) Try.func24 #[.agg #[.int .i64 a0_0, .int .i64 a0_1, .slice A0_2 l0_2.length c0_2, .int .i64 a0_3, .int .i64 a0_4, .int .i64 a0_5, .int .i64 a0_6]] ?_; (with_reducible refine (raft_Check.calls k a0_0 a0_1 _ _ l0_2 a0_3 a0_4 a0_5 a0_6 t160 _ ?Ac ?Ad A4.out).mono ?_); (case Ac => exact pC (Kd.C_below Ae.out HB.out)); (case Ad => exact Af.out); rintro e w34 ⟨rfl, hb⟩; refine ⟨_, rfl, ?_⟩; replace Aa := kBa Aa hb; replace HB := zX1 HB Ab.out hb; (try clear hb); obtain ⟨_, _, _, _, _, _, _⟩ := bc7 Aa.out; obtain ⟨_, _, _, _, _, _, _⟩ := bf7 Aa.out; have p161 : 0 ≤ ((ji27) : Int) := of_decide_eq_true pS; have q161 : (ji27) < (l0_2.length : Int) := of_decide_eq_true pS; obtain ⟨ad161, A161_5, c161_5, e161, Ai, Aj, Ak, Al, An, Ao, Ap, Aq, Ar, As, At, Au⟩ := at_T54 Ae.out (ji27) p161 q161; cases e161; replace Ai := cU HB.out Ai; replace Aj := cU HB.out Aj; replace Ak := cU HB.out Ak; replace Al := cU HB.out Al; replace An := cU HB.out An; replace Ao := cU HB.out Ao; replace Ap := cU HB.out Ap; replace Aq := cU HB.out Aq; replace Ar := cU HB.out Ar; replace As := cU HB.out As; have HR161_5 := Am Au; have HC161_5 := Am At; clear Au At; replace p161 := eq_true p161; replace q161 := eq_true q161))
 go_ret2
 exact ⟨by first | rfl | (simp [errW_none, errW_some] <;> rfl) | (simp only [← hji27]; first | rfl | (simp [errW_none, errW_some] <;> rfl)) | (simp [*, errW_none, errW_some] <;> rfl), pE HB.out Ab.out⟩
def slices_Clone_byte_byte.f (l0 : List Int) : Option (List Int) := if l0.length < 140737488355328 then some l0 else none
set_option maxHeartbeats 4000000 in
set_option maxRecDepth 100000 in
theorem slices_Clone_byte_byte.calls (A0 : Option Addr) (c0 : Nat) (l0 : List Int) (r : List Int) (w : World) (hr0 : Kd.C (Kd.int .u8) w A0 l0.length l0) (hc0 : l0.length ≤ c0) (h : slices_Clone_byte_byte.f l0 = some r) :
 Calls Try.prog 72 #[.slice A0 l0.length c0] w fun e w' => ∃ v0_ : Value, e = .returned (v0_) ∧ Kd.R (Kd.int .u8) 5 w' w.heap.size (fun _ => True) v0_ r ∧ Below w.heap.size w w' := by
 unfold slices_Clone_byte_byte.f at h
 by_cases hl : l0.length < 140737488355328
 ·rw [if_pos hl] at h
  obtain rfl := Option.some.inj h
  have HR0 := Aside0.mk hr0
  have HC0 := Aside0.mk hc0
  have LM := Aside0.mk hl
  clear hr0 hc0 hl h
  have HB := Aside0.mk (Below.refl w.heap.size w)
  have heq := fun (W : World) (a : Option Addr) (n c : Nat) => Lib.run_eql_slice_nil (P := Try.prog) W 47 5 a n c 0 0 Try.underlying47
  cases A0 with
  | none =>
   have e0 : l0 = [] := by
    cases l0 with
    | nil => rfl
    | cons x y =>
     obtain ⟨ad, had, _⟩ := HR0.out.2.2 (by simp)
     cases had
   subst e0
   go_enter Try.func72, Try.ntmps72
   go_wp2
   go_ret
   exact ⟨_, rfl, Kd.R_nil _ _ _ _ _, HB.out⟩
  | some ad =>
   go_enter Try.func72, Try.ntmps72
   go_wp2_with (first | ((with_reducible refine zD 5 rfl ?_); refine Kd.R_lit (Kd.int .u8) _ 5 ?hg (N := 5) ?hd (xs := ([] : List Int)) (inner := []) (ok := fun _ => True) (okp := fun _ => True) ?hr ?hp (fun _ hk => hk) trivial (Below.refl _ _) (Nat.le_refl _) (by simp) ?_; (case hd => rfl); (case hg => rfl); (case hr => first | (go_simp; done) | (go_simp; rfl)); (case hp => exact (Reps.none _ _)); intro v182 w12 ho13 hb hg_ hnew_; clear hg_ hnew_; have n0_ := Aside0.mk (Kd.R_lower ho13 (below_size (by repeat (first | (with_reducible first | exact HB.out | apply below_alloc | apply pw_below_drewN | apply below_drew1) | exact HB.out)))); have n1_ := Aside0.mk (below_step (by repeat (first | (with_reducible first | exact HB.out | apply below_alloc | apply pw_below_drewN | apply below_drew1) | exact HB.out)) hb); clear HB; have HO183 := n0_; have HB := n1_; clear n0_ n1_; clear hb ho13) | ((with_reducible refine gate_builtin (b := .append) (xs := #[.tmp 5, .tmp 6]) rfl ?_); at_builtin; refine Kd.R_append_rows (Kd.int .u8) (w0 := w) w.heap.size rfl (.tmp 5) (.tmp 6) 47 5 (.int .u8 0) 1 rfl Try.underlying47 info5 rfl (by decide) (by omega) v182 [] l0 _ _ _ (fun _ => True) (fun _ => False) rfl rfl ?aO ?aR (fun _ _ h => h) (fun _ h => h.elim) ?aF ?aB ?aS ?aL ?_; (case aR => repeat (first | exact (Kd.C_below HR0.out HB.out) | (with_reducible refine Kd.C_alloc ?_ _) | (with_reducible refine Kd.C_drewN ?_ _) | (with_reducible refine Kd.C_drew ?_))); (case aB => exact (by repeat (first | (with_reducible first | exact HB.out | apply below_alloc | apply pw_below_drewN | apply below_drew1) | exact HB.out))); (case aF => exact (fun _ _ => trivial)); (case aO => exact (zR HO183.out)); (case aS => exact (below_size (by repeat (first | (with_reducible first | exact HB.out | apply below_alloc | apply pw_below_drewN | apply below_drew1) | exact HB.out)))); (case aL => have := LM.out; simp only [List.length_nil]; omega); intro v185 w14 ho hb hg hat; have n0_ := Aside0.mk (hb); have n1_ := Aside0.mk (ho); clear HB; clear HO183; have HB := n0_; have HO186 := n1_; clear n0_ n1_; clear ho hb hg hat))
   go_ret
   exact ⟨_, rfl, HO186.out, HB.out⟩
 ·rw [if_neg hl] at h
  cases h
def raft_own.f (a0_0 : Int) (a0_1 : Int) (a0_2 : Int) (a0_3 : ByteArray) (a0_4 : Bool) (l0_5 : List Int) (a0_6 : Int) (a0_7 : Int) (a0_8 : Int) (a0_9 : Int) : Option (Int × Int × Int × ByteArray × Bool × List Int × Int × Int × Int × Int) := (slices_Clone_byte_byte.f l0_5).bind fun t164 => (some (a0_0, a0_1, a0_2, a0_3, a0_4, t164, a0_6, a0_7, a0_8, a0_9))
set_option maxRecDepth 100000 in
theorem raft_own.calls (a0_0 : Int) (a0_1 : Int) (a0_2 : Int) (a0_3 : ByteArray) (a0_4 : Bool) (A0_5 : Option Addr) (c0_5 : Nat) (l0_5 : List Int) (a0_6 : Int) (a0_7 : Int) (a0_8 : Int) (a0_9 : Int) (r1 : Int) (r2 : Int) (r3 : Int) (r4 : ByteArray) (r5 : Bool) (r6 : List Int) (r7 : Int) (r8 : Int) (r9 : Int) (r10 : Int) (w : World) (hr0_5 : Kd.C (Kd.int .u8) w A0_5 l0_5.length l0_5) (hc0_5 : l0_5.length ≤ c0_5) (h : raft_own.f a0_0 a0_1 a0_2 a0_3 a0_4 l0_5 a0_6 a0_7 a0_8 a0_9 = some (r1, r2, r3, r4, r5, r6, r7, r8, r9, r10)) :
 Calls Try.prog 71 #[.agg #[.int .i64 a0_0, .int .i64 a0_1, .int .i64 a0_2, .string a0_3, .bool a0_4, .slice A0_5 l0_5.length c0_5, .int .i64 a0_6, .int .i64 a0_7, .int .i64 a0_8, .int .u32 a0_9]] w fun e w' => ∃ v5_ : Value, e = .returned (.agg #[.int .i64 r1, .int .i64 r2, .int .i64 r3, .string r4, .bool r5, v5_, .int .i64 r7, .int .i64 r8, .int .i64 r9, .int .u32 r10]) ∧ Kd.R (Kd.int .u8) 5 w' w.heap.size (fun _ => True) v5_ r6 ∧ Below w.heap.size w w' := by
 have hu54 := Try.underlying54
 have Aj := Am hr0_5
 have Ak := Am hc0_5
 clear hr0_5 hc0_5
 have HB := Am (Below.refl w.heap.size w)
 unfold raft_own.f at h
 have H := h
 clear h
 obtain ⟨t164, A2, H⟩ := zb H
 simp only [Option.some.injEq, Prod.mk.injEq] at H
 obtain ⟨rfl, rfl, rfl, rfl, rfl, rfl, rfl, rfl, rfl, rfl⟩ := H
 go_enter Try.func71, Try.ntmps71
 go_wp2_with (first | ((with_reducible refine zD 1 rfl ?_); refine zE 1 #[.int .i64 a0_0, .int .i64 a0_1, .int .i64 a0_2, .string a0_3, .bool a0_4, .slice A0_5 l0_5.length c0_5, .int .i64 a0_6, .int .i64 a0_7, .int .i64 a0_8, .int .u32 a0_9] 54 ?_; intro Af hg w3 hbox hb; have Aa := Am (hbox); have Al := zA hg HB; replace HB := zB HB hb; have Ad := Al; clear hb hbox hg) | ((with_reducible refine zD 2 rfl ?_); refine zE 2 #[.int .i64 0, .int .i64 0, .int .i64 0, .string (⟨#[]⟩ : ByteArray), .bool false, .slice none 0 0, .int .i64 0, .int .i64 0, .int .i64 0, .int .u32 0] 54 ?_; intro Ae hg w4 hbox hb; have Ab := Am (hbox); have An := zY1 hg HB Ad.out; replace HB := zX1 HB Ad.out hb; have Ah := An; have Ag := Am (zN hg (kL Aa.out)); have Ac := Am (zM hg (kL Aa.out)); replace Aa := kBa Aa hb; clear hb hbox hg; have hnb5 := Ag.out; have hnc5 := Ac.out; obtain ⟨_, _, _, _, _, _, _, _, _, _⟩ := bc10 Aa.out; obtain ⟨_, _, _, _, _, _, _, _, _, _⟩ := bf10 Aa.out) | ((with_reducible refine zC 72 rfl ?_); refine zL (some 6) Try.func72 #[.slice A0_5 l0_5.length c0_5] ?_; (with_reducible refine (slices_Clone_byte_byte.calls _ _ l0_5 t164 _ ?Ao ?Ap A2.out).mono ?_); (case Ao => exact pC (Kd.C_below Aj.out HB.out)); (case Ap => exact Ak.out); rintro e w7 ⟨v165, rfl, ho0, hb⟩; refine ⟨_, rfl, ?_⟩; have Ai := Am (Kd.R_lower ho0 (below_size (pE2 HB.out Ad.out Ah.out))); replace Aa := kBa Aa hb; replace Ab := kBa Ab hb; replace HB := zX2 HB Ad.out Ah.out hb; (try clear hb); (try clear ho0); obtain ⟨Aq, Ar, As⟩ := Kd.R_slice Ai.out; subst As; obtain ⟨_, _, _, _, _, _, _, _, _, _⟩ := bc10 Aa.out; obtain ⟨_, _, _, _, _, _, _, _, _, _⟩ := bf10 Aa.out; obtain ⟨_, _, _, _, _, _, _, _, _, _⟩ := bc10 Ab.out; obtain ⟨_, _, _, _, _, _, _, _, _, _⟩ := bf10 Ab.out))
 refine bodyPost_ret (results_cell_row rfl _ _ Ae 54 #[.int .i64 a0_0, .int .i64 a0_1, .int .i64 a0_2, .string a0_3, .bool a0_4, .slice Aq t164.length Ar, .int .i64 a0_6, .int .i64 a0_7, .int .i64 a0_8, .int .u32 a0_9] (0, 0) _ rfl (kX1 Ab.out Ac.out) Try.underlying54 rfl (by kernel_rfl)) rfl ?_
 exact ⟨_, pX, by (with_reducible repeat (first | apply Kd.R_alloc | apply Kd.R_drewN | apply Kd.R_drew)); exact Kd.R_mono (Rf10 (g := Ae) (Kd.R_far (p := ⟨Af, 5, none⟩) (Kd.R_types (Kd.R_types Ai.out Aa.out (by decide)) Ab.out (by decide)) (fun _ hk => hk.1.2) (.slice Aq t164.length Ar)) (fun _ hk => hk.2)) (fun _ hk => trivial), pE2 HB.out Ad.out Ah.out⟩
def raft_owns.l0 : Nat → List (S54) → List (S54) → Int → Int → Option ((List (S54)))
 | 0, _, _, _, _ => none
 | k + 1, x3, x6, x7, x8 => if x8 < x7 then (if 0 ≤ x8 then (if x8 < (x6.length : Int) then ((raft_own.f ((rd_T54 x6 x8).f0) ((rd_T54 x6 x8).f1) ((rd_T54 x6 x8).f2) ((rd_T54 x6 x8).f3) ((rd_T54 x6 x8).f4.f0) ((rd_T54 x6 x8).f4.f1) ((rd_T54 x6 x8).f4.f2.f0) ((rd_T54 x6 x8).f4.f2.f1) ((rd_T54 x6 x8).f4.f2.f2) ((rd_T54 x6 x8).f4.f2.f3)).bind fun bt169 => (if x3.length < 1353245080339 then (raft_owns.l0 k (x3 ++ [(⟨bt169.1, bt169.2.1, bt169.2.2.1, bt169.2.2.2.1, (⟨bt169.2.2.2.2.1, bt169.2.2.2.2.2.1, (⟨bt169.2.2.2.2.2.2.1, bt169.2.2.2.2.2.2.2.1, bt169.2.2.2.2.2.2.2.2.1, bt169.2.2.2.2.2.2.2.2.2⟩ : S50)⟩ : S52)⟩ : S54)]) x6 x7 (wrap64 (x8 + 1))) else (none))) else (none)) else (none)) else (some x3)
def raft_owns.f (k : Nat) (l0 : List (S54)) : Option ((List (S54))) := raft_owns.l0 k ([] : List (S54)) l0 (l0.length : Int) 0
theorem raft_owns.mono_l : ∀ k, (∀ y0 y1 y2 y3, LeO (raft_owns.l0 k y0 y1 y2 y3) (raft_owns.l0 (k + 1) y0 y1 y2 y3))
 | 0 => fun _ _ _ _ r h => by simp [raft_owns.l0] at h
 | k + 1 => by
  have ih0 := raft_owns.mono_l k
  ·intro y0 y1 y2 y3
   unfold raft_owns.l0
   repeat' (with_reducible first | exact ih0 .. | exact LeO.refl .. | exact LeO.none .. | refine LeO.ite ?_ ?_ | refine LeO.bind ?_ (fun _ => ?_))
theorem raft_owns.mono : ∀ a0 k, LeO (raft_owns.f k a0) (raft_owns.f (k + 1) a0) := by
 intro a0 k
 have ih0 := raft_owns.mono_l k
 unfold raft_owns.f
 repeat' (with_reducible first | exact ih0 .. | exact LeO.refl .. | exact LeO.none .. | refine LeO.ite ?_ ?_ | refine LeO.bind ?_ (fun _ => ?_))
set_option maxRecDepth 100000 in
theorem raft_owns.calls (k : Nat) (A0 : Option Addr) (c0 : Nat) (l0 : List (S54)) (r : List (S54)) (w : World) (hr0 : Kd.C k54 w A0 l0.length l0) (hc0 : l0.length ≤ c0) (h : raft_owns.f k l0 = some r) :
 Calls Try.prog 65 #[.slice A0 l0.length c0] w fun e w' => ∃ v0_ : Value, e = .returned (v0_) ∧ Kd.S k54 54 w' w.heap.size (fun _ => True) v0_ r ∧ Below w.heap.size w w' := by
 have hu54 := Try.underlying54
 have HR0 := Am hr0
 have HC0 := Am hc0
 clear hr0 hc0
 have HB := Am (Below.refl w.heap.size w)
 unfold raft_owns.f at h
 have H := h
 clear h
 have H' := Am H
 clear H
 go_enter Try.func65, Try.ntmps65
 go_wp2
 go_loopg [3, 8] k (fun kq v3 v8 w' => ∃ (Af : List (S54)) (Aa : Int), v8 = .int .i64 Aa ∧ Aside0 (raft_owns.l0 kq Af l0 (l0.length : Int) Aa = some r) ∧ Aside0 (kq ≤ k) ∧ Aside0 (Kd.S k54 54 w' w.heap.size (fun _ => True) v3 Af) ∧ Aside0 (Below w.heap.size w w'))
 case atStart => exact ⟨(([] : List (S54))), (0), zr, H', ⟨Nat.le_refl _⟩, ⟨zn⟩, ⟨pB HB.out⟩⟩
 case round =>
  clear H'
  obtain ⟨Af, Aa, rfl, HA, HK1, Ad, HB⟩ := hrel
  cases gk with
  | zero => exact absurd HA.out (by simp [raft_owns.l0])
  | succ k1 =>
   have H := HA.out
   clear HA
   simp only [raft_owns.l0] at H
   by_cases c2 : Aa < (l0.length : Int)
   rotate_left
   ·rw [if_neg c2] at H
    have c2b0 := decide_eq_false c2
    clear c2
    obtain rfl := Option.some.inj H
    go_wp2
    go_ret
    exact ⟨_, pX, by (with_reducible repeat (first | apply Kd.S_alloc | apply Kd.S_drewN | apply Kd.S_drew)); exact Ad.out, pB HB.out⟩
   rw [if_pos c2] at H
   have c2b0 := decide_eq_true c2
   clear c2
   obtain ⟨c3, H⟩ := zI H
   have c3b0 := decide_eq_true c3
   clear c3
   obtain ⟨c4, H⟩ := zI H
   have c4b0 := decide_eq_true c4
   clear c4
   obtain ⟨⟨t169, t170, t171, t172, t173, t174, t177, t178, t179, t180⟩, A5, H⟩ := zb H
   dsimp only at H
   obtain ⟨c6, H⟩ := zI H
   have LMc6 := Am c6
   clear c6
   obtain ⟨y181, hy181⟩ : ∃ y_ : List (S54), y_ = (Af ++ [(⟨t169, t170, t171, t172, (⟨t173, t174, (⟨t177, t178, t179, t180⟩ : S50)⟩ : S52)⟩ : S54)]) := ⟨_, rfl⟩
   replace H : (raft_owns.l0 k1 y181 l0 (l0.length : Int) (wrap64 (Aa + 1))) = some r := zy hy181 H
   have Ny181 := Am hy181
   clear hy181
   have H' := Am H
   clear H
   have p167 : 0 ≤ (Aa : Int) := of_decide_eq_true pS
   have q167 : Aa < (l0.length : Int) := of_decide_eq_true pS
   obtain ⟨ad167, Aj, c167_5, e167, hx167_0, hx167_1, hx167_2, hx167_3, hx167_4, hx167_5, hx167_6, hx167_7, hx167_8, hx167_9, Ah, Ai⟩ := at_T54u HR0.out Aa p167 q167 HB.out
   cases e167
   have Ak := Am Ai
   have Al := Am Ah
   clear Ai Ah
   replace p167 := eq_true p167
   replace q167 := eq_true q167
   go_wp2_with (first | ((with_reducible refine zD 5 rfl ?_); refine zE 5 #[.int .i64 0, .int .i64 0, .int .i64 0, .string (⟨#[]⟩ : ByteArray), .bool false, .slice none 0 0, .int .i64 0, .int .i64 0, .int .i64 0, .int .u32 0] 54 ?_; intro Ab hg w7 hbox hb; replace Ad := Am (Kd.S_below (Kd.S_elderB (zS Ad.out) Ab (Nat.le_of_eq hg.symm)) hb); have Ac := Am (hbox); have Ap := zA hg HB; replace HB := zB HB hb; have Ae := Ap; clear hb hbox hg; obtain ⟨_, _, _, _, _, _, _, _, _, _⟩ := bc10 Ac.out; obtain ⟨_, _, _, _, _, _, _, _, _, _⟩ := bf10 Ac.out) | ((with_reducible refine zC 71 rfl ?_); refine zL (some 14) Try.func71 #[.agg #[.int .i64 ((rd_T54 l0 Aa).f0), .int .i64 ((rd_T54 l0 Aa).f1), .int .i64 ((rd_T54 l0 Aa).f2), .string ((rd_T54 l0 Aa).f3), .bool ((rd_T54 l0 Aa).f4.f0), .slice Aj ((rd_T54 l0 Aa).f4.f1).length c167_5, .int .i64 ((rd_T54 l0 Aa).f4.f2.f0), .int .i64 ((rd_T54 l0 Aa).f4.f2.f1), .int .i64 ((rd_T54 l0 Aa).f4.f2.f2), .int .u32 ((rd_T54 l0 Aa).f4.f2.f3)]] ?_; (with_reducible refine (raft_own.calls ((rd_T54 l0 Aa).f0) ((rd_T54 l0 Aa).f1) ((rd_T54 l0 Aa).f2) ((rd_T54 l0 Aa).f3) ((rd_T54 l0 Aa).f4.f0) _ _ ((rd_T54 l0 Aa).f4.f1) ((rd_T54 l0 Aa).f4.f2.f0) ((rd_T54 l0 Aa).f4.f2.f1) ((rd_T54 l0 Aa).f4.f2.f2) ((rd_T54 l0 Aa).f4.f2.f3) t169 t170 t171 t172 t173 t174 t177 t178 t179 t180 _ ?Aq ?Ar A5.out).mono ?_); (case Aq => exact Kd.C_below Ak.out (pE HB.out Ae.out)); (case Ar => exact Al.out); rintro e w9 ⟨v175, rfl, ho0, hb⟩; refine ⟨_, rfl, ?_⟩; replace Ad := Am (Kd.S_elder' (by (with_reducible repeat (first | apply Kd.S_alloc | apply Kd.S_drewN | apply Kd.S_drew)); exact (Kd.S_mono (Sf10 (g := Ab) (Kd.S_mono Ad.out (fun k_ hk => (⟨hk, hk.2⟩ : _ ∧ k_ ≠ Ab))) (fun _ hk => hk.2)) (fun _ h_ => h_.1))) (Kd.R_base ho0) hb); have Ag := Am (Kd.R_lower ho0 (below_size (pE HB.out Ae.out))); replace Ac := Am (blk_below (g := Ab) (kX0 Ac.out) hb); replace HB := zX1 HB Ae.out hb; (try clear hb); (try clear hk); (try clear ho0); obtain ⟨An, Ao, At⟩ := Kd.R_slice Ag.out; subst At) | ((with_reducible refine gate_builtin (b := .append) (xs := #[.tmp 12, .tmp 15]) rfl ?_); at_builtin; refine Kd.S_append k54 (w0 := w) w.heap.size rfl (.tmp 12) (.tmp 15) 22 54 (.agg #[(.int .i64 0), (.int .i64 0), (.int .i64 0), (.string ⟨#[]⟩), (.bool false), (.slice none 0 0), (.int .i64 0), (.int .i64 0), (.int .i64 0), (.int .u32 0)]) 104 rfl Try.underlying22 info54 rfl (by decide) (by omega) u3 Af (⟨t169, t170, t171, t172, (⟨t173, t174, (⟨t177, t178, t179, t180⟩ : S50)⟩ : S52)⟩ : S54) [.int .i64 t169, .int .i64 t170, .int .i64 t171, .string t172, .bool t173, .slice An t174.length Ao, .int .i64 t177, .int .i64 t178, .int .i64 t179, .int .u32 t180] (fun k_ => k_ ≠ Ab) (fun k_ => some k_ = (.slice An t174.length Ao : Value).ownBlock) rfl rfl ?aP (fun k_ hk_ => ((Kd.R_mono (ok' := fun k_ => ((fun k_ => k_ ≠ Ab)) k_ ∧ some k_ ≠ (u3 : Value).ownBlock) (Kd.R_types (Kd.R_apart' (Ag.out) (Kd.S_typed Ad.out) (by decide)) Ac.out (by decide)) (fun k_ hk => ⟨hk.2, hk.1.2⟩))).1 k_ hk_.symm) ?aF ?aO ?aB ?aS ?aL ?_; (case aP => exact k54_mkM _ _ _ (⟨t169, t170, t171, t172, (⟨t173, t174, (⟨t177, t178, t179, t180⟩ : S50)⟩ : S52)⟩ : S54) (Kd.R_mono (Kd.R_tight rfl (Kd.R_mono (ok' := fun k_ => ((fun k_ => k_ ≠ Ab)) k_ ∧ some k_ ≠ (u3 : Value).ownBlock) (Kd.R_types (Kd.R_apart' (Ag.out) (Kd.S_typed Ad.out) (by decide)) Ac.out (by decide)) (fun k_ hk => ⟨hk.2, hk.1.2⟩))) (fun _ h_ => h_))); (case aB => exact (pE HB.out Ae.out)); (case aF => exact (fun k_ hk => kF Ac.out k_ hk)); (case aO => exact (by (with_reducible repeat (first | apply Kd.S_alloc | apply Kd.S_drewN | apply Kd.S_drew)); exact Kd.S_mono Ad.out (fun k_ hk => ⟨hk.1.2, fun e_ => hk.2 e_⟩))); (case aS => exact (below_size (pE HB.out Ae.out))); (case aL => have := LMc6.out; omega); intro v182 w10 ho hb hg hat; rw [← Ny181.out] at ho; replace Ac := Am (blk_grown (g := Ab) (o := .cells #[.int .i64 ((rd_T54 l0 Aa).f0), .int .i64 ((rd_T54 l0 Aa).f1), .int .i64 ((rd_T54 l0 Aa).f2), .string ((rd_T54 l0 Aa).f3), .bool ((rd_T54 l0 Aa).f4.f0), .slice Aj ((rd_T54 l0 Aa).f4.f1).length c167_5, .int .i64 ((rd_T54 l0 Aa).f4.f2.f0), .int .i64 ((rd_T54 l0 Aa).f4.f2.f1), .int .i64 ((rd_T54 l0 Aa).f4.f2.f2), .int .u32 ((rd_T54 l0 Aa).f4.f2.f3)] 54 (0, 0)) (pK Ac.out) hg (Kd.S_away Ad.out (fun _ hk => hk.1.2))); replace HB := Am (hb); have As := Am (ho); clear Ad Ag ho hb hg hat))
   go_roundg k1
   case measure => have := HK1.out; omega
   case rel => exact ⟨(y181), (wrap64 (Aa + 1)), zr, H', ⟨by have := HK1.out; omega⟩, ⟨by (with_reducible repeat (first | apply Kd.S_alloc | apply Kd.S_drewN | apply Kd.S_drew)); exact Kd.S_mono As.out (fun _ hk => trivial)⟩, ⟨pE HB.out Ae.out⟩⟩
end
end Go.Proofs.Ytmcijphmcobjlaa.PWalMakes
