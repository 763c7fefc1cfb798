/- What the law reaches, as plain Lean functions, and that the machine's calls answer just that. -/
import Derived.Test.YtmcijphmcobjlaaPWalMakesx0
import Derived.Test.YtmcijphmcobjlaaPWalMakesx11
import Derived.Test.YtmcijphmcobjlaaPWalMakesx18
import Derived.Test.YtmcijphmcobjlaaPWalMakesx19
namespace Go.Proofs.Ytmcijphmcobjlaa.PWalMakes
open Go.RowKit Go.Proofs.YtmcijphmcobjlaaW.PrintWords Go.Proofs.YtmcijphmcobjlaaW.PrintLast Go.Proofs.YtmcijphmcobjlaaW.PrintMore
set_option linter.unusedVariables false
set_option linter.unusedSimpArgs false
section
attribute [local go_sem] max2_int min2_int max_two min_two max_three min_three max_four min_four
set_option maxHeartbeats 8000000
attribute [local go_sem] wrap64_l1 wrap64_l2 wrap64_l3 wrap64_l4 wrap64_l5
def garnerref22_Follows.f (a0_0 : Int) (a0_1 : Int) (a0_2 : Int) (a1_0 : Int) (a1_1 : Int) (a1_2 : Int) : Option (Bool) := if a1_0 < a0_0 then (some false) else (if a1_2 < a0_2 then (some false) else (if a1_0 > a0_0 then (some true) else (if a0_1 = 0 then (some true) else (some (a1_1 == a0_1)))))
set_option maxRecDepth 100000 in
theorem garnerref22_Follows.calls (a0_0 : Int) (a0_1 : Int) (a0_2 : Int) (a1_0 : Int) (a1_1 : Int) (a1_2 : Int) (r : Bool) (w : World) (h : garnerref22_Follows.f a0_0 a0_1 a0_2 a1_0 a1_1 a1_2 = some r) :
 Calls Try.prog 70 #[.agg #[.int .i64 a0_0, .int .i64 a0_1, .int .i64 a0_2], .agg #[.int .i64 a1_0, .int .i64 a1_1, .int .i64 a1_2]] w fun e w' => e = .returned (.bool r) ∧ Below w.heap.size w w' := by
 have hu24 := Try.underlying24
 have HB := Am (Below.refl w.heap.size w)
 unfold garnerref22_Follows.f at h
 have H := h
 clear h
 by_cases c3 : a1_0 < a0_0
 ·rw [if_pos c3] at H
  have c3b0 := decide_eq_true c3
  clear c3
  obtain rfl := Option.some.inj H
  go_enter Try.func70, Try.ntmps70
  go_wp2_with (first | ((with_reducible refine zD 2 rfl ?_); refine zE 2 #[.int .i64 a0_0, .int .i64 a0_1, .int .i64 a0_2] 24 ?_; intro Ad hg w4 hbox hb; have Aa := Am (hbox); have Ah := zA hg HB; replace HB := zB HB hb; have Ae := Ah; clear hb hbox hg) | ((with_reducible refine zD 3 rfl ?_); refine zE 3 #[.int .i64 a1_0, .int .i64 a1_1, .int .i64 a1_2] 24 ?_; intro Af hg w5 hbox hb; have Ag := Am (hbox); have Ai := zY1 hg HB Ae.out; replace HB := zX1 HB Ae.out hb; have Aj := Ai; have Ab := Am (zN hg (kL Aa.out)); have Ac := Am (zM hg (kL Aa.out)); replace Aa := kBa Aa hb; clear hb hbox hg; have hnb6 := Ac.out; have hnc6 := Ab.out; obtain ⟨_, _, _⟩ := bc3 Ag.out; obtain ⟨_, _, _⟩ := bf3 Ag.out; obtain ⟨_, _, _⟩ := bc3 Aa.out; obtain ⟨_, _, _⟩ := bf3 Aa.out))
  go_ret
  exact ⟨pX, pE2 HB.out Ae.out Aj.out⟩
 rw [if_neg c3] at H
 have c3b0 := decide_eq_false c3
 clear c3
 by_cases c9 : a1_2 < a0_2
 ·rw [if_pos c9] at H
  have c9b0 := decide_eq_true c9
  clear c9
  obtain rfl := Option.some.inj H
  go_enter Try.func70, Try.ntmps70
  go_wp2_with (first | ((with_reducible refine zD 2 rfl ?_); refine zE 2 #[.int .i64 a0_0, .int .i64 a0_1, .int .i64 a0_2] 24 ?_; intro Ad hg w10 hbox hb; have Aa := Am (hbox); have Ah := zA hg HB; replace HB := zB HB hb; have Ae := Ah; clear hb hbox hg) | ((with_reducible refine zD 3 rfl ?_); refine zE 3 #[.int .i64 a1_0, .int .i64 a1_1, .int .i64 a1_2] 24 ?_; intro Af hg w11 hbox hb; have Ag := Am (hbox); have Ai := zY1 hg HB Ae.out; replace HB := zX1 HB Ae.out hb; have Aj := Ai; have Ab := Am (zN hg (kL Aa.out)); have Ac := Am (zM hg (kL Aa.out)); replace Aa := kBa Aa hb; clear hb hbox hg; have hnb12 := Ac.out; have hnc12 := Ab.out; obtain ⟨_, _, _⟩ := bc3 Ag.out; obtain ⟨_, _, _⟩ := bf3 Ag.out; obtain ⟨_, _, _⟩ := bc3 Aa.out; obtain ⟨_, _, _⟩ := bf3 Aa.out))
  go_ret
  exact ⟨pX, pE2 HB.out Ae.out Aj.out⟩
 rw [if_neg c9] at H
 have c9b0 := decide_eq_false c9
 clear c9
 by_cases c15 : a1_0 > a0_0
 ·rw [if_pos c15] at H
  have c15b0 : decide (a0_0 < a1_0) = true := decide_eq_true c15
  clear c15
  obtain rfl := Option.some.inj H
  go_enter Try.func70, Try.ntmps70
  go_wp2_with (first | ((with_reducible refine zD 2 rfl ?_); refine zE 2 #[.int .i64 a0_0, .int .i64 a0_1, .int .i64 a0_2] 24 ?_; intro Ad hg w16 hbox hb; have Aa := Am (hbox); have Ah := zA hg HB; replace HB := zB HB hb; have Ae := Ah; clear hb hbox hg) | ((with_reducible refine zD 3 rfl ?_); refine zE 3 #[.int .i64 a1_0, .int .i64 a1_1, .int .i64 a1_2] 24 ?_; intro Af hg w17 hbox hb; have Ag := Am (hbox); have Ai := zY1 hg HB Ae.out; replace HB := zX1 HB Ae.out hb; have Aj := Ai; have Ab := Am (zN hg (kL Aa.out)); have Ac := Am (zM hg (kL Aa.out)); replace Aa := kBa Aa hb; clear hb hbox hg; have hnb18 := Ac.out; have hnc18 := Ab.out; obtain ⟨_, _, _⟩ := bc3 Ag.out; obtain ⟨_, _, _⟩ := bf3 Ag.out; obtain ⟨_, _, _⟩ := bc3 Aa.out; obtain ⟨_, _, _⟩ := bf3 Aa.out))
  go_ret
  exact ⟨pX, pE2 HB.out Ae.out Aj.out⟩
 rw [if_neg c15] at H
 have c15b0 : decide (a0_0 < a1_0) = false := decide_eq_false c15
 clear c15
 by_cases c21 : a0_1 = 0
 ·rw [if_pos c21] at H
  obtain ⟨c21b0, c21b1⟩ := zc c21
  clear c21
  obtain rfl := Option.some.inj H
  go_enter Try.func70, Try.ntmps70
  go_wp2_with (first | ((with_reducible refine zD 2 rfl ?_); refine zE 2 #[.int .i64 a0_0, .int .i64 a0_1, .int .i64 a0_2] 24 ?_; intro Ad hg w22 hbox hb; have Aa := Am (hbox); have Ah := zA hg HB; replace HB := zB HB hb; have Ae := Ah; clear hb hbox hg) | ((with_reducible refine zD 3 rfl ?_); refine zE 3 #[.int .i64 a1_0, .int .i64 a1_1, .int .i64 a1_2] 24 ?_; intro Af hg w23 hbox hb; have Ag := Am (hbox); have Ai := zY1 hg HB Ae.out; replace HB := zX1 HB Ae.out hb; have Aj := Ai; have Ab := Am (zN hg (kL Aa.out)); have Ac := Am (zM hg (kL Aa.out)); replace Aa := kBa Aa hb; clear hb hbox hg; have hnb24 := Ac.out; have hnc24 := Ab.out; obtain ⟨_, _, _⟩ := bc3 Ag.out; obtain ⟨_, _, _⟩ := bf3 Ag.out; obtain ⟨_, _, _⟩ := bc3 Aa.out; obtain ⟨_, _, _⟩ := bf3 Aa.out))
  go_ret
  exact ⟨pX, pE2 HB.out Ae.out Aj.out⟩
 rw [if_neg c21] at H
 obtain ⟨c21b0, c21b1⟩ := zk c21
 obtain rfl := Option.some.inj H
 go_enter Try.func70, Try.ntmps70
 go_wp2_with (first | ((with_reducible refine zD 2 rfl ?_); refine zE 2 #[.int .i64 a0_0, .int .i64 a0_1, .int .i64 a0_2] 24 ?_; intro Ad hg w27 hbox hb; have Aa := Am (hbox); have Ah := zA hg HB; replace HB := zB HB hb; have Ae := Ah; clear hb hbox hg) | ((with_reducible refine zD 3 rfl ?_); refine zE 3 #[.int .i64 a1_0, .int .i64 a1_1, .int .i64 a1_2] 24 ?_; intro Af hg w28 hbox hb; have Ag := Am (hbox); have Ai := zY1 hg HB Ae.out; replace HB := zX1 HB Ae.out hb; have Aj := Ai; have Ab := Am (zN hg (kL Aa.out)); have Ac := Am (zM hg (kL Aa.out)); replace Aa := kBa Aa hb; clear hb hbox hg; have hnb29 := Ac.out; have hnc29 := Ab.out; obtain ⟨_, _, _⟩ := bc3 Ag.out; obtain ⟨_, _, _⟩ := bf3 Ag.out; obtain ⟨_, _, _⟩ := bc3 Aa.out; obtain ⟨_, _, _⟩ := bf3 Aa.out))
 go_ret
 exact ⟨pX, pE2 HB.out Ae.out Aj.out⟩
def garnerref22_Step.j0 : Nat → Int → Bool → Int → Int → Int → Int → Int → Int → Option (Int)
 | 0, _, _, _, _, _, _, _, _ => none
 | k + 1, x2, x14, x408000, x408001, x408002, x409000, x409001, x409002 => if x14 = true then (some 1) else ((garnerref22_Follows.f x408000 x408001 x408002 x409000 x409001 x409002).bind fun t411 => (if t411 = true then (if x409002 > x2 then (some 3) else (some 0)) else (some 4)))
def garnerref22_Step.f (k : Nat) (a0_0 : Int) (a0_1 : Int) (a0_2 : Int) (a1_0 : Int) (a1_1 : Int) (a1_2 : Int) (a2 : Int) : Option (Int) := (garnerref22_May.f a0_0 a0_1 a0_2).bind fun t409 => (if t409 = true then ((garnerref22_May.f a1_0 a1_1 a1_2).bind fun t410 => (garnerref22_Step.j0 k a2 (!t410) a0_0 a0_1 a0_2 a1_0 a1_1 a1_2)) else (garnerref22_Step.j0 k a2 true a0_0 a0_1 a0_2 a1_0 a1_1 a1_2))
theorem garnerref22_Step.mono_l : ∀ k, (∀ y0 y1 y2 y3 y4 y5 y6 y7, LeO (garnerref22_Step.j0 k y0 y1 y2 y3 y4 y5 y6 y7) (garnerref22_Step.j0 (k + 1) y0 y1 y2 y3 y4 y5 y6 y7))
 | 0 => fun _ _ _ _ _ _ _ _ r h => by simp [garnerref22_Step.j0] at h
 | k + 1 => by
  have ih0 := garnerref22_Step.mono_l k
  ·intro y0 y1 y2 y3 y4 y5 y6 y7
   unfold garnerref22_Step.j0
   repeat' (with_reducible first | exact ih0 .. | exact LeO.refl .. | exact LeO.none .. | refine LeO.ite ?_ ?_ | refine LeO.bind ?_ (fun _ => ?_))
theorem garnerref22_Step.mono : ∀ a0 a1 a2 a3 a4 a5 a6 k, LeO (garnerref22_Step.f k a0 a1 a2 a3 a4 a5 a6) (garnerref22_Step.f (k + 1) a0 a1 a2 a3 a4 a5 a6) := by
 intro a0 a1 a2 a3 a4 a5 a6 k
 have ih0 := garnerref22_Step.mono_l k
 unfold garnerref22_Step.f
 repeat' (with_reducible first | exact ih0 .. | exact LeO.refl .. | exact LeO.none .. | refine LeO.ite ?_ ?_ | refine LeO.bind ?_ (fun _ => ?_))
set_option maxRecDepth 100000 in
theorem garnerref22_Step.calls (k : Nat) (a0_0 : Int) (a0_1 : Int) (a0_2 : Int) (a1_0 : Int) (a1_1 : Int) (a1_2 : Int) (a2 : Int) (r : Int) (w : World) (h : garnerref22_Step.f k a0_0 a0_1 a0_2 a1_0 a1_1 a1_2 a2 = some r) :
 Calls Try.prog 61 #[.agg #[.int .i64 a0_0, .int .i64 a0_1, .int .i64 a0_2], .agg #[.int .i64 a1_0, .int .i64 a1_1, .int .i64 a1_2], .int .i64 a2] w fun e w' => e = .returned (.int .i64 r) ∧ Below w.heap.size w w' := by
 have hu24 := Try.underlying24
 have HB := Am (Below.refl w.heap.size w)
 unfold garnerref22_Step.f at h
 have H := h
 clear h
 have HC4 := Am H
 clear H
 go_enter Try.func61, Try.ntmps61
 go_upto_region 1 with (first | ((with_reducible refine zD 3 rfl ?_); refine zE 3 #[.int .i64 a0_0, .int .i64 a0_1, .int .i64 a0_2] 24 ?_; intro Ag hg w5 hbox hb; have Aa := Am (hbox); have A2 := zA hg HB; replace HB := zB HB hb; have Ac := A2; clear hb hbox hg) | ((with_reducible refine zD 4 rfl ?_); refine zE 4 #[.int .i64 a1_0, .int .i64 a1_1, .int .i64 a1_2] 24 ?_; intro Ah hg w6 hbox hb; have Ab := Am (hbox); have A3 := zY1 hg HB Ac.out; replace HB := zX1 HB Ac.out hb; have Af := A3; have Ad := Am (zN hg (kL Aa.out)); have Ae := Am (zM hg (kL Aa.out)); replace Aa := kBa Aa hb; clear hb hbox hg))
 (try simp only [Act.put, List.setIfInBounds_toArray, List.set_cons_zero, List.set_cons_succ])
 go_cut [14] (fun v14 wc => ∃ (kq : Nat) (Ai : Bool), v14 = .bool Ai ∧ Aside0 (garnerref22_Step.j0 kq a2 Ai a0_0 a0_1 a0_2 a1_0 a1_1 a1_2 = some r) ∧ Aside0 (kq ≤ k) ∧ Aside0 (wc.heap[Ag]? = some (.cells #[.int .i64 a0_0, .int .i64 a0_1, .int .i64 a0_2] 24 (0, 0))) ∧ Aside0 (wc.heap[Ah]? = some (.cells #[.int .i64 a1_0, .int .i64 a1_1, .int .i64 a1_2] 24 (0, 0))) ∧ Aside0 (Below w.heap.size w wc))
 case first =>
  have H := HC4.out
  clear HC4
  obtain ⟨t409, A7, H⟩ := zb H
  by_cases c8 : t409 = true
  rotate_left
  ·replace c8 := Bool.eq_false_iff.mpr c8
   subst c8
   rw [if_neg zF] at H
   have H' := Am H
   clear H
   have hnb15 := Ad.out
   have hnc15 := Ae.out
   obtain ⟨Aw, Ax, Ay⟩ := bc3 Aa.out
   obtain ⟨Az, A0, A1⟩ := bf3 Aa.out
   go_wp2_with (first | ((with_reducible refine zC 23 rfl ?_); refine zL (some 8) Try.func23 #[.agg #[.int .i64 a0_0, .int .i64 a0_1, .int .i64 a0_2]] ?_; (with_reducible refine (garnerref22_May.calls a0_0 a0_1 a0_2 false _ A7.out).mono ?_); rintro e w17 ⟨rfl, hb⟩; refine ⟨_, rfl, ?_⟩; replace Aa := kBa Aa hb; replace Ab := kBa Ab hb; replace HB := zX2 HB Ac.out Af.out hb; (try clear hb)))
   go_meet
   case rel => exact ⟨_, (true), zr, H', ⟨zo⟩, ⟨pK Aa.out⟩, ⟨pK Ab.out⟩, ⟨pE2 HB.out Ac.out Af.out⟩⟩
  subst c8
  rw [if_pos rfl] at H
  obtain ⟨t410, A9, H⟩ := zb H
  have H' := Am H
  clear H
  have hnb10 := Ad.out
  have hnc10 := Ae.out
  obtain ⟨Aj, Ak, Al⟩ := bc3 Aa.out
  obtain ⟨An, Ao, Ap⟩ := bf3 Aa.out
  go_wp2_with (first | ((with_reducible refine zC 23 rfl ?_); refine zL (some 8) Try.func23 #[.agg #[.int .i64 a0_0, .int .i64 a0_1, .int .i64 a0_2]] ?_; (with_reducible refine (garnerref22_May.calls a0_0 a0_1 a0_2 true _ A7.out).mono ?_); rintro e w12 ⟨rfl, hb⟩; refine ⟨_, rfl, ?_⟩; replace Aa := kBa Aa hb; replace Ab := kBa Ab hb; replace HB := zX2 HB Ac.out Af.out hb; (try clear hb); obtain ⟨Aq, Ar, As⟩ := bc3 Ab.out; obtain ⟨At, Au, Av⟩ := bf3 Ab.out) | (go_at_call 23; (with_reducible refine (garnerref22_May.calls a1_0 a1_1 a1_2 t410 _ A9.out).mono ?_); rintro e w14 ⟨rfl, hb⟩; replace Aa := kBa Aa hb; replace Ab := kBa Ab hb; replace HB := zX2 HB Ac.out Af.out hb; (try clear hb)))
  go_meet
  case rel => exact ⟨_, (!t410), zr, H', ⟨zo⟩, ⟨pK Aa.out⟩, ⟨pK Ab.out⟩, ⟨pE2 HB.out Ac.out Af.out⟩⟩
 case rest =>
  clear HC4
  try clear c1
  try clear c2
  try clear p2
  try clear c6
  try clear c8
  try clear c10
  try clear c15
  try clear Aj Ak Al
  try clear Aq Ar As
  try clear Aw Ax Ay
  try clear An Ao Ap
  try clear At Au Av
  try clear Az A0 A1
  obtain ⟨kq, Ai, rfl, HA, HJ3, Aa, Ab, HB⟩ := hcut
  cases kq with
  | zero => exact absurd HA.out (by simp [garnerref22_Step.j0])
  | succ kj3 =>
   have H := HA.out
   clear HA
   simp only [garnerref22_Step.j0] at H
   by_cases c18 : Ai = true
   ·subst c18
    rw [if_pos rfl] at H
    obtain rfl := Option.some.inj H
    go_wp2
    go_ret
    exact ⟨pX, pE2 HB.out Ac.out Af.out⟩
   replace c18 := Bool.eq_false_iff.mpr c18
   subst c18
   rw [if_neg zF] at H
   obtain ⟨t411, A19, H⟩ := zb H
   by_cases c20 : t411 = true
   rotate_left
   ·replace c20 := Bool.eq_false_iff.mpr c20
    subst c20
    rw [if_neg zF] at H
    obtain rfl := Option.some.inj H
    have hnb32 := Ad.out
    have hnc32 := Ae.out
    obtain ⟨_, _, _⟩ := bc3 Aa.out
    obtain ⟨_, _, _⟩ := bf3 Aa.out
    obtain ⟨_, _, _⟩ := bc3 Ab.out
    obtain ⟨_, _, _⟩ := bf3 Ab.out
    go_wp2_with (first | ((with_reducible refine zC 70 rfl ?_); refine zL (some 17) Try.func70 #[.agg #[.int .i64 a0_0, .int .i64 a0_1, .int .i64 a0_2], .agg #[.int .i64 a1_0, .int .i64 a1_1, .int .i64 a1_2]] ?_; (with_reducible refine (garnerref22_Follows.calls a0_0 a0_1 a0_2 a1_0 a1_1 a1_2 false _ A19.out).mono ?_); rintro e w35 ⟨rfl, hb⟩; refine ⟨_, rfl, ?_⟩; replace Aa := kBa Aa hb; replace Ab := kBa Ab hb; replace HB := zX2 HB Ac.out Af.out hb; (try clear hb)))
    go_ret
    exact ⟨pX, pE2 HB.out Ac.out Af.out⟩
   subst c20
   rw [if_pos rfl] at H
   by_cases c21 : a1_2 > a2
   ·rw [if_pos c21] at H
    have c21b0 : decide (a2 < a1_2) = true := decide_eq_true c21
    clear c21
    obtain rfl := Option.some.inj H
    have hnb22 := Ad.out
    have hnc22 := Ae.out
    obtain ⟨_, _, _⟩ := bc3 Aa.out
    obtain ⟨_, _, _⟩ := bf3 Aa.out
    obtain ⟨_, _, _⟩ := bc3 Ab.out
    obtain ⟨_, _, _⟩ := bf3 Ab.out
    go_wp2_with (first | ((with_reducible refine zC 70 rfl ?_); refine zL (some 17) Try.func70 #[.agg #[.int .i64 a0_0, .int .i64 a0_1, .int .i64 a0_2], .agg #[.int .i64 a1_0, .int .i64 a1_1, .int .i64 a1_2]] ?_; (with_reducible refine (garnerref22_Follows.calls a0_0 a0_1 a0_2 a1_0 a1_1 a1_2 true _ A19.out).mono ?_); rintro e w25 ⟨rfl, hb⟩; refine ⟨_, rfl, ?_⟩; replace Aa := kBa Aa hb; replace Ab := kBa Ab hb; replace HB := zX2 HB Ac.out Af.out hb; (try clear hb); obtain ⟨_, _, _⟩ := bc3 Ab.out; obtain ⟨_, _, _⟩ := bf3 Ab.out))
    go_ret
    exact ⟨pX, pE2 HB.out Ac.out Af.out⟩
   rw [if_neg c21] at H
   have c21b0 : decide (a2 < a1_2) = false := decide_eq_false c21
   clear c21
   obtain rfl := Option.some.inj H
   have hnb27 := Ad.out
   have hnc27 := Ae.out
   obtain ⟨_, _, _⟩ := bc3 Aa.out
   obtain ⟨_, _, _⟩ := bf3 Aa.out
   obtain ⟨_, _, _⟩ := bc3 Ab.out
   obtain ⟨_, _, _⟩ := bf3 Ab.out
   go_wp2_with (first | ((with_reducible refine zC 70 rfl ?_); refine zL (some 17) Try.func70 #[.agg #[.int .i64 a0_0, .int .i64 a0_1, .int .i64 a0_2], .agg #[.int .i64 a1_0, .int .i64 a1_1, .int .i64 a1_2]] ?_; (with_reducible refine (garnerref22_Follows.calls a0_0 a0_1 a0_2 a1_0 a1_1 a1_2 true _ A19.out).mono ?_); rintro e w30 ⟨rfl, hb⟩; refine ⟨_, rfl, ?_⟩; replace Aa := kBa Aa hb; replace Ab := kBa Ab hb; replace HB := zX2 HB Ac.out Af.out hb; (try clear hb); obtain ⟨_, _, _⟩ := bc3 Ab.out; obtain ⟨_, _, _⟩ := bf3 Ab.out))
   go_ret
   exact ⟨pX, pE2 HB.out Ac.out Af.out⟩
def garnerref23_Vote.f (k : Nat) (a0_0 : Int) (a0_1 : Int) (l0_2 : List (S54)) (a0_3 : Int) (a0_4 : Int) (a0_5 : Int) (a0_6 : Int) (a1_0 : Int) (a1_1 : Int) (a1_2 : Int) : Option (Int × Int × (List (S54)) × Int × Int × Int × Int × Int) := (garnerref23_Last.f a0_0 a0_1 l0_2 a0_3 a0_4 a0_5 a0_6).bind fun t415 => ((garnerref22_Step.f k a0_3 a0_4 a0_5 a1_0 a1_1 a1_2 t415).bind fun t416 => (if t416 = 0 then (some (a0_0, a0_1, l0_2, a1_0, a1_1, a1_2, a0_6, 0)) else (some (0, 0, ([] : List (S54)), 0, 0, 0, 0, t416))))
theorem garnerref23_Vote.mono : ∀ a0 a1 a2 a3 a4 a5 a6 a7 a8 a9 k, LeO (garnerref23_Vote.f k a0 a1 a2 a3 a4 a5 a6 a7 a8 a9) (garnerref23_Vote.f (k + 1) a0 a1 a2 a3 a4 a5 a6 a7 a8 a9) := by
 intro a0 a1 a2 a3 a4 a5 a6 a7 a8 a9 k
 unfold garnerref23_Vote.f
 repeat' (with_reducible first | exact garnerref22_Step.mono .. | exact LeO.refl .. | exact LeO.none .. | refine LeO.ite ?_ ?_ | refine LeO.bind ?_ (fun _ => ?_))
set_option maxRecDepth 100000 in
theorem garnerref23_Vote.calls (k : Nat) (a0_0 : Int) (a0_1 : Int) (P0_2_ : Nat → Prop) (A0_2 : Option Addr) (c0_2 : Nat) (l0_2 : List (S54)) (a0_3 : Int) (a0_4 : Int) (a0_5 : Int) (a0_6 : Int) (a1_0 : Int) (a1_1 : Int) (a1_2 : Int) (r1 : Int) (r2 : Int) (r3 : List (S54)) (r4 : Int) (r5 : Int) (r6 : Int) (r7 : Int) (r8 : Int) (w : World) (hs0_2 : Kd.V k54 54 w w.heap.size (fun k_ => P0_2_ k_) (.slice A0_2 l0_2.length c0_2) l0_2) (h : garnerref23_Vote.f k a0_0 a0_1 l0_2 a0_3 a0_4 a0_5 a0_6 a1_0 a1_1 a1_2 = some (r1, r2, r3, r4, r5, r6, r7, r8)) :
 Calls Try.prog 40 #[.agg #[.int .i64 a0_0, .int .i64 a0_1, .slice A0_2 l0_2.length c0_2, .int .i64 a0_3, .int .i64 a0_4, .int .i64 a0_5, .int .i64 a0_6], .agg #[.int .i64 a1_0, .int .i64 a1_1, .int .i64 a1_2]] w fun e w' => ∃ v2_ : Value, e = .returned (.tuple #[.agg #[.int .i64 r1, .int .i64 r2, v2_, .int .i64 r4, .int .i64 r5, .int .i64 r6, .int .i64 r7], .int .i64 r8]) ∧ Kd.V k54 54 w' w.heap.size (fun k_ => (P0_2_ k_ ∨ w.heap.size ≤ k_)) v2_ r3 ∧ Below w.heap.size w w' := by
 have hu26 := Try.underlying26
 have hu24 := Try.underlying24
 have HO0_2 := Am (show Kd.V k54 54 w w.heap.size (fun k_ => (P0_2_ k_ ∨ w.heap.size ≤ k_)) (.slice A0_2 l0_2.length c0_2) l0_2 from Kd.V_mono hs0_2 (fun k_ hk => .inl hk))
 have HB := Am (Below.refl w.heap.size w)
 unfold garnerref23_Vote.f at h
 have H := h
 clear h
 obtain ⟨t415, A3, H⟩ := zb H
 obtain ⟨t416, A4, H⟩ := zb H
 by_cases c5 : t416 = 0
 rotate_left
 ·rw [if_neg c5] at H
  obtain ⟨c5b0, c5b1⟩ := zk c5
  simp only [Option.some.injEq, Prod.mk.injEq] at H
  obtain ⟨rfl, rfl, rfl, rfl, rfl, rfl, rfl, rfl⟩ := H
  go_enter Try.func40, Try.ntmps40
  try go_wp2_with (first | ((with_reducible refine zD 2 rfl ?_); refine zE 2 #[.int .i64 a0_0, .int .i64 a0_1, .slice A0_2 l0_2.length c0_2, .int .i64 a0_3, .int .i64 a0_4, .int .i64 a0_5, .int .i64 a0_6] 26 ?_; intro Ac hg w18 hbox hb; replace HO0_2 := Am (Kd.V_below (Kd.V_elderB (pV HO0_2.out) Ac (Nat.le_of_eq hg.symm)) hb); have Aa := Am (hbox); have Aq := zA hg HB; replace HB := zB HB hb; have Ag := Aq; clear hb hbox hg) | ((with_reducible refine zD 3 rfl ?_); refine zE 3 #[.int .i64 a1_0, .int .i64 a1_1, .int .i64 a1_2] 24 ?_; intro Ae hg w19 hbox hb; replace HO0_2 := Am (Kd.V_below (Kd.V_elderB (pV HO0_2.out) Ae (Nat.le_of_eq hg.symm)) hb); have Ab := Am (hbox); have Ar := zY1 hg HB Ag.out; replace HB := zX1 HB Ag.out hb; have Ah := Ar; have Ao := Am (zN hg (kL Aa.out)); have Ap := Am (zM hg (kL Aa.out)); replace Aa := kBa Aa hb; clear hb hbox hg) | ((with_reducible refine zD 4 rfl ?_); refine zE 4 #[.int .i64 0, .int .i64 0, .slice none 0 0, .int .i64 0, .int .i64 0, .int .i64 0, .int .i64 0] 26 ?_; intro Af hg w20 hbox hb; replace HO0_2 := Am (Kd.V_below (Kd.V_elderB (pV HO0_2.out) Af (Nat.le_of_eq hg.symm)) hb); have Ad := Am (hbox); have As := zY2 hg HB Ag.out Ah.out; replace HB := zX2 HB Ag.out Ah.out hb; have An := As; have Aj := Am (zN hg (kL Aa.out)); have Ai := Am (zM hg (kL Aa.out)); replace Aa := kBa Aa hb; have Ak := Am (zN hg (kL Ab.out)); have Al := Am (zM hg (kL Ab.out)); replace Ab := kBa Ab hb; clear hb hbox hg))
  replace HO0_2 := dVa HO0_2
  replace Aa := kDa Aa
  replace Ab := kDa Ab
  replace Ad := kDa Ad
  replace HB := bDa HB
  refine start_ (n := 7) (S := fun w' => cG w' Ac 0 (.int .i64 a0_0) ∧ cG w' Ac 1 (.int .i64 a0_1) ∧ cG w' Ac 2 (.slice A0_2 l0_2.length c0_2) ∧ cG w' Ac 3 (.int .i64 a0_3) ∧ cG w' Ac 4 (.int .i64 a0_4) ∧ cG w' Ac 5 (.int .i64 a0_5) ∧ cG w' Ac 6 (.int .i64 a0_6) ∧ cG w' Ae 0 (.int .i64 a1_0) ∧ cG w' Ae 1 (.int .i64 a1_1) ∧ cG w' Ae 2 (.int .i64 a1_2)) (ds := []) #[false, false, false, false, false, false, false] (by kernel_rfl) rfl rfl ⟨(blk_cell Aa.out 0).trans rfl, (blk_cell Aa.out 1).trans rfl, (blk_cell Aa.out 2).trans rfl, (blk_cell Aa.out 3).trans rfl, (blk_cell Aa.out 4).trans rfl, (blk_cell Aa.out 5).trans rfl, (blk_cell Aa.out 6).trans rfl, (blk_cell Ab.out 0).trans rfl, (blk_cell Ab.out 1).trans rfl, (blk_cell Ab.out 2).trans rfl⟩ (fun hHeld => ?_)
  generalize w20.drew = w21 at HO0_2 Aa Ab Ad HB hHeld ⊢
  refine zu 0 7 7 1 ?_
  refine zv 1 8 7 3 hHeld ?_
  refine zv 2 9 7 7 hHeld ?_
  refine zv 3 10 7 15 hHeld ?_
  refine one_ (i := 4) (N := some 11) (bw 7 31) rfl rfl (by kernel_rfl) (by decide) (fun K hK => ?_)
  refine goes_ Try.func59 (by kernel_rfl) rfl #[.agg #[.int .i64 a0_0, .int .i64 a0_1, .slice A0_2 l0_2.length c0_2, .int .i64 a0_3, .int .i64 a0_4, .int .i64 a0_5, .int .i64 a0_6]] (by rfl) rfl rfl pL ?_
  with_reducible refine (garnerref23_Last.calls a0_0 a0_1 _ _ l0_2 a0_3 a0_4 a0_5 a0_6 t415 _ ?At ?Au A3.out).mono ?_
  (case At => exact pC (Kd.V_reads' HO0_2.out).2.2)
  (case Au => exact (Kd.V_reads' HO0_2.out).2.1)
  rintro e w22 ⟨rfl, hb⟩
  refine ⟨_, rfl, ?_⟩
  replace HO0_2 := bVa HO0_2 hb
  replace Aa := kBa Aa hb
  replace Ab := kBa Ab hb
  replace Ad := kBa Ad hb
  replace HB := zX3 HB Ag.out Ah.out An.out hb
  (try clear hb)
  (try clear hb2)
  (try clear hk)
  (try clear hi)
  refine hK.out _ _ ⟨(blk_cell Aa.out 0).trans rfl, (blk_cell Aa.out 1).trans rfl, (blk_cell Aa.out 2).trans rfl, (blk_cell Aa.out 3).trans rfl, (blk_cell Aa.out 4).trans rfl, (blk_cell Aa.out 5).trans rfl, (blk_cell Aa.out 6).trans rfl, (blk_cell Ab.out 0).trans rfl, (blk_cell Ab.out 1).trans rfl, (blk_cell Ab.out 2).trans rfl⟩ (fun hHeld => ?_)
  clear hK K
  refine norm_ (a' := ?_) ?_ ?_
  rotate_left
  ·show Act.put _ (some 11) _ = _
   simp only [Act.put, List.setIfInBounds_toArray, List.set_cons_zero, List.set_cons_succ, i64_w, i32_w]
   rfl
  refine one_ (i := 5) (N := some 12) (bw 7 63) rfl rfl (by kernel_rfl) (by decide) (fun K hK => ?_)
  refine goes_ Try.func61 (by kernel_rfl) rfl #[.agg #[.int .i64 a0_3, .int .i64 a0_4, .int .i64 a0_5], .agg #[.int .i64 a1_0, .int .i64 a1_1, .int .i64 a1_2], .int .i64 t415] (by rfl) rfl rfl pL ?_
  with_reducible refine (garnerref22_Step.calls k a0_3 a0_4 a0_5 a1_0 a1_1 a1_2 t415 t416 _ A4.out).mono ?_
  rintro e w23 ⟨rfl, hb⟩
  refine ⟨_, rfl, ?_⟩
  replace HO0_2 := bVa HO0_2 hb
  replace Aa := kBa Aa hb
  replace Ab := kBa Ab hb
  replace Ad := kBa Ad hb
  replace HB := zX3 HB Ag.out Ah.out An.out hb
  (try clear hb)
  (try clear hb2)
  (try clear hk)
  (try clear hi)
  refine hK.out _ _ ⟨(blk_cell Aa.out 0).trans rfl, (blk_cell Aa.out 1).trans rfl, (blk_cell Aa.out 2).trans rfl, (blk_cell Aa.out 3).trans rfl, (blk_cell Aa.out 4).trans rfl, (blk_cell Aa.out 5).trans rfl, (blk_cell Aa.out 6).trans rfl, (blk_cell Ab.out 0).trans rfl, (blk_cell Ab.out 1).trans rfl, (blk_cell Ab.out 2).trans rfl⟩ (fun hHeld => ?_)
  clear hK K
  refine norm_ (a' := ?_) ?_ ?_
  rotate_left
  ·show Act.put _ (some 12) _ = _
   simp only [Act.put, List.setIfInBounds_toArray, List.set_cons_zero, List.set_cons_succ, i64_w, i32_w]
   rfl
  refine zu 6 6 7 127 ?_
  refine done_ (by kernel_rfl) ?_
  have hnb24 := Ai.out
  have hnc24 := Aj.out
  have hnb25 := Al.out
  have hnc25 := Ak.out
  obtain ⟨_, _, _, _, _, _, _⟩ := bc7 Ad.out
  obtain ⟨_, _, _, _, _, _, _⟩ := bf7 Ad.out
  try go_wp2
  refine bodyPost_ret (results_ct rfl _ _ Af 26 #[.int .i64 0, .int .i64 0, .slice none 0 0, .int .i64 0, .int .i64 0, .int .i64 0, .int .i64 0] (0, 0) _ rfl (kX0 Ad.out) Try.underlying26 rfl (by kernel_rfl)) rfl ?_
  exact ⟨_, pX, Kd.S_V (Kd.S_nil _ _ _ 0 _), pE3 HB.out Ag.out Ah.out An.out⟩
 rw [if_pos c5] at H
 obtain ⟨c5b0, c5b1⟩ := zc c5
 clear c5
 simp only [Option.some.injEq, Prod.mk.injEq] at H
 obtain ⟨rfl, rfl, rfl, rfl, rfl, rfl, rfl, rfl⟩ := H
 go_enter Try.func40, Try.ntmps40
 try go_wp2_with (first | ((with_reducible refine zD 2 rfl ?_); refine zE 2 #[.int .i64 a0_0, .int .i64 a0_1, .slice A0_2 l0_2.length c0_2, .int .i64 a0_3, .int .i64 a0_4, .int .i64 a0_5, .int .i64 a0_6] 26 ?_; intro Ac hg w6 hbox hb; replace HO0_2 := Am (Kd.V_below (Kd.V_elderB (pV HO0_2.out) Ac (Nat.le_of_eq hg.symm)) hb); have Aa := Am (hbox); have Aq := zA hg HB; replace HB := zB HB hb; have Ag := Aq; clear hb hbox hg) | ((with_reducible refine zD 3 rfl ?_); refine zE 3 #[.int .i64 a1_0, .int .i64 a1_1, .int .i64 a1_2] 24 ?_; intro Ae hg w7 hbox hb; replace HO0_2 := Am (Kd.V_below (Kd.V_elderB (pV HO0_2.out) Ae (Nat.le_of_eq hg.symm)) hb); have Ab := Am (hbox); have Ar := zY1 hg HB Ag.out; replace HB := zX1 HB Ag.out hb; have Ah := Ar; have Ao := Am (zN hg (kL Aa.out)); have Ap := Am (zM hg (kL Aa.out)); replace Aa := kBa Aa hb; clear hb hbox hg) | ((with_reducible refine zD 4 rfl ?_); refine zE 4 #[.int .i64 0, .int .i64 0, .slice none 0 0, .int .i64 0, .int .i64 0, .int .i64 0, .int .i64 0] 26 ?_; intro Af hg w8 hbox hb; replace HO0_2 := Am (Kd.V_below (Kd.V_elderB (pV HO0_2.out) Af (Nat.le_of_eq hg.symm)) hb); have Ad := Am (hbox); have As := zY2 hg HB Ag.out Ah.out; replace HB := zX2 HB Ag.out Ah.out hb; have An := As; have Aj := Am (zN hg (kL Aa.out)); have Ai := Am (zM hg (kL Aa.out)); replace Aa := kBa Aa hb; have Ak := Am (zN hg (kL Ab.out)); have Al := Am (zM hg (kL Ab.out)); replace Ab := kBa Ab hb; clear hb hbox hg))
 replace HO0_2 := dVa HO0_2
 replace Aa := kDa Aa
 replace Ab := kDa Ab
 replace Ad := kDa Ad
 replace HB := bDa HB
 refine start_ (n := 7) (S := fun w' => cG w' Ac 0 (.int .i64 a0_0) ∧ cG w' Ac 1 (.int .i64 a0_1) ∧ cG w' Ac 2 (.slice A0_2 l0_2.length c0_2) ∧ cG w' Ac 3 (.int .i64 a0_3) ∧ cG w' Ac 4 (.int .i64 a0_4) ∧ cG w' Ac 5 (.int .i64 a0_5) ∧ cG w' Ac 6 (.int .i64 a0_6) ∧ cG w' Ae 0 (.int .i64 a1_0) ∧ cG w' Ae 1 (.int .i64 a1_1) ∧ cG w' Ae 2 (.int .i64 a1_2)) (ds := []) #[false, false, false, false, false, false, false] (by kernel_rfl) rfl rfl ⟨(blk_cell Aa.out 0).trans rfl, (blk_cell Aa.out 1).trans rfl, (blk_cell Aa.out 2).trans rfl, (blk_cell Aa.out 3).trans rfl, (blk_cell Aa.out 4).trans rfl, (blk_cell Aa.out 5).trans rfl, (blk_cell Aa.out 6).trans rfl, (blk_cell Ab.out 0).trans rfl, (blk_cell Ab.out 1).trans rfl, (blk_cell Ab.out 2).trans rfl⟩ (fun hHeld => ?_)
 generalize w8.drew = w9 at HO0_2 Aa Ab Ad HB hHeld ⊢
 refine zu 0 7 7 1 ?_
 refine zv 1 8 7 3 hHeld ?_
 refine zv 2 9 7 7 hHeld ?_
 refine zv 3 10 7 15 hHeld ?_
 refine one_ (i := 4) (N := some 11) (bw 7 31) rfl rfl (by kernel_rfl) (by decide) (fun K hK => ?_)
 refine goes_ Try.func59 (by kernel_rfl) rfl #[.agg #[.int .i64 a0_0, .int .i64 a0_1, .slice A0_2 l0_2.length c0_2, .int .i64 a0_3, .int .i64 a0_4, .int .i64 a0_5, .int .i64 a0_6]] (by rfl) rfl rfl pL ?_
 with_reducible refine (garnerref23_Last.calls a0_0 a0_1 _ _ l0_2 a0_3 a0_4 a0_5 a0_6 t415 _ ?At ?Au A3.out).mono ?_
 (case At => exact pC (Kd.V_reads' HO0_2.out).2.2)
 (case Au => exact (Kd.V_reads' HO0_2.out).2.1)
 rintro e w10 ⟨rfl, hb⟩
 refine ⟨_, rfl, ?_⟩
 replace HO0_2 := bVa HO0_2 hb
 replace Aa := kBa Aa hb
 replace Ab := kBa Ab hb
 replace Ad := kBa Ad hb
 replace HB := zX3 HB Ag.out Ah.out An.out hb
 (try clear hb)
 (try clear hb2)
 (try clear hk)
 (try clear hi)
 refine hK.out _ _ ⟨(blk_cell Aa.out 0).trans rfl, (blk_cell Aa.out 1).trans rfl, (blk_cell Aa.out 2).trans rfl, (blk_cell Aa.out 3).trans rfl, (blk_cell Aa.out 4).trans rfl, (blk_cell Aa.out 5).trans rfl, (blk_cell Aa.out 6).trans rfl, (blk_cell Ab.out 0).trans rfl, (blk_cell Ab.out 1).trans rfl, (blk_cell Ab.out 2).trans rfl⟩ (fun hHeld => ?_)
 clear hK K
 refine norm_ (a' := ?_) ?_ ?_
 rotate_left
 ·show Act.put _ (some 11) _ = _
  simp only [Act.put, List.setIfInBounds_toArray, List.set_cons_zero, List.set_cons_succ, i64_w, i32_w]
  rfl
 refine one_ (i := 5) (N := some 12) (bw 7 63) rfl rfl (by kernel_rfl) (by decide) (fun K hK => ?_)
 refine goes_ Try.func61 (by kernel_rfl) rfl #[.agg #[.int .i64 a0_3, .int .i64 a0_4, .int .i64 a0_5], .agg #[.int .i64 a1_0, .int .i64 a1_1, .int .i64 a1_2], .int .i64 t415] (by rfl) rfl rfl pL ?_
 with_reducible refine (garnerref22_Step.calls k a0_3 a0_4 a0_5 a1_0 a1_1 a1_2 t415 t416 _ A4.out).mono ?_
 rintro e w11 ⟨rfl, hb⟩
 refine ⟨_, rfl, ?_⟩
 replace HO0_2 := bVa HO0_2 hb
 replace Aa := kBa Aa hb
 replace Ab := kBa Ab hb
 replace Ad := kBa Ad hb
 replace HB := zX3 HB Ag.out Ah.out An.out hb
 (try clear hb)
 (try clear hb2)
 (try clear hk)
 (try clear hi)
 refine hK.out _ _ ⟨(blk_cell Aa.out 0).trans rfl, (blk_cell Aa.out 1).trans rfl, (blk_cell Aa.out 2).trans rfl, (blk_cell Aa.out 3).trans rfl, (blk_cell Aa.out 4).trans rfl, (blk_cell Aa.out 5).trans rfl, (blk_cell Aa.out 6).trans rfl, (blk_cell Ab.out 0).trans rfl, (blk_cell Ab.out 1).trans rfl, (blk_cell Ab.out 2).trans rfl⟩ (fun hHeld => ?_)
 clear hK K
 refine norm_ (a' := ?_) ?_ ?_
 rotate_left
 ·show Act.put _ (some 12) _ = _
  simp only [Act.put, List.setIfInBounds_toArray, List.set_cons_zero, List.set_cons_succ, i64_w, i32_w]
  rfl
 refine zu 6 6 7 127 ?_
 refine done_ (by kernel_rfl) ?_
 have hnb12 := Ap.out
 have hnc12 := Ao.out
 have hnb13 := Ak.out
 have hnc13 := Al.out
 obtain ⟨_, _, _⟩ := bc3 Ab.out
 obtain ⟨_, _, _⟩ := bf3 Ab.out
 have hnb15 := Aj.out
 have hnc15 := Ai.out
 obtain ⟨_, _, _, _, _, _, _⟩ := bc7 Aa.out
 obtain ⟨_, _, _, _, _, _, _⟩ := bf7 Aa.out
 obtain ⟨_, _, _, _, _, _, _⟩ := bc7 Ad.out
 obtain ⟨_, _, _, _, _, _, _⟩ := bf7 Ad.out
 try go_wp2
 refine bodyPost_ret (results_ct rfl _ _ Af 26 #[.int .i64 a0_0, .int .i64 a0_1, .slice A0_2 l0_2.length c0_2, .int .i64 a1_0, .int .i64 a1_1, .int .i64 a1_2, .int .i64 a0_6] (0, 0) _ rfl (kX1 Ad.out Ai.out) Try.underlying26 rfl (by kernel_rfl)) rfl ?_
 exact ⟨_, pX, by (with_reducible repeat (first | apply Kd.V_alloc | apply Kd.V_drewN | apply Kd.V_drew)); have h0_ := Kd.V_mono (Kd.V_mono HO0_2.out (fun k_ hk => (⟨hk, hk.1.1.2⟩ : _ ∧ k_ ≠ Ac))) (fun k_ hk => (⟨hk, hk.1.2⟩ : _ ∧ k_ ≠ Af)); have h1_ := Kd.V_far (p := ⟨Ac, 3, none⟩) h0_ (fun _ hk => hk.1.2) (.int .i64 a1_0); have h2_ := Kd.V_far (p := ⟨Ac, 4, none⟩) h1_ (fun _ hk => hk.1.2) (.int .i64 a1_1); have h3_ := Kd.V_far (p := ⟨Ac, 5, none⟩) h2_ (fun _ hk => hk.1.2) (.int .i64 a1_2); exact Kd.V_mono (Vf7 (g := Af) (h3_) (fun _ hk => hk.2)) (fun _ hk => hk.1.1.1.1.1), pE3 HB.out Ag.out Ah.out An.out⟩
def garnerref23_Apply.l0 : Nat → Int → List (S54) → Int → Int → Int → List (S54) → Int → Int → Int → Int → Option (Int × Int × (List (S54)) × Int × Int × Int × Int × (List (S54)) × Int)
 | 0, _, _, _, _, _, _, _, _, _, _ => none
 | k + 1, x1, x7, x8, x418000, x418001, x418002, x418003, x418004, x418005, x418006 => if x8 ≤ x1 then (if 0 ≤ (wrap64 ((wrap64 (x8 - x418000)) - 1)) then (if (wrap64 ((wrap64 (x8 - x418000)) - 1)) < (x418002.length : Int) then (if x7.length < 1353245080339 then (garnerref23_Apply.l0 k x1 (x7 ++ [(⟨(rd_T54 x418002 (wrap64 ((wrap64 (x8 - x418000)) - 1))).f0, (rd_T54 x418002 (wrap64 ((wrap64 (x8 - x418000)) - 1))).f1, (rd_T54 x418002 (wrap64 ((wrap64 (x8 - x418000)) - 1))).f2, (rd_T54 x418002 (wrap64 ((wrap64 (x8 - x418000)) - 1))).f3, (⟨(rd_T54 x418002 (wrap64 ((wrap64 (x8 - x418000)) - 1))).f4.f0, (rd_T54 x418002 (wrap64 ((wrap64 (x8 - x418000)) - 1))).f4.f1, (⟨(rd_T54 x418002 (wrap64 ((wrap64 (x8 - x418000)) - 1))).f4.f2.f0, (rd_T54 x418002 (wrap64 ((wrap64 (x8 - x418000)) - 1))).f4.f2.f1, (rd_T54 x418002 (wrap64 ((wrap64 (x8 - x418000)) - 1))).f4.f2.f2, (rd_T54 x418002 (wrap64 ((wrap64 (x8 - x418000)) - 1))).f4.f2.f3⟩ : S50)⟩ : S52)⟩ : S54)]) (wrap64 (x8 + 1)) x418000 x418001 x418002 x418003 x418004 x418005 x418006) else (none)) else (none)) else (none)) else (some (x418000, x418001, x418002, x418003, x418004, x418005, x1, x7, 0))
def garnerref23_Apply.f (k : Nat) (a0_0 : Int) (a0_1 : Int) (l0_2 : List (S54)) (a0_3 : Int) (a0_4 : Int) (a0_5 : Int) (a0_6 : Int) (a1 : Int) : Option (Int × Int × (List (S54)) × Int × Int × Int × Int × (List (S54)) × Int) := if a1 < a0_6 then (some (0, 0, ([] : List (S54)), 0, 0, 0, 0, ([] : List (S54)), 4)) else (if a1 > a0_5 then (some (0, 0, ([] : List (S54)), 0, 0, 0, 0, ([] : List (S54)), 3)) else (garnerref23_Apply.l0 k a1 (([] : List (S54))) (wrap64 (a0_6 + 1)) a0_0 a0_1 l0_2 a0_3 a0_4 a0_5 a0_6))
theorem garnerref23_Apply.mono_l : ∀ k, (∀ y0 y1 y2 y3 y4 y5 y6 y7 y8 y9, LeO (garnerref23_Apply.l0 k y0 y1 y2 y3 y4 y5 y6 y7 y8 y9) (garnerref23_Apply.l0 (k + 1) y0 y1 y2 y3 y4 y5 y6 y7 y8 y9))
 | 0 => fun _ _ _ _ _ _ _ _ _ _ r h => by simp [garnerref23_Apply.l0] at h
 | k + 1 => by
  have ih0 := garnerref23_Apply.mono_l k
  ·intro y0 y1 y2 y3 y4 y5 y6 y7 y8 y9
   unfold garnerref23_Apply.l0
   repeat' (with_reducible first | exact ih0 .. | exact LeO.refl .. | exact LeO.none .. | refine LeO.ite ?_ ?_ | refine LeO.bind ?_ (fun _ => ?_))
theorem garnerref23_Apply.mono : ∀ a0 a1 a2 a3 a4 a5 a6 a7 k, LeO (garnerref23_Apply.f k a0 a1 a2 a3 a4 a5 a6 a7) (garnerref23_Apply.f (k + 1) a0 a1 a2 a3 a4 a5 a6 a7) := by
 intro a0 a1 a2 a3 a4 a5 a6 a7 k
 have ih0 := garnerref23_Apply.mono_l k
 unfold garnerref23_Apply.f
 repeat' (with_reducible first | exact ih0 .. | exact LeO.refl .. | exact LeO.none .. | refine LeO.ite ?_ ?_ | refine LeO.bind ?_ (fun _ => ?_))
set_option maxRecDepth 100000 in
theorem garnerref23_Apply.calls (k : Nat) (a0_0 : Int) (a0_1 : Int) (P0_2_ : Nat → Prop) (A0_2 : Option Addr) (c0_2 : Nat) (l0_2 : List (S54)) (a0_3 : Int) (a0_4 : Int) (a0_5 : Int) (a0_6 : Int) (a1 : Int) (r1 : Int) (r2 : Int) (r3 : List (S54)) (r4 : Int) (r5 : Int) (r6 : Int) (r7 : Int) (r8 : List (S54)) (r9 : Int) (w : World) (hs0_2 : Kd.V k54 54 w w.heap.size (fun k_ => P0_2_ k_) (.slice A0_2 l0_2.length c0_2) l0_2) (h : garnerref23_Apply.f k a0_0 a0_1 l0_2 a0_3 a0_4 a0_5 a0_6 a1 = some (r1, r2, r3, r4, r5, r6, r7, r8, r9)) :
 Calls Try.prog 41 #[.agg #[.int .i64 a0_0, .int .i64 a0_1, .slice A0_2 l0_2.length c0_2, .int .i64 a0_3, .int .i64 a0_4, .int .i64 a0_5, .int .i64 a0_6], .int .i64 a1] w fun e w' => ∃ v2_ v7_ : Value, e = .returned (.tuple #[.agg #[.int .i64 r1, .int .i64 r2, v2_, .int .i64 r4, .int .i64 r5, .int .i64 r6, .int .i64 r7], v7_, .int .i64 r9]) ∧ Kd.V k54 54 w' w.heap.size (fun k_ => (P0_2_ k_ ∨ w.heap.size ≤ k_) ∧ some k_ ≠ (v7_ : Value).ownBlock) v2_ r3 ∧ Kd.N k54 54 w' w.heap.size (fun k_ => (P0_2_ k_ ∨ w.heap.size ≤ k_)) v7_ r8 ∧ Below w.heap.size w w' := by
 have hu26 := Try.underlying26
 have hu54 := Try.underlying54
 have HO0_2 := Am (show Kd.V k54 54 w w.heap.size (fun k_ => (P0_2_ k_ ∨ w.heap.size ≤ k_)) (.slice A0_2 l0_2.length c0_2) l0_2 from Kd.V_mono hs0_2 (fun k_ hk => .inl hk))
 have HB := Am (Below.refl w.heap.size w)
 unfold garnerref23_Apply.f at h
 have H := h
 clear h
 by_cases c3 : a1 < a0_6
 ·rw [if_pos c3] at H
  have c3b0 := decide_eq_true c3
  clear c3
  simp only [Option.some.injEq, Prod.mk.injEq] at H
  obtain ⟨rfl, rfl, rfl, rfl, rfl, rfl, rfl, rfl, rfl⟩ := H
  go_enter Try.func41, Try.ntmps41
  go_wp2_with (first | ((with_reducible refine zD 2 rfl ?_); refine zE 2 #[.int .i64 a0_0, .int .i64 a0_1, .slice A0_2 l0_2.length c0_2, .int .i64 a0_3, .int .i64 a0_4, .int .i64 a0_5, .int .i64 a0_6] 26 ?_; intro Ac hg w4 hbox hb; replace HO0_2 := Am (Kd.V_below (Kd.V_elderB (pV HO0_2.out) Ac (Nat.le_of_eq hg.symm)) hb); have Aa := Am (hbox); have Al := zA hg HB; replace HB := zB HB hb; have Af := Al; clear hb hbox hg) | ((with_reducible refine zD 4 rfl ?_); refine zE 4 #[.int .i64 0, .int .i64 0, .slice none 0 0, .int .i64 0, .int .i64 0, .int .i64 0, .int .i64 0] 26 ?_; intro Ab hg w5 hbox hb; replace HO0_2 := Am (Kd.V_below (Kd.V_elderB (pV HO0_2.out) Ab (Nat.le_of_eq hg.symm)) hb); have Ad := Am (hbox); have An := zY1 hg HB Af.out; replace HB := zX1 HB Af.out hb; have Ai := An; have Ag := Am (zN hg (kL Aa.out)); have Ae := Am (zM hg (kL Aa.out)); replace Aa := kBa Aa hb; clear hb hbox hg; have hnb6 := Ag.out; have hnc6 := Ae.out; obtain ⟨Cc, Cd, Ce, Cf, Cg, Ch, Ci⟩ := bc7 Aa.out; obtain ⟨Cj, Ck, Cl, Cm, Cn, Co, Cp⟩ := bf7 Aa.out; obtain ⟨Cq, Cr, Cs, Ct, Cu, Cv, Cw⟩ := bc7 Ad.out; obtain ⟨Cx, Cy, Cz, C0, C1, C2, C3⟩ := bf7 Ad.out))
  refine bodyPost_ret (results_ctt rfl _ _ Ab 26 #[.int .i64 0, .int .i64 0, .slice none 0 0, .int .i64 0, .int .i64 0, .int .i64 0, .int .i64 0] (0, 0) _ rfl (kX0 Ad.out) Try.underlying26 rfl (by kernel_rfl)) rfl ?_
  exact ⟨_, _, pX, Kd.N_V (Kd.N_nil _ _ _ 0 _), zn, pE2 HB.out Af.out Ai.out⟩
 rw [if_neg c3] at H
 have c3b0 := decide_eq_false c3
 clear c3
 by_cases c9 : a1 > a0_5
 ·rw [if_pos c9] at H
  have c9b0 : decide (a0_5 < a1) = true := decide_eq_true c9
  clear c9
  simp only [Option.some.injEq, Prod.mk.injEq] at H
  obtain ⟨rfl, rfl, rfl, rfl, rfl, rfl, rfl, rfl, rfl⟩ := H
  go_enter Try.func41, Try.ntmps41
  go_wp2_with (first | ((with_reducible refine zD 2 rfl ?_); refine zE 2 #[.int .i64 a0_0, .int .i64 a0_1, .slice A0_2 l0_2.length c0_2, .int .i64 a0_3, .int .i64 a0_4, .int .i64 a0_5, .int .i64 a0_6] 26 ?_; intro Ac hg w10 hbox hb; replace HO0_2 := Am (Kd.V_below (Kd.V_elderB (pV HO0_2.out) Ac (Nat.le_of_eq hg.symm)) hb); have Aa := Am (hbox); have Al := zA hg HB; replace HB := zB HB hb; have Af := Al; clear hb hbox hg) | ((with_reducible refine zD 4 rfl ?_); refine zE 4 #[.int .i64 0, .int .i64 0, .slice none 0 0, .int .i64 0, .int .i64 0, .int .i64 0, .int .i64 0] 26 ?_; intro Ab hg w11 hbox hb; replace HO0_2 := Am (Kd.V_below (Kd.V_elderB (pV HO0_2.out) Ab (Nat.le_of_eq hg.symm)) hb); have Ad := Am (hbox); have An := zY1 hg HB Af.out; replace HB := zX1 HB Af.out hb; have Ai := An; have Ag := Am (zN hg (kL Aa.out)); have Ae := Am (zM hg (kL Aa.out)); replace Aa := kBa Aa hb; clear hb hbox hg; have hnb12 := Ag.out; have hnc12 := Ae.out; obtain ⟨Ar, As, At, Au, Av, Aw, Ax⟩ := bc7 Aa.out; obtain ⟨Ay, Az, A0, A1, A2, A3, A4⟩ := bf7 Aa.out; obtain ⟨A5, A6, A7, A8, A9, Ba, Bb⟩ := bc7 Ad.out; obtain ⟨Bc, Bd, Be, Bf, Bg, Bh, Bi⟩ := bf7 Ad.out))
  refine bodyPost_ret (results_ctt rfl _ _ Ab 26 #[.int .i64 0, .int .i64 0, .slice none 0 0, .int .i64 0, .int .i64 0, .int .i64 0, .int .i64 0] (0, 0) _ rfl (kX0 Ad.out) Try.underlying26 rfl (by kernel_rfl)) rfl ?_
  exact ⟨_, _, pX, Kd.N_V (Kd.N_nil _ _ _ 0 _), zn, pE2 HB.out Af.out Ai.out⟩
 rw [if_neg c9] at H
 have c9b0 : decide (a0_5 < a1) = false := decide_eq_false c9
 clear c9
 obtain ⟨y419, hy419⟩ : ∃ y_ : List (S54), y_ = (([] : List (S54))) := ⟨_, rfl⟩
 replace H : (garnerref23_Apply.l0 k a1 y419 (wrap64 (a0_6 + 1)) a0_0 a0_1 l0_2 a0_3 a0_4 a0_5 a0_6) = some (r1, r2, r3, r4, r5, r6, r7, r8, r9) := zy hy419 H
 have Ny419 := Am hy419
 clear hy419
 have H' := Am H
 clear H
 go_enter Try.func41, Try.ntmps41
 go_wp2_with (first | ((with_reducible refine zD 2 rfl ?_); refine zE 2 #[.int .i64 a0_0, .int .i64 a0_1, .slice A0_2 l0_2.length c0_2, .int .i64 a0_3, .int .i64 a0_4, .int .i64 a0_5, .int .i64 a0_6] 26 ?_; intro Ac hg w15 hbox hb; replace HO0_2 := Am (Kd.V_below (Kd.V_elderB (pV HO0_2.out) Ac (Nat.le_of_eq hg.symm)) hb); have Aa := Am (hbox); have Al := zA hg HB; replace HB := zB HB hb; have Af := Al; clear hb hbox hg) | ((with_reducible refine zD 4 rfl ?_); refine zE 4 #[.int .i64 0, .int .i64 0, .slice none 0 0, .int .i64 0, .int .i64 0, .int .i64 0, .int .i64 0] 26 ?_; intro Ab hg w16 hbox hb; replace HO0_2 := Am (Kd.V_below (Kd.V_elderB (pV HO0_2.out) Ab (Nat.le_of_eq hg.symm)) hb); have Ad := Am (hbox); have An := zY1 hg HB Af.out; replace HB := zX1 HB Af.out hb; have Ai := An; have Ag := Am (zN hg (kL Aa.out)); have Ae := Am (zM hg (kL Aa.out)); replace Aa := kBa Aa hb; clear hb hbox hg; have hnb17 := Ag.out; have hnc17 := Ae.out; obtain ⟨Bj, Bk, Bl, Bm, Bn, Bo, Bp⟩ := bc7 Aa.out; obtain ⟨Bq, Br, Bs, Bt, Bu, Bv, Bw⟩ := bf7 Aa.out) | ((with_reducible refine zD 20 rfl ?_); refine Kd.N_lit k54 _ 54 ?hg (N' := 20) ?hd (xs := ([] : List (S54))) (inner := []) (ok := (fun k_ => (P0_2_ k_ ∨ w.heap.size ≤ k_) ∧ k_ ≠ Ac ∧ k_ ≠ Ab)) (okp := (fun k_ => (P0_2_ k_ ∨ w.heap.size ≤ k_) ∧ k_ ≠ Ac ∧ k_ ≠ Ab)) ?hr ?hp (fun _ hk => hk) ((show ∀ k_, w16.heap.size ≤ k_ → (fun k_ => (P0_2_ k_ ∨ w.heap.size ≤ k_) ∧ k_ ≠ Ac ∧ k_ ≠ Ab) k_ from fun k_ hk => ⟨(.inr (Nat.le_trans (below_size (pE2 HB.out Af.out Ai.out)) hk)), kF Aa.out k_ hk, kF Ad.out k_ hk⟩) _ (Nat.le_refl _)) (Below.refl _ _) (Nat.le_refl _) (by simp) ?_; (case hd => rfl); (case hg => rfl); (case hr => first | (go_simp; done) | (go_simp; rfl)); (case hp => exact (Reps.none _ _)); intro v420 w19 ho20 hb hg_ hnew_; clear hg_ hnew_; (first | rw [← Ny419.out] at ho20 | (simp only [Int.reduceToNat] at ho20; rw [← Ny419.out] at ho20)); replace HO0_2 := Am (Kd.V_elder' (pV HO0_2.out) (Kd.N_base ho20) hb); have C5 := Am (Kd.N_lower ho20 (below_size (pE2 HB.out Af.out Ai.out))); replace Aa := kBa Aa hb; replace Ad := kBa Ad hb; replace HB := zX2 HB Af.out Ai.out hb; clear hb ho20; obtain ⟨Bx, By, Bz, B0, B1, B2, B3⟩ := bc7 Aa.out; obtain ⟨B4, B5, B6, B7, B8, B9, Ca⟩ := bf7 Aa.out))
 go_loopg [7, 8] k (fun kq v7 v8 w' => ∃ (Ak : List (S54)) (Aj : Int), v8 = .int .i64 Aj ∧ Aside0 (garnerref23_Apply.l0 kq a1 Ak Aj a0_0 a0_1 l0_2 a0_3 a0_4 a0_5 a0_6 = some (r1, r2, r3, r4, r5, r6, r7, r8, r9)) ∧ Aside0 (kq ≤ k) ∧ Aside0 (Kd.N k54 54 w' w.heap.size (fun k_ => (P0_2_ k_ ∨ w.heap.size ≤ k_) ∧ k_ ≠ Ac ∧ k_ ≠ Ab) v7 Ak) ∧ Aside0 (Kd.V k54 54 w' w.heap.size (fun k_ => (P0_2_ k_ ∨ w.heap.size ≤ k_) ∧ some k_ ≠ (v7 : Value).ownBlock ∧ k_ ≠ Ac ∧ k_ ≠ Ab) (.slice A0_2 l0_2.length c0_2) l0_2) ∧ Aside0 (w'.heap[Ac]? = some (.cells #[.int .i64 a0_0, .int .i64 a0_1, (.slice A0_2 l0_2.length c0_2), .int .i64 a0_3, .int .i64 a0_4, .int .i64 a0_5, .int .i64 a0_6] 26 (0, 0))) ∧ Aside0 (w'.heap[Ab]? = some (.cells #[.int .i64 0, .int .i64 0, (.slice none 0 0), .int .i64 0, .int .i64 0, .int .i64 0, .int .i64 0] 26 (0, 0))) ∧ Aside0 (Below w.heap.size w w'))
 case atStart => exact ⟨(y419), (wrap64 (a0_6 + 1)), zr, H', ⟨Nat.le_refl _⟩, ⟨by (with_reducible repeat (first | apply Kd.N_alloc | apply Kd.N_drewN | apply Kd.N_drew)); exact C5.out⟩, ⟨by (with_reducible repeat (first | apply Kd.V_alloc | apply Kd.V_drewN | apply Kd.V_drew)); exact Kd.V_mono HO0_2.out (fun _ hk => ⟨hk.1.1.1, ⟨hk.2, ⟨hk.1.1.2, hk.1.2⟩⟩⟩)⟩, ⟨pK Aa.out⟩, ⟨pK Ad.out⟩, ⟨pE2 HB.out Af.out Ai.out⟩⟩
 case round =>
  clear H'
  try clear c1
  try clear p2
  try clear c3
  try clear c3b0
  try clear c4
  try clear c6
  try clear p6
  try clear c9
  try clear c9b0
  try clear c12
  try clear c17
  try clear Ar As At Au Av Aw Ax
  try clear A5 A6 A7 A8 A9 Ba Bb
  try clear Bj Bk Bl Bm Bn Bo Bp
  try clear Bx By Bz B0 B1 B2 B3
  try clear Cc Cd Ce Cf Cg Ch Ci
  try clear Cq Cr Cs Ct Cu Cv Cw
  try clear Ay Az A0 A1 A2 A3 A4
  try clear Bc Bd Be Bf Bg Bh Bi
  try clear Bq Br Bs Bt Bu Bv Bw
  try clear B4 B5 B6 B7 B8 B9 Ca
  try clear Cj Ck Cl Cm Cn Co Cp
  try clear Cx Cy Cz C0 C1 C2 C3
  obtain ⟨Ak, Aj, rfl, HA, HK1, Aq, Ah, Aa, Ad, HB⟩ := hrel
  cases gk with
  | zero => exact absurd HA.out (by simp [garnerref23_Apply.l0])
  | succ k1 =>
   have H := HA.out
   clear HA
   simp only [garnerref23_Apply.l0] at H
   by_cases c22 : Aj ≤ a1
   rotate_left
   ·rw [if_neg c22] at H
    have c22b0 := decide_eq_false c22
    clear c22
    simp only [Option.some.injEq, Prod.mk.injEq] at H
    obtain ⟨rfl, rfl, rfl, rfl, rfl, rfl, rfl, rfl, rfl⟩ := H
    have hnb30 := Ag.out
    have hnc30 := Ae.out
    obtain ⟨_, _, _, _, _, _, _⟩ := bc7 Aa.out
    obtain ⟨_, _, _, _, _, _, _⟩ := bf7 Aa.out
    obtain ⟨_, _, _, _, _, _, _⟩ := bc7 Ad.out
    obtain ⟨_, _, _, _, _, _, _⟩ := bf7 Ad.out
    go_wp2
    refine bodyPost_ret (results_ctt rfl _ _ Ab 26 #[.int .i64 a0_0, .int .i64 a0_1, .slice A0_2 l0_2.length c0_2, .int .i64 a0_3, .int .i64 a0_4, .int .i64 a0_5, .int .i64 a1] (0, 0) _ rfl (kX1 Ad.out Ae.out) Try.underlying26 rfl (by kernel_rfl)) rfl ?_
    exact ⟨_, _, pX, by (with_reducible repeat (first | apply Kd.V_alloc | apply Kd.V_drewN | apply Kd.V_drew)); exact Kd.V_mono (Vf7 (g := Ab) (Kd.V_far (p := ⟨Ac, 6, none⟩) (Kd.V_mono (Kd.V_mono Ah.out (fun k_ hk => (⟨hk, hk.2.2.1⟩ : _ ∧ k_ ≠ Ac))) (fun k_ hk => (⟨hk, hk.1.2.2.2⟩ : _ ∧ k_ ≠ Ab))) (fun _ hk => hk.1.2) (.int .i64 a1)) (fun _ hk => hk.2)) (fun _ hk => ⟨hk.1.1.1, hk.1.1.2.1⟩), by (with_reducible repeat (first | apply Kd.N_alloc | apply Kd.N_drewN | apply Kd.N_drew)); exact Kd.N_mono (Nf7 (g := Ab) (Kd.N_far (p := ⟨Ac, 6, none⟩) (Kd.N_mono (Kd.N_mono Aq.out (fun k_ hk => (⟨hk, hk.2.1⟩ : _ ∧ k_ ≠ Ac))) (fun k_ hk => (⟨hk, hk.1.2.2⟩ : _ ∧ k_ ≠ Ab))) (fun _ hk => hk.1.2) (.int .i64 a1)) (fun _ hk => hk.2)) (fun _ hk => hk.1.1.1), pE2 HB.out Af.out Ai.out⟩
   rw [if_pos c22] at H
   have c22b0 := decide_eq_true c22
   clear c22
   obtain ⟨ji23, hji23⟩ : ∃ j_ : Int, (wrap64 ((wrap64 (Aj - a0_0)) - 1)) = j_ := ⟨_, rfl⟩
   replace H : (if 0 ≤ (ji23) then (if (ji23) < (l0_2.length : Int) then (if Ak.length < 1353245080339 then (garnerref23_Apply.l0 k1 a1 (Ak ++ [(⟨(rd_T54 l0_2 (ji23)).f0, (rd_T54 l0_2 (ji23)).f1, (rd_T54 l0_2 (ji23)).f2, (rd_T54 l0_2 (ji23)).f3, (⟨(rd_T54 l0_2 (ji23)).f4.f0, (rd_T54 l0_2 (ji23)).f4.f1, (⟨(rd_T54 l0_2 (ji23)).f4.f2.f0, (rd_T54 l0_2 (ji23)).f4.f2.f1, (rd_T54 l0_2 (ji23)).f4.f2.f2, (rd_T54 l0_2 (ji23)).f4.f2.f3⟩ : S50)⟩ : S52)⟩ : S54)]) (wrap64 (Aj + 1)) a0_0 a0_1 l0_2 a0_3 a0_4 a0_5 a0_6) else (none)) else (none)) else (none)) = some (r1, r2, r3, r4, r5, r6, r7, r8, r9) := by first | (rw [hji23] at H; exact H) | (simp only [hji23] at H ⊢; exact H)
   have hji23w : (IntKind.i64.wrap ((wrap64 (Aj - a0_0)) - 1)) = ji23 := (i64_w _).trans hji23
   obtain ⟨c24, H⟩ := zI H
   have c24b0 := decide_eq_true c24
   clear c24
   obtain ⟨c25, H⟩ := zI H
   have c25b0 := decide_eq_true c25
   clear c25
   obtain ⟨c26, H⟩ := zI H
   have LMc26 := Am c26
   clear c26
   obtain ⟨y423, hy423⟩ : ∃ y_ : List (S54), y_ = (Ak ++ [(⟨(rd_T54 l0_2 (ji23)).f0, (rd_T54 l0_2 (ji23)).f1, (rd_T54 l0_2 (ji23)).f2, (rd_T54 l0_2 (ji23)).f3, (⟨(rd_T54 l0_2 (ji23)).f4.f0, (rd_T54 l0_2 (ji23)).f4.f1, (⟨(rd_T54 l0_2 (ji23)).f4.f2.f0, (rd_T54 l0_2 (ji23)).f4.f2.f1, (rd_T54 l0_2 (ji23)).f4.f2.f2, (rd_T54 l0_2 (ji23)).f4.f2.f3⟩ : S50)⟩ : S52)⟩ : S54)]) := ⟨_, rfl⟩
   replace H : (garnerref23_Apply.l0 k1 a1 y423 (wrap64 (Aj + 1)) a0_0 a0_1 l0_2 a0_3 a0_4 a0_5 a0_6) = some (r1, r2, r3, r4, r5, r6, r7, r8, r9) := zy hy423 H
   have Ny423 := Am hy423
   clear hy423
   have H' := Am H
   clear H
   have hnb27 := Ag.out
   have hnc27 := Ae.out
   obtain ⟨_, _, _, _, _, _, _⟩ := bc7 Aa.out
   obtain ⟨_, _, _, _, _, _, _⟩ := bf7 Aa.out
   have p422 : 0 ≤ ((ji23) : Int) := of_decide_eq_true pS
   have q422 : (ji23) < (l0_2.length : Int) := of_decide_eq_true pS
   obtain ⟨C6, C4, c422_5, e422, hx422_0, hx422_1, hx422_2, hx422_3, hx422_4, Cb, hx422_6, hx422_7, hx422_8, hx422_9, Ao, Ap⟩ := at_T54 (Kd.V_reads' Ah.out).2.2 (ji23) p422 q422
   cases e422
   obtain ⟨ce422, hce422, hMe422, hcc422⟩ := Kd.V_get Ah.out z54 (ji23) p422 (by first | exact q422 | exact of_decide_eq_true pS | (have e_ := (Kd.V_reads' Ah.out).1; omega))
   obtain ⟨ua422_5, uc422_5, rfl, ul422_5, ge422_5⟩ := k54_openF hMe422
   have hv422_5 := hcc422 5 _ rfl
   rw [add_field _ _ 5 (by omega)] at hv422_5
   replace hv422_5 := Option.some.inj (hv422_5.symm.trans Cb)
   injection hv422_5 with hva_ hvn_ hvc_
   rw [hva_] at ge422_5
   rw [hvc_] at ul422_5
   have HL422_5 := Am (show Kd.V (Kd.int .u8) 5 _ w.heap.size _ _ ((rd_T54 l0_2 (ji23)).f4.f1) from Kd.V_mk ul422_5 ge422_5)
   clear hva_ hvn_ hvc_ ge422_5 ul422_5
   clear hcc422 hce422
   have HR422_5 := Am Ap
   have HC422_5 := Am Ao
   clear Ap Ao
   replace p422 := eq_true p422
   replace q422 := eq_true q422
   go_wp2_with (first | ((with_reducible refine gate_builtin (b := .append) (xs := #[.tmp 29, .tmp 39]) rfl ?_); at_builtin; refine Kd.N_append k54 (w0 := w) w.heap.size rfl (.tmp 29) (.tmp 39) 22 54 (.agg #[(.int .i64 0), (.int .i64 0), (.int .i64 0), (.string ⟨#[]⟩), (.bool false), (.slice none 0 0), (.int .i64 0), (.int .i64 0), (.int .i64 0), (.int .u32 0)]) 104 rfl Try.underlying22 info54 rfl (by decide) (by omega) u7 Ak (⟨(rd_T54 l0_2 (ji23)).f0, (rd_T54 l0_2 (ji23)).f1, (rd_T54 l0_2 (ji23)).f2, (rd_T54 l0_2 (ji23)).f3, (⟨(rd_T54 l0_2 (ji23)).f4.f0, (rd_T54 l0_2 (ji23)).f4.f1, (⟨(rd_T54 l0_2 (ji23)).f4.f2.f0, (rd_T54 l0_2 (ji23)).f4.f2.f1, (rd_T54 l0_2 (ji23)).f4.f2.f2, (rd_T54 l0_2 (ji23)).f4.f2.f3⟩ : S50)⟩ : S52)⟩ : S54) [.int .i64 ((rd_T54 l0_2 (ji23)).f0), .int .i64 ((rd_T54 l0_2 (ji23)).f1), .int .i64 ((rd_T54 l0_2 (ji23)).f2), .string ((rd_T54 l0_2 (ji23)).f3), .bool ((rd_T54 l0_2 (ji23)).f4.f0), .slice C4 ((rd_T54 l0_2 (ji23)).f4.f1).length c422_5, .int .i64 ((rd_T54 l0_2 (ji23)).f4.f2.f0), .int .i64 ((rd_T54 l0_2 (ji23)).f4.f2.f1), .int .i64 ((rd_T54 l0_2 (ji23)).f4.f2.f2), .int .u32 ((rd_T54 l0_2 (ji23)).f4.f2.f3)] (fun k_ => (P0_2_ k_ ∨ w.heap.size ≤ k_) ∧ k_ ≠ Ac ∧ k_ ≠ Ab) (fun k_ => ((fun k_ => (P0_2_ k_ ∨ w.heap.size ≤ k_) ∧ k_ ≠ Ac ∧ k_ ≠ Ab)) k_ ∧ some k_ ≠ (u7 : Value).ownBlock) rfl rfl ?aP (fun _ hk => hk) ?aF ?aO ?aB ?aS ?aL ?_; (case aP => exact (k54_mkF _ _ (⟨(rd_T54 l0_2 (ji23)).f0, (rd_T54 l0_2 (ji23)).f1, (rd_T54 l0_2 (ji23)).f2, (rd_T54 l0_2 (ji23)).f3, (⟨(rd_T54 l0_2 (ji23)).f4.f0, (rd_T54 l0_2 (ji23)).f4.f1, (⟨(rd_T54 l0_2 (ji23)).f4.f2.f0, (rd_T54 l0_2 (ji23)).f4.f2.f1, (rd_T54 l0_2 (ji23)).f4.f2.f2, (rd_T54 l0_2 (ji23)).f4.f2.f3⟩ : S50)⟩ : S52)⟩ : S54) (Kd.V_reads' (Kd.V_mono (ok' := (fun k_ => ((fun k_ => (P0_2_ k_ ∨ w.heap.size ≤ k_) ∧ k_ ≠ Ac ∧ k_ ≠ Ab)) k_ ∧ some k_ ≠ (u7 : Value).ownBlock)) (HL422_5.out) (fun k_ hk => ⟨⟨hk.1, ⟨hk.2.2.1, hk.2.2.2⟩⟩, hk.2.1⟩))).2.1 (Kd.V_F (Kd.V_mono (ok' := (fun k_ => ((fun k_ => (P0_2_ k_ ∨ w.heap.size ≤ k_) ∧ k_ ≠ Ac ∧ k_ ≠ Ab)) k_ ∧ some k_ ≠ (u7 : Value).ownBlock)) (HL422_5.out) (fun k_ hk => ⟨⟨hk.1, ⟨hk.2.2.1, hk.2.2.2⟩⟩, hk.2.1⟩))))); (case aB => exact (pE2 HB.out Af.out Ai.out)); (case aF => exact (fun k_ hk => ⟨(.inr (Nat.le_trans (below_size (pE2 HB.out Af.out Ai.out)) hk)), kF Aa.out k_ hk, kF Ad.out k_ hk⟩)); (case aO => exact (pN Aq.out)); (case aS => exact (below_size (pE2 HB.out Af.out Ai.out))); (case aL => have := LMc26.out; omega); intro v424 w29 ho hb hg hat; rw [← Ny423.out] at ho; replace Ah := Am (Kd.V_afterv (ok := (fun k_ => (P0_2_ k_ ∨ w.heap.size ≤ k_) ∧ k_ ≠ Ac ∧ k_ ≠ Ab)) (by (with_reducible repeat (first | apply Kd.V_alloc | apply Kd.V_drewN | apply Kd.V_drew)); exact Kd.V_mono Ah.out (fun _ hk => ⟨⟨hk.1, ⟨hk.2.2.1, hk.2.2.2⟩⟩, hk.2.1⟩)) hg hat); replace Aa := Am (blk_grown (g := Ac) (o := .cells #[.int .i64 a0_0, .int .i64 a0_1, .slice (some C6) l0_2.length c0_2, .int .i64 a0_3, .int .i64 a0_4, .int .i64 a0_5, .int .i64 a0_6] 26 (0, 0)) (pK Aa.out) hg (Kd.N_ne Aq.out Aa.out (by decide))); replace Ad := Am (blk_grown (g := Ab) (o := .cells #[.int .i64 0, .int .i64 0, .slice none 0 0, .int .i64 0, .int .i64 0, .int .i64 0, .int .i64 0] 26 (0, 0)) (pK Ad.out) hg (Kd.N_ne Aq.out Ad.out (by decide))); replace HL422_5 := Am (Kd.V_afterv (ok := (fun k_ => (P0_2_ k_ ∨ w.heap.size ≤ k_) ∧ k_ ≠ Ac ∧ k_ ≠ Ab)) (by (with_reducible repeat (first | apply Kd.V_alloc | apply Kd.V_drewN | apply Kd.V_drew)); exact Kd.V_mono HL422_5.out (fun _ hk => ⟨⟨hk.1, ⟨hk.2.2.1, hk.2.2.2⟩⟩, hk.2.1⟩)) hg hat); replace HB := Am (hb); have C7 := Am (ho); clear Aq ho hb hg hat))
   go_roundg k1
   case measure => have := HK1.out; omega
   case rel => exact ⟨(y423), (wrap64 (Aj + 1)), zr, H', ⟨by have := HK1.out; omega⟩, ⟨by (with_reducible repeat (first | apply Kd.N_alloc | apply Kd.N_drewN | apply Kd.N_drew)); exact C7.out⟩, ⟨by (with_reducible repeat (first | apply Kd.V_alloc | apply Kd.V_drewN | apply Kd.V_drew)); exact Kd.V_mono Ah.out (fun _ hk => ⟨hk.1.1, ⟨hk.2, ⟨hk.1.2.1, hk.1.2.2⟩⟩⟩)⟩, ⟨pK Aa.out⟩, ⟨pK Ad.out⟩, ⟨pE2 HB.out Af.out Ai.out⟩⟩
def garnerref24_do.f (k : Nat) (a0_0 : Int) (a0_1 : Int) (l0_2 : List (S54)) (a0_3 : Int) (a0_4 : Int) (a0_5 : Int) (a0_6 : Int) (a1_0 : Int) (l1_1 : List (S54)) (a1_2 : Int) (a1_3 : Int) (a1_4 : Int) (a1_5 : Int) : Option (Int × Int × (List (S54)) × Int × Int × Int × Int × Int) := if a1_0 = 1 then ((garnerref23_Put.f k a0_0 a0_1 l0_2 a0_3 a0_4 a0_5 a0_6 l1_1).bind fun bt429 => (some (bt429.1, bt429.2.1, bt429.2.2.1, bt429.2.2.2.1, bt429.2.2.2.2.1, bt429.2.2.2.2.2.1, bt429.2.2.2.2.2.2.1, bt429.2.2.2.2.2.2.2))) else (if a1_0 = 2 then ((garnerref23_Vote.f k a0_0 a0_1 l0_2 a0_3 a0_4 a0_5 a0_6 a1_2 a1_3 a1_4).bind fun bt439 => (some (bt439.1, bt439.2.1, bt439.2.2.1, bt439.2.2.2.1, bt439.2.2.2.2.1, bt439.2.2.2.2.2.1, bt439.2.2.2.2.2.2.1, bt439.2.2.2.2.2.2.2))) else ((garnerref23_Apply.f k a0_0 a0_1 l0_2 a0_3 a0_4 a0_5 a0_6 a1_5).bind fun bt449 => (some (bt449.1, bt449.2.1, bt449.2.2.1, bt449.2.2.2.1, bt449.2.2.2.2.1, bt449.2.2.2.2.2.1, bt449.2.2.2.2.2.2.1, bt449.2.2.2.2.2.2.2.2))))
theorem garnerref24_do.mono : ∀ a0 a1 a2 a3 a4 a5 a6 a7 a8 a9 a10 a11 a12 k, LeO (garnerref24_do.f k a0 a1 a2 a3 a4 a5 a6 a7 a8 a9 a10 a11 a12) (garnerref24_do.f (k + 1) a0 a1 a2 a3 a4 a5 a6 a7 a8 a9 a10 a11 a12) := by
 intro a0 a1 a2 a3 a4 a5 a6 a7 a8 a9 a10 a11 a12 k
 unfold garnerref24_do.f
 repeat' (with_reducible first | exact garnerref23_Apply.mono .. | exact garnerref23_Put.mono .. | exact garnerref23_Vote.mono .. | exact LeO.refl .. | exact LeO.none .. | refine LeO.ite ?_ ?_ | refine LeO.bind ?_ (fun _ => ?_))
set_option maxRecDepth 100000 in
theorem garnerref24_do.calls (k : Nat) (a0_0 : Int) (a0_1 : Int) (P0_2_ : Nat → Prop) (A0_2 : Option Addr) (c0_2 : Nat) (l0_2 : List (S54)) (a0_3 : Int) (a0_4 : Int) (a0_5 : Int) (a0_6 : Int) (a1_0 : Int) (P1_1_ : Nat → Prop) (A1_1 : Option Addr) (c1_1 : Nat) (l1_1 : List (S54)) (a1_2 : Int) (a1_3 : Int) (a1_4 : Int) (a1_5 : Int) (r1 : Int) (r2 : Int) (r3 : List (S54)) (r4 : Int) (r5 : Int) (r6 : Int) (r7 : Int) (r8 : Int) (w : World) (hs0_2 : Kd.V k54 54 w w.heap.size (fun k_ => P0_2_ k_) (.slice A0_2 l0_2.length c0_2) l0_2) (hs1_1 : Kd.V k54 54 w w.heap.size (fun k_ => P1_1_ k_) (.slice A1_1 l1_1.length c1_1) l1_1) (h : garnerref24_do.f k a0_0 a0_1 l0_2 a0_3 a0_4 a0_5 a0_6 a1_0 l1_1 a1_2 a1_3 a1_4 a1_5 = some (r1, r2, r3, r4, r5, r6, r7, r8)) :
 Calls Try.prog 30 #[.agg #[.int .i64 a0_0, .int .i64 a0_1, .slice A0_2 l0_2.length c0_2, .int .i64 a0_3, .int .i64 a0_4, .int .i64 a0_5, .int .i64 a0_6], .agg #[.int .i64 a1_0, .slice A1_1 l1_1.length c1_1, .int .i64 a1_2, .int .i64 a1_3, .int .i64 a1_4, .int .i64 a1_5]] w fun e w' => ∃ v2_ : Value, e = .returned (.tuple #[.agg #[.int .i64 r1, .int .i64 r2, v2_, .int .i64 r4, .int .i64 r5, .int .i64 r6, .int .i64 r7], .int .i64 r8]) ∧ Kd.V k54 54 w' w.heap.size (fun k_ => ((P0_2_ k_ ∨ P1_1_ k_) ∨ w.heap.size ≤ k_)) v2_ r3 ∧ Below w.heap.size w w' := by
 have hu26 := Try.underlying26
 have hu34 := Try.underlying34
 have hu24 := Try.underlying24
 have HO0_2 := Am (show Kd.V k54 54 w w.heap.size (fun k_ => ((P0_2_ k_ ∨ P1_1_ k_) ∨ w.heap.size ≤ k_)) (.slice A0_2 l0_2.length c0_2) l0_2 from Kd.V_mono hs0_2 (fun k_ hk => .inl (.inl hk)))
 have HO1_1 := Am (show Kd.V k54 54 w w.heap.size (fun k_ => ((P0_2_ k_ ∨ P1_1_ k_) ∨ w.heap.size ≤ k_)) (.slice A1_1 l1_1.length c1_1) l1_1 from Kd.V_mono hs1_1 (fun k_ hk => .inl (.inr hk)))
 have HB := Am (Below.refl w.heap.size w)
 unfold garnerref24_do.f at h
 have H := h
 clear h
 by_cases c3 : a1_0 = 1
 ·rw [if_pos c3] at H
  obtain ⟨c3b0, c3b1⟩ := zc c3
  clear c3
  obtain ⟨⟨t429, t430, t431, t434, t435, t436, t437, t438⟩, A4, H⟩ := zb H
  dsimp only at H
  simp only [Option.some.injEq, Prod.mk.injEq] at H
  obtain ⟨rfl, rfl, rfl, rfl, rfl, rfl, rfl, rfl⟩ := H
  go_enter Try.func30, Try.ntmps30
  go_wp2_with (first | ((with_reducible refine zD 2 rfl ?_); refine zE 2 #[.int .i64 a0_0, .int .i64 a0_1, .slice A0_2 l0_2.length c0_2, .int .i64 a0_3, .int .i64 a0_4, .int .i64 a0_5, .int .i64 a0_6] 26 ?_; intro Ac hg w5 hbox hb; replace HO0_2 := Am (Kd.V_below (Kd.V_elderB (pV HO0_2.out) Ac (Nat.le_of_eq hg.symm)) hb); replace HO1_1 := Am (Kd.V_below (Kd.V_elderB (pV HO1_1.out) Ac (Nat.le_of_eq hg.symm)) hb); have Aa := Am (hbox); have Aq := zA hg HB; replace HB := zB HB hb; have Af := Aq; clear hb hbox hg) | ((with_reducible refine zD 3 rfl ?_); refine zE 3 #[.int .i64 a1_0, .slice A1_1 l1_1.length c1_1, .int .i64 a1_2, .int .i64 a1_3, .int .i64 a1_4, .int .i64 a1_5] 34 ?_; intro Ad hg w6 hbox hb; replace HO0_2 := Am (Kd.V_below (Kd.V_elderB (pV HO0_2.out) Ad (Nat.le_of_eq hg.symm)) hb); replace HO1_1 := Am (Kd.V_below (Kd.V_elderB (pV HO1_1.out) Ad (Nat.le_of_eq hg.symm)) hb); have Ae := Am (hbox); have Ar := zY1 hg HB Af.out; replace HB := zX1 HB Af.out hb; have Ag := Ar; have Ak := Am (zN hg (kL Aa.out)); have Al := Am (zM hg (kL Aa.out)); replace Aa := kBa Aa hb; clear hb hbox hg) | ((with_reducible refine zD 4 rfl ?_); refine zE 4 #[.int .i64 0, .int .i64 0, .slice none 0 0, .int .i64 0, .int .i64 0, .int .i64 0, .int .i64 0] 26 ?_; intro Ab hg w7 hbox hb; replace HO0_2 := Am (Kd.V_below (Kd.V_elderB (pV HO0_2.out) Ab (Nat.le_of_eq hg.symm)) hb); replace HO1_1 := Am (Kd.V_below (Kd.V_elderB (pV HO1_1.out) Ab (Nat.le_of_eq hg.symm)) hb); have Ah := Am (hbox); have As := zY2 hg HB Af.out Ag.out; replace HB := zX2 HB Af.out Ag.out hb; have Ai := As; have An := Am (zN hg (kL Aa.out)); have Aj := Am (zM hg (kL Aa.out)); replace Aa := kBa Aa hb; have Ao := Am (zN hg (kL Ae.out)); have Ap := Am (zM hg (kL Ae.out)); replace Ae := kBa Ae hb; clear hb hbox hg; have hnb8 := Al.out; have hnc8 := Ak.out; have hnb9 := Ao.out; have hnc9 := Ap.out; obtain ⟨_, _, _, _, _, _⟩ := bc6 Ae.out; obtain ⟨_, _, _, _, _, _⟩ := bf6 Ae.out; have hnb11 := An.out; have hnc11 := Aj.out; obtain ⟨_, _, _, _, _, _, _⟩ := bc7 Aa.out; obtain ⟨_, _, _, _, _, _, _⟩ := bf7 Aa.out) | ((with_reducible refine zC 39 rfl ?_); refine zL (some 14) Try.func39 #[.agg #[.int .i64 a0_0, .int .i64 a0_1, .slice A0_2 l0_2.length c0_2, .int .i64 a0_3, .int .i64 a0_4, .int .i64 a0_5, .int .i64 a0_6], .slice A1_1 l1_1.length c1_1] ?_; (with_reducible refine (garnerref23_Put.calls k a0_0 a0_1 (fun k_ => (((((P0_2_ k_ ∨ P1_1_ k_) ∨ w.heap.size ≤ k_) ∧ k_ ≠ Ac) ∧ k_ ≠ Ad) ∧ k_ ≠ Ab)) _ _ l0_2 a0_3 a0_4 a0_5 a0_6 (fun k_ => (((((P0_2_ k_ ∨ P1_1_ k_) ∨ w.heap.size ≤ k_) ∧ k_ ≠ Ac) ∧ k_ ≠ Ad) ∧ k_ ≠ Ab)) _ _ l1_1 t429 t430 t431 t434 t435 t436 t437 t438 _ ?At ?Az A4.out).mono ?_); (case At => exact HO0_2.out); (case Az => exact HO1_1.out); rintro e w13 ⟨v432, rfl, ho0, hb⟩; refine ⟨_, rfl, ?_⟩; replace HO0_2 := bVa HO0_2 hb; replace HO1_1 := bVa HO1_1 hb; have Au := Am (Kd.V_lower (Kd.V_mono (ok' := fun k_ => ((P0_2_ k_ ∨ P1_1_ k_) ∨ w.heap.size ≤ k_) ∧ k_ ≠ Ac ∧ k_ ≠ Ad ∧ k_ ≠ Ab) ho0 (fun k_ hk_ => ⟨Or.elim hk_ (fun hs_ => Or.elim hs_ (fun hs_ => hs_.1.1.1) (fun hs_ => hs_.1.1.1)) (fun hn_ => (.inr (Nat.le_trans (below_size (pE3 HB.out Af.out Ag.out Ai.out)) hn_))), Or.elim hk_ (fun hs_ => Or.elim hs_ (fun hs_ => hs_.1.1.2) (fun hs_ => hs_.1.1.2)) (fun hn_ => (kF Aa.out k_ hn_)), Or.elim hk_ (fun hs_ => Or.elim hs_ (fun hs_ => hs_.1.2) (fun hs_ => hs_.1.2)) (fun hn_ => (kF Ae.out k_ hn_)), Or.elim hk_ (fun hs_ => Or.elim hs_ (fun hs_ => hs_.2) (fun hs_ => hs_.2)) (fun hn_ => (kF Ah.out k_ hn_))⟩)) (below_size (pE3 HB.out Af.out Ag.out Ai.out))); replace Aa := kBa Aa hb; replace Ae := kBa Ae hb; replace Ah := kBa Ah hb; replace HB := zX3 HB Af.out Ag.out Ai.out hb; (try clear hb); (try clear ho0); obtain ⟨_, _, _, _, _, _, _⟩ := bc7 Ah.out; obtain ⟨_, _, _, _, _, _, _⟩ := bf7 Ah.out; obtain ⟨A0, A1, A2⟩ := Kd.V_slice Au.out; subst A2))
  refine bodyPost_ret (results_ct rfl _ _ Ab 26 #[.int .i64 t429, .int .i64 t430, .slice A0 t431.length A1, .int .i64 t434, .int .i64 t435, .int .i64 t436, .int .i64 t437] (0, 0) _ rfl (kX0 Ah.out) Try.underlying26 rfl (by kernel_rfl)) rfl ?_
  exact ⟨_, pX, by (with_reducible repeat (first | apply Kd.V_alloc | apply Kd.V_drewN | apply Kd.V_drew)); exact Kd.V_mono (Vf7 (g := Ab) (Kd.V_mono Au.out (fun k_ hk => (⟨hk, hk.2.2.2⟩ : _ ∧ k_ ≠ Ab))) (fun _ hk => hk.2)) (fun _ hk => hk.1.1), pE3 HB.out Af.out Ag.out Ai.out⟩
 rw [if_neg c3] at H
 obtain ⟨c3b0, c3b1⟩ := zk c3
 by_cases c16 : a1_0 = 2
 ·rw [if_pos c16] at H
  obtain ⟨c16b0, c16b1⟩ := zc c16
  clear c16
  obtain ⟨⟨t439, t440, t441, t444, t445, t446, t447, t448⟩, A17, H⟩ := zb H
  dsimp only at H
  simp only [Option.some.injEq, Prod.mk.injEq] at H
  obtain ⟨rfl, rfl, rfl, rfl, rfl, rfl, rfl, rfl⟩ := H
  go_enter Try.func30, Try.ntmps30
  go_wp2_with (first | ((with_reducible refine zD 2 rfl ?_); refine zE 2 #[.int .i64 a0_0, .int .i64 a0_1, .slice A0_2 l0_2.length c0_2, .int .i64 a0_3, .int .i64 a0_4, .int .i64 a0_5, .int .i64 a0_6] 26 ?_; intro Ac hg w18 hbox hb; replace HO0_2 := Am (Kd.V_below (Kd.V_elderB (pV HO0_2.out) Ac (Nat.le_of_eq hg.symm)) hb); replace HO1_1 := Am (Kd.V_below (Kd.V_elderB (pV HO1_1.out) Ac (Nat.le_of_eq hg.symm)) hb); have Aa := Am (hbox); have Aq := zA hg HB; replace HB := zB HB hb; have Af := Aq; clear hb hbox hg) | ((with_reducible refine zD 3 rfl ?_); refine zE 3 #[.int .i64 a1_0, .slice A1_1 l1_1.length c1_1, .int .i64 a1_2, .int .i64 a1_3, .int .i64 a1_4, .int .i64 a1_5] 34 ?_; intro Ad hg w19 hbox hb; replace HO0_2 := Am (Kd.V_below (Kd.V_elderB (pV HO0_2.out) Ad (Nat.le_of_eq hg.symm)) hb); replace HO1_1 := Am (Kd.V_below (Kd.V_elderB (pV HO1_1.out) Ad (Nat.le_of_eq hg.symm)) hb); have Ae := Am (hbox); have Ar := zY1 hg HB Af.out; replace HB := zX1 HB Af.out hb; have Ag := Ar; have Ak := Am (zN hg (kL Aa.out)); have Al := Am (zM hg (kL Aa.out)); replace Aa := kBa Aa hb; clear hb hbox hg) | ((with_reducible refine zD 4 rfl ?_); refine zE 4 #[.int .i64 0, .int .i64 0, .slice none 0 0, .int .i64 0, .int .i64 0, .int .i64 0, .int .i64 0] 26 ?_; intro Ab hg w20 hbox hb; replace HO0_2 := Am (Kd.V_below (Kd.V_elderB (pV HO0_2.out) Ab (Nat.le_of_eq hg.symm)) hb); replace HO1_1 := Am (Kd.V_below (Kd.V_elderB (pV HO1_1.out) Ab (Nat.le_of_eq hg.symm)) hb); have Ah := Am (hbox); have As := zY2 hg HB Af.out Ag.out; replace HB := zX2 HB Af.out Ag.out hb; have Ai := As; have An := Am (zN hg (kL Aa.out)); have Aj := Am (zM hg (kL Aa.out)); replace Aa := kBa Aa hb; have Ao := Am (zN hg (kL Ae.out)); have Ap := Am (zM hg (kL Ae.out)); replace Ae := kBa Ae hb; clear hb hbox hg; have hnb21 := Al.out; have hnc21 := Ak.out; have hnb22 := Ao.out; have hnc22 := Ap.out; obtain ⟨_, _, _, _, _, _⟩ := bc6 Ae.out; obtain ⟨_, _, _, _, _, _⟩ := bf6 Ae.out; have hnb24 := An.out; have hnc24 := Aj.out; obtain ⟨_, _, _, _, _, _, _⟩ := bc7 Aa.out; obtain ⟨_, _, _, _, _, _, _⟩ := bf7 Aa.out) | ((with_reducible refine zC 40 rfl ?_); refine zL (some 23) Try.func40 #[.agg #[.int .i64 a0_0, .int .i64 a0_1, .slice A0_2 l0_2.length c0_2, .int .i64 a0_3, .int .i64 a0_4, .int .i64 a0_5, .int .i64 a0_6], .agg #[.int .i64 a1_2, .int .i64 a1_3, .int .i64 a1_4]] ?_; (with_reducible refine (garnerref23_Vote.calls k a0_0 a0_1 (fun k_ => (((((P0_2_ k_ ∨ P1_1_ k_) ∨ w.heap.size ≤ k_) ∧ k_ ≠ Ac) ∧ k_ ≠ Ad) ∧ k_ ≠ Ab)) _ _ l0_2 a0_3 a0_4 a0_5 a0_6 a1_2 a1_3 a1_4 t439 t440 t441 t444 t445 t446 t447 t448 _ ?At A17.out).mono ?_); (case At => exact HO0_2.out); rintro e w26 ⟨v442, rfl, ho0, hb⟩; refine ⟨_, rfl, ?_⟩; replace HO0_2 := bVa HO0_2 hb; replace HO1_1 := bVa HO1_1 hb; have Av := Am (Kd.V_lower (Kd.V_mono (ok' := fun k_ => ((P0_2_ k_ ∨ P1_1_ k_) ∨ w.heap.size ≤ k_) ∧ k_ ≠ Ac ∧ k_ ≠ Ad ∧ k_ ≠ Ab) ho0 (fun k_ hk_ => ⟨Or.elim hk_ (fun hs_ => hs_.1.1.1) (fun hn_ => (.inr (Nat.le_trans (below_size (pE3 HB.out Af.out Ag.out Ai.out)) hn_))), Or.elim hk_ (fun hs_ => hs_.1.1.2) (fun hn_ => (kF Aa.out k_ hn_)), Or.elim hk_ (fun hs_ => hs_.1.2) (fun hn_ => (kF Ae.out k_ hn_)), Or.elim hk_ (fun hs_ => hs_.2) (fun hn_ => (kF Ah.out k_ hn_))⟩)) (below_size (pE3 HB.out Af.out Ag.out Ai.out))); replace Aa := kBa Aa hb; replace Ae := kBa Ae hb; replace Ah := kBa Ah hb; replace HB := zX3 HB Af.out Ag.out Ai.out hb; (try clear hb); (try clear ho0); obtain ⟨_, _, _, _, _, _, _⟩ := bc7 Ah.out; obtain ⟨_, _, _, _, _, _, _⟩ := bf7 Ah.out; obtain ⟨A3, A5, A6⟩ := Kd.V_slice Av.out; subst A6))
  refine bodyPost_ret (results_ct rfl _ _ Ab 26 #[.int .i64 t439, .int .i64 t440, .slice A3 t441.length A5, .int .i64 t444, .int .i64 t445, .int .i64 t446, .int .i64 t447] (0, 0) _ rfl (kX0 Ah.out) Try.underlying26 rfl (by kernel_rfl)) rfl ?_
  exact ⟨_, pX, by (with_reducible repeat (first | apply Kd.V_alloc | apply Kd.V_drewN | apply Kd.V_drew)); exact Kd.V_mono (Vf7 (g := Ab) (Kd.V_mono Av.out (fun k_ hk => (⟨hk, hk.2.2.2⟩ : _ ∧ k_ ≠ Ab))) (fun _ hk => hk.2)) (fun _ hk => hk.1.1), pE3 HB.out Af.out Ag.out Ai.out⟩
 rw [if_neg c16] at H
 obtain ⟨c16b0, c16b1⟩ := zk c16
 obtain ⟨⟨t449, t450, t451, t454, t455, t456, t457, t458, t461⟩, A29, H⟩ := zb H
 dsimp only at H
 simp only [Option.some.injEq, Prod.mk.injEq] at H
 obtain ⟨rfl, rfl, rfl, rfl, rfl, rfl, rfl, rfl⟩ := H
 go_enter Try.func30, Try.ntmps30
 go_wp2_with (first | ((with_reducible refine zD 2 rfl ?_); refine zE 2 #[.int .i64 a0_0, .int .i64 a0_1, .slice A0_2 l0_2.length c0_2, .int .i64 a0_3, .int .i64 a0_4, .int .i64 a0_5, .int .i64 a0_6] 26 ?_; intro Ac hg w30 hbox hb; replace HO0_2 := Am (Kd.V_below (Kd.V_elderB (pV HO0_2.out) Ac (Nat.le_of_eq hg.symm)) hb); replace HO1_1 := Am (Kd.V_below (Kd.V_elderB (pV HO1_1.out) Ac (Nat.le_of_eq hg.symm)) hb); have Aa := Am (hbox); have Aq := zA hg HB; replace HB := zB HB hb; have Af := Aq; clear hb hbox hg) | ((with_reducible refine zD 3 rfl ?_); refine zE 3 #[.int .i64 a1_0, .slice A1_1 l1_1.length c1_1, .int .i64 a1_2, .int .i64 a1_3, .int .i64 a1_4, .int .i64 a1_5] 34 ?_; intro Ad hg w31 hbox hb; replace HO0_2 := Am (Kd.V_below (Kd.V_elderB (pV HO0_2.out) Ad (Nat.le_of_eq hg.symm)) hb); replace HO1_1 := Am (Kd.V_below (Kd.V_elderB (pV HO1_1.out) Ad (Nat.le_of_eq hg.symm)) hb); have Ae := Am (hbox); have Ar := zY1 hg HB Af.out; replace HB := zX1 HB Af.out hb; have Ag := Ar; have Ak := Am (zN hg (kL Aa.out)); have Al := Am (zM hg (kL Aa.out)); replace Aa := kBa Aa hb; clear hb hbox hg) | ((with_reducible refine zD 4 rfl ?_); refine zE 4 #[.int .i64 0, .int .i64 0, .slice none 0 0, .int .i64 0, .int .i64 0, .int .i64 0, .int .i64 0] 26 ?_; intro Ab hg w32 hbox hb; replace HO0_2 := Am (Kd.V_below (Kd.V_elderB (pV HO0_2.out) Ab (Nat.le_of_eq hg.symm)) hb); replace HO1_1 := Am (Kd.V_below (Kd.V_elderB (pV HO1_1.out) Ab (Nat.le_of_eq hg.symm)) hb); have Ah := Am (hbox); have As := zY2 hg HB Af.out Ag.out; replace HB := zX2 HB Af.out Ag.out hb; have Ai := As; have An := Am (zN hg (kL Aa.out)); have Aj := Am (zM hg (kL Aa.out)); replace Aa := kBa Aa hb; have Ao := Am (zN hg (kL Ae.out)); have Ap := Am (zM hg (kL Ae.out)); replace Ae := kBa Ae hb; clear hb hbox hg; have hnb33 := Al.out; have hnc33 := Ak.out; have hnb34 := Ao.out; have hnc34 := Ap.out; obtain ⟨_, _, _, _, _, _⟩ := bc6 Ae.out; obtain ⟨_, _, _, _, _, _⟩ := bf6 Ae.out; have hnb36 := An.out; have hnc36 := Aj.out; obtain ⟨_, _, _, _, _, _, _⟩ := bc7 Aa.out; obtain ⟨_, _, _, _, _, _, _⟩ := bf7 Aa.out) | ((with_reducible refine zC 41 rfl ?_); refine zL (some 30) Try.func41 #[.agg #[.int .i64 a0_0, .int .i64 a0_1, .slice A0_2 l0_2.length c0_2, .int .i64 a0_3, .int .i64 a0_4, .int .i64 a0_5, .int .i64 a0_6], .int .i64 a1_5] ?_; (with_reducible refine (garnerref23_Apply.calls k a0_0 a0_1 (fun k_ => (((((P0_2_ k_ ∨ P1_1_ k_) ∨ w.heap.size ≤ k_) ∧ k_ ≠ Ac) ∧ k_ ≠ Ad) ∧ k_ ≠ Ab)) _ _ l0_2 a0_3 a0_4 a0_5 a0_6 a1_5 t449 t450 t451 t454 t455 t456 t457 t458 t461 _ ?At A29.out).mono ?_); (case At => exact HO0_2.out); rintro e w38 ⟨v452, v459, rfl, ho0, ho1, hb⟩; refine ⟨_, rfl, ?_⟩; replace HO0_2 := Am (Kd.V_elder' (pV HO0_2.out) (Kd.N_base ho1) hb); replace HO1_1 := Am (Kd.V_elder' (pV HO1_1.out) (Kd.N_base ho1) hb); have Aw := Am (Kd.V_lower (Kd.V_mono (ok' := fun k_ => ((P0_2_ k_ ∨ P1_1_ k_) ∨ w.heap.size ≤ k_) ∧ some k_ ≠ (v459 : Value).ownBlock ∧ k_ ≠ Ac ∧ k_ ≠ Ad ∧ k_ ≠ Ab) ho0 (fun k_ hk_ => ⟨Or.elim hk_.1 (fun hs_ => hs_.1.1.1) (fun hn_ => (.inr (Nat.le_trans (below_size (pE3 HB.out Af.out Ag.out Ai.out)) hn_))), hk_.2, Or.elim hk_.1 (fun hs_ => hs_.1.1.2) (fun hn_ => (kF Aa.out k_ hn_)), Or.elim hk_.1 (fun hs_ => hs_.1.2) (fun hn_ => (kF Ae.out k_ hn_)), Or.elim hk_.1 (fun hs_ => hs_.2) (fun hn_ => (kF Ah.out k_ hn_))⟩)) (below_size (pE3 HB.out Af.out Ag.out Ai.out))); have HO460 := Am (Kd.N_lower (Kd.N_mono (ok' := fun k_ => ((P0_2_ k_ ∨ P1_1_ k_) ∨ w.heap.size ≤ k_) ∧ k_ ≠ Ac ∧ k_ ≠ Ad ∧ k_ ≠ Ab) ho1 (fun k_ hk_ => ⟨Or.elim hk_ (fun hs_ => hs_.1.1.1) (fun hn_ => (.inr (Nat.le_trans (below_size (pE3 HB.out Af.out Ag.out Ai.out)) hn_))), Or.elim hk_ (fun hs_ => hs_.1.1.2) (fun hn_ => (kF Aa.out k_ hn_)), Or.elim hk_ (fun hs_ => hs_.1.2) (fun hn_ => (kF Ae.out k_ hn_)), Or.elim hk_ (fun hs_ => hs_.2) (fun hn_ => (kF Ah.out k_ hn_))⟩)) (below_size (pE3 HB.out Af.out Ag.out Ai.out))); replace Aa := kBa Aa hb; replace Ae := kBa Ae hb; replace Ah := kBa Ah hb; replace HB := zX3 HB Af.out Ag.out Ai.out hb; (try clear hb); (try clear ho0); (try clear ho1); obtain ⟨_, _, _, _, _, _, _⟩ := bc7 Aa.out; obtain ⟨_, _, _, _, _, _, _⟩ := bf7 Aa.out; obtain ⟨Ax, Ay, A7⟩ := Kd.V_slice Aw.out; subst A7; obtain ⟨_, _, _, _, _, _, _⟩ := bc7 Ah.out; obtain ⟨_, _, _, _, _, _, _⟩ := bf7 Ah.out))
 refine bodyPost_ret (results_ct rfl _ _ Ab 26 #[.int .i64 t449, .int .i64 t450, .slice Ax t451.length Ay, .int .i64 t454, .int .i64 t455, .int .i64 t456, .int .i64 t457] (0, 0) _ rfl (kX1 Ah.out Aj.out) Try.underlying26 rfl (by kernel_rfl)) rfl ?_
 exact ⟨_, pX, by (with_reducible repeat (first | apply Kd.V_alloc | apply Kd.V_drewN | apply Kd.V_drew)); have h0_ := Kd.V_mono (Kd.V_mono Aw.out (fun k_ hk => (⟨hk, hk.2.2.1⟩ : _ ∧ k_ ≠ Ac))) (fun k_ hk => (⟨hk, hk.1.2.2.2.2⟩ : _ ∧ k_ ≠ Ab)); have h1_ := Kd.V_far (p := ⟨Ac, 0, none⟩) h0_ (fun _ hk => hk.1.2) (.int .i64 t449); have h2_ := Kd.V_far (p := ⟨Ac, 1, none⟩) h1_ (fun _ hk => hk.1.2) (.int .i64 t450); have h3_ := Kd.V_far (p := ⟨Ac, 2, none⟩) h2_ (fun _ hk => hk.1.2) (.slice Ax t451.length Ay); have h4_ := Kd.V_far (p := ⟨Ac, 3, none⟩) h3_ (fun _ hk => hk.1.2) (.int .i64 t454); have h5_ := Kd.V_far (p := ⟨Ac, 4, none⟩) h4_ (fun _ hk => hk.1.2) (.int .i64 t455); have h6_ := Kd.V_far (p := ⟨Ac, 5, none⟩) h5_ (fun _ hk => hk.1.2) (.int .i64 t456); have h7_ := Kd.V_far (p := ⟨Ac, 6, none⟩) h6_ (fun _ hk => hk.1.2) (.int .i64 t457); exact Kd.V_mono (Vf7 (g := Ab) (h7_) (fun _ hk => hk.2)) (fun _ hk => hk.1.1.1), pE3 HB.out Af.out Ag.out Ai.out⟩
end
section
attribute [local go_sem] max2_int min2_int max_two min_two max_three min_three max_four min_four
attribute [local go_sem] wrap64_l1 wrap64_l2 wrap64_l3 wrap64_l4 wrap64_l5
theorem vAw {α : Type} {d : Kd α} {e base n c g : Nat} {ok : Nat → Prop} {w : World} {ad : Addr} {xs : List α} (h : Kd.V d e w base ok (.slice (some ad) n c) xs) (hn : 0 < n) (hs : 0 < d.sz) (hok : ∀ k, ok k → k ≠ g) : ad.block ≠ g := hok _ (Kd.F_in (Kd.V_F h) rfl hn hs)
theorem vXa {P Q : Prop} {ad : Addr} {g : Nat} (h : P) (n0 : ad.block ≠ g) (e : P → ad.block ≠ g → Q := by intro h_ n0_; (repeat (first | (with_reducible exact h_) | refine (cell_far (pA n0_) _).trans ?_)); first | done | exact h_) : Q := e h n0
def garnerref24_Make.l0 : Nat → List (S34) → Int → Int → Int → List (S54) → Int → Int → Int → Int → Option (Int × Int × (List (S54)) × Int × Int × Int × Int × Int)
 | 0, _, _, _, _, _, _, _, _, _ => none
 | k + 1, x1, x6, x463000, x463001, x463002, x463003, x463004, x463005, x463006 => if x6 < (x1.length : Int) then (if 0 ≤ x6 then ((garnerref24_do.f k x463000 x463001 x463002 x463003 x463004 x463005 x463006 ((rd_T34 x1 x6).f0) ((rd_T34 x1 x6).f1) ((rd_T34 x1 x6).f2.f0) ((rd_T34 x1 x6).f2.f1) ((rd_T34 x1 x6).f2.f2) ((rd_T34 x1 x6).f3)).bind fun bt465 => (if bt465.2.2.2.2.2.2.2 = 0 then (garnerref24_Make.l0 k x1 (wrap64 (x6 + 1)) bt465.1 bt465.2.1 bt465.2.2.1 bt465.2.2.2.1 bt465.2.2.2.2.1 bt465.2.2.2.2.2.1 bt465.2.2.2.2.2.2.1) else (some (x463000, x463001, x463002, x463003, x463004, x463005, x463006, x6)))) else (none)) else (some (x463000, x463001, x463002, x463003, x463004, x463005, x463006, (x1.length : Int)))
def garnerref24_Make.f (k : Nat) (a0_0 : Int) (a0_1 : Int) (l0_2 : List (S54)) (a0_3 : Int) (a0_4 : Int) (a0_5 : Int) (a0_6 : Int) (l1 : List (S34)) : Option (Int × Int × (List (S54)) × Int × Int × Int × Int × Int) := garnerref24_Make.l0 k l1 0 a0_0 a0_1 l0_2 a0_3 a0_4 a0_5 a0_6
theorem garnerref24_Make.mono_l : ∀ k, (∀ y0 y1 y2 y3 y4 y5 y6 y7 y8, LeO (garnerref24_Make.l0 k y0 y1 y2 y3 y4 y5 y6 y7 y8) (garnerref24_Make.l0 (k + 1) y0 y1 y2 y3 y4 y5 y6 y7 y8))
 | 0 => fun _ _ _ _ _ _ _ _ _ r h => by simp [garnerref24_Make.l0] at h
 | k + 1 => by
  have ih0 := garnerref24_Make.mono_l k
  ·intro y0 y1 y2 y3 y4 y5 y6 y7 y8
   unfold garnerref24_Make.l0
   repeat' (with_reducible first | exact ih0 .. | exact garnerref24_do.mono .. | exact LeO.refl .. | exact LeO.none .. | refine LeO.ite ?_ ?_ | refine LeO.bind ?_ (fun _ => ?_))
theorem garnerref24_Make.mono : ∀ a0 a1 a2 a3 a4 a5 a6 a7 k, LeO (garnerref24_Make.f k a0 a1 a2 a3 a4 a5 a6 a7) (garnerref24_Make.f (k + 1) a0 a1 a2 a3 a4 a5 a6 a7) := by
 intro a0 a1 a2 a3 a4 a5 a6 a7 k
 have ih0 := garnerref24_Make.mono_l k
 unfold garnerref24_Make.f
 repeat' (with_reducible first | exact ih0 .. | exact garnerref24_do.mono .. | exact LeO.refl .. | exact LeO.none .. | refine LeO.ite ?_ ?_ | refine LeO.bind ?_ (fun _ => ?_))
def garnerref24_Make.T4 : Bool × List (List Nat × List Nat) := (true, [([], []), ([], []), ([], []), ([1, 2], [1, 2]), ([3], [3]), ([0, 4], [0, 4]), ([5], [5]), ([6], [6]), ([6], [6]), ([], []), ([9, 7, 5, 0, 1, 2, 3, 4, 5, 6, 7, 9], [7, 9]), ([8, 10, 0, 1, 2, 3, 4, 5, 6, 7, 8, 9, 10], [8])])
def garnerref24_Make.B4 : List Nat := [0, 0, 0, 6, 14, 31, 63, 127, 127, 0, 767, 2047]
theorem garnerref24_Make.tab4 : rtab .any (opsOf Try.f13 4) = garnerref24_Make.T4 := by kernel_rfl
theorem garnerref24_Make.bits4 : waitsOk garnerref24_Make.T4.2 garnerref24_Make.B4 = true := by kernel_rfl
set_option maxHeartbeats 8000000 in
set_option maxRecDepth 100000 in
theorem garnerref24_Make.calls (k : Nat) (a0_0 : Int) (a0_1 : Int) (P0_2_ : Nat → Prop) (A0_2 : Option Addr) (c0_2 : Nat) (l0_2 : List (S54)) (a0_3 : Int) (a0_4 : Int) (a0_5 : Int) (a0_6 : Int) (P1_ : Nat → Prop) (A1 : Option Addr) (c1 : Nat) (l1 : List (S34)) (r1 : Int) (r2 : Int) (r3 : List (S54)) (r4 : Int) (r5 : Int) (r6 : Int) (r7 : Int) (r8 : Int) (w : World) (hs0_2 : Kd.V k54 54 w w.heap.size (fun k_ => P0_2_ k_) (.slice A0_2 l0_2.length c0_2) l0_2) (hs1 : Kd.V k34 34 w w.heap.size (fun k_ => P1_ k_) (.slice A1 l1.length c1) l1) (h : garnerref24_Make.f k a0_0 a0_1 l0_2 a0_3 a0_4 a0_5 a0_6 l1 = some (r1, r2, r3, r4, r5, r6, r7, r8)) :
 Calls Try.prog 13 #[.agg #[.int .i64 a0_0, .int .i64 a0_1, .slice A0_2 l0_2.length c0_2, .int .i64 a0_3, .int .i64 a0_4, .int .i64 a0_5, .int .i64 a0_6], .slice A1 l1.length c1] w fun e w' => ∃ v2_ : Value, e = .returned (.tuple #[.agg #[.int .i64 r1, .int .i64 r2, v2_, .int .i64 r4, .int .i64 r5, .int .i64 r6, .int .i64 r7], .int .i64 r8]) ∧ Kd.V k54 54 w' w.heap.size (fun k_ => ((P0_2_ k_ ∨ P1_ k_) ∨ w.heap.size ≤ k_)) v2_ r3 ∧ Below w.heap.size w w' := by
 have hu26 := Try.underlying26
 have hu34 := Try.underlying34
 have HO0_2 := Am (show Kd.V k54 54 w w.heap.size (fun k_ => ((P0_2_ k_ ∨ P1_ k_) ∨ w.heap.size ≤ k_)) (.slice A0_2 l0_2.length c0_2) l0_2 from Kd.V_mono hs0_2 (fun k_ hk => .inl (.inl hk)))
 have Bu := Am (show Kd.V k34 34 w w.heap.size (fun k_ => ((P0_2_ k_ ∨ P1_ k_) ∨ w.heap.size ≤ k_)) (.slice A1 l1.length c1) l1 from Kd.V_mono hs1 (fun k_ hk => .inl (.inr hk)))
 have HB := Am (Below.refl w.heap.size w)
 unfold garnerref24_Make.f at h
 have H := h
 clear h
 have H' := Am H
 clear H
 go_enter Try.func13, Try.ntmps13
 go_wp2_with (first | ((with_reducible refine zD 2 rfl ?_); refine zE 2 #[.int .i64 a0_0, .int .i64 a0_1, .slice A0_2 l0_2.length c0_2, .int .i64 a0_3, .int .i64 a0_4, .int .i64 a0_5, .int .i64 a0_6] 26 ?_; intro Ad hg w3 hbox hb; replace HO0_2 := Am (Kd.V_below (Kd.V_elderB (pV HO0_2.out) Ad (Nat.le_of_eq hg.symm)) hb); replace Bu := Am (Kd.V_below (Kd.V_elderB (pV Bu.out) Ad (Nat.le_of_eq hg.symm)) hb); have Aa := Am (hbox); have Bx := zA hg HB; replace HB := zB HB hb; have Ax := Bx; clear hb hbox hg) | ((with_reducible refine zD 4 rfl ?_); refine zE 4 #[.int .i64 0, .int .i64 0, .slice none 0 0, .int .i64 0, .int .i64 0, .int .i64 0, .int .i64 0] 26 ?_; intro Ai hg w4 hbox hb; replace HO0_2 := Am (Kd.V_below (Kd.V_elderB (pV HO0_2.out) Ai (Nat.le_of_eq hg.symm)) hb); replace Bu := Am (Kd.V_below (Kd.V_elderB (pV Bu.out) Ai (Nat.le_of_eq hg.symm)) hb); have At := Am (hbox); have By := zY1 hg HB Ax.out; replace HB := zX1 HB Ax.out hb; have Ay := By; have Bk := Am (zN hg (kL Aa.out)); have Bg := Am (zM hg (kL Aa.out)); replace Aa := kBa Aa hb; clear hb hbox hg))
 go_loopg [6] k (fun kq v6 w' => ∃ (Ac : Int) (Al : Int) (An : Int) (Ag : List (S54)) (Ao : Int) (Ap : Int) (Aq : Int) (Ar : Int) (A2 : Int) (A3 : Int) (A4 : Int) (A5 : Int) (A6 : Int) (A8 : Int) (u463002 : Value), v6 = .int .i64 Ac ∧ Aside0 (garnerref24_Make.l0 kq l1 Ac Al An Ag Ao Ap Aq Ar = some (r1, r2, r3, r4, r5, r6, r7, r8)) ∧ Aside0 (kq ≤ k) ∧ Aside0 (Kd.V k34 34 w' w.heap.size (fun k_ => ((P0_2_ k_ ∨ P1_ k_) ∨ w.heap.size ≤ k_) ∧ k_ ≠ Ad ∧ k_ ≠ Ai) (.slice A1 l1.length c1) l1) ∧ Aside0 (Kd.V k54 54 w' w.heap.size (fun k_ => ((P0_2_ k_ ∨ P1_ k_) ∨ w.heap.size ≤ k_) ∧ k_ ≠ Ad ∧ k_ ≠ Ai) u463002 Ag) ∧ Aside0 (w'.heap[Ad]? = some (.cells #[.int .i64 Al, .int .i64 An, u463002, .int .i64 Ao, .int .i64 Ap, .int .i64 Aq, .int .i64 Ar] 26 (0, 0))) ∧ Aside0 (w'.heap[Ai]? = some (.cells #[.int .i64 A2, .int .i64 A3, (.slice none 0 0), .int .i64 A4, .int .i64 A5, .int .i64 A6, .int .i64 A8] 26 (0, 0))) ∧ Aside0 (Below w.heap.size w w'))
 case atStart => exact ⟨(0), (a0_0), (a0_1), (l0_2), (a0_3), (a0_4), (a0_5), (a0_6), (0), (0), (0), (0), (0), (0), (.slice A0_2 l0_2.length c0_2), zr, H', ⟨Nat.le_refl _⟩, ⟨by (with_reducible repeat (first | apply Kd.V_alloc | apply Kd.V_drewN | apply Kd.V_drew)); exact Kd.V_mono Bu.out (fun _ hk => ⟨hk.1.1, ⟨hk.1.2, hk.2⟩⟩)⟩, ⟨by (with_reducible repeat (first | apply Kd.V_alloc | apply Kd.V_drewN | apply Kd.V_drew)); exact Kd.V_mono HO0_2.out (fun _ hk => ⟨hk.1.1, ⟨hk.1.2, hk.2⟩⟩)⟩, ⟨pK Aa.out⟩, ⟨pK At.out⟩, ⟨pE2 HB.out Ax.out Ay.out⟩⟩
 case round =>
  clear H'
  try clear c1
  try clear p2
  obtain ⟨Ac, Al, An, Ag, Ao, Ap, Aq, Ar, A2, A3, A4, A5, A6, A8, u463002, rfl, HA, HK1, As, Af, Aa, At, HB⟩ := hrel
  cases gk with
  | zero => exact absurd HA.out (by simp [garnerref24_Make.l0])
  | succ k1 =>
   have H := HA.out
   clear HA
   simp only [garnerref24_Make.l0] at H
   by_cases c5 : Ac < (l1.length : Int)
   rotate_left
   ·rw [if_neg c5] at H
    have c5b0 := decide_eq_false c5
    clear c5
    simp only [Option.some.injEq, Prod.mk.injEq] at H
    obtain ⟨rfl, rfl, rfl, rfl, rfl, rfl, rfl, rfl⟩ := H
    have hnb45 := Bk.out
    have hnc45 := Bg.out
    obtain ⟨_, _, _, _, _, _, _⟩ := bc7 Aa.out
    obtain ⟨_, _, _, _, _, _, _⟩ := bf7 Aa.out
    obtain ⟨_, _, _, _, _, _, _⟩ := bc7 At.out
    obtain ⟨_, _, _, _, _, _, _⟩ := bf7 At.out
    obtain ⟨B2, B3, B4⟩ := Kd.V_slice Af.out
    subst B4
    go_wp2
    refine bodyPost_ret (results_ct rfl _ _ Ai 26 #[.int .i64 Al, .int .i64 An, .slice B2 Ag.length B3, .int .i64 Ao, .int .i64 Ap, .int .i64 Aq, .int .i64 Ar] (0, 0) _ rfl (kX0 At.out) Try.underlying26 rfl (by kernel_rfl)) rfl ?_
    exact ⟨_, pX, by (with_reducible repeat (first | apply Kd.V_alloc | apply Kd.V_drewN | apply Kd.V_drew)); exact Kd.V_mono (Vf7 (g := Ai) (Kd.V_mono Af.out (fun k_ hk => (⟨hk, hk.2.2⟩ : _ ∧ k_ ≠ Ai))) (fun _ hk => hk.2)) (fun _ hk => hk.1.1), pE2 HB.out Ax.out Ay.out⟩
   rw [if_pos c5] at H
   have c5b0 := decide_eq_true c5
   clear c5
   obtain ⟨c6, H⟩ := zI H
   have c6b0 := decide_eq_true c6
   clear c6
   obtain ⟨⟨t465, t466, t467, t470, t471, t472, t473, t474⟩, A7, H⟩ := zb H
   dsimp only at H
   by_cases c8 : t474 = 0
   rotate_left
   ·rw [if_neg c8] at H
    obtain ⟨c8b0, c8b1⟩ := zk c8
    simp only [Option.some.injEq, Prod.mk.injEq] at H
    obtain ⟨rfl, rfl, rfl, rfl, rfl, rfl, rfl, rfl⟩ := H
    obtain ⟨Bn, Bo, Bz⟩ := Kd.V_slice Af.out
    subst Bz
    try go_wp2
    replace As := dVa As
    replace Af := dVa Af
    replace Aa := kDa Aa
    replace At := kDa At
    replace HB := bDa HB
    have p464 : 0 ≤ (Ac : Int) := of_decide_eq_true pS
    have q464 : Ac < (l1.length : Int) := of_decide_eq_true pS
    have hn464_ : 0 < l1.length := by omega
    obtain ⟨Au, A0, c464_1, e464, Bb, Ba, Bc, Bd, Be, Bf, Bi, Bj⟩ := at_T34 (Kd.V_reads' As.out).2.2 Ac p464 q464
    cases e464
    obtain ⟨ce464, hce464, hMe464, hcc464⟩ := Kd.V_get As.out z34 Ac p464 (by first | exact q464 | exact of_decide_eq_true pS | (have e_ := (Kd.V_reads' As.out).1; omega))
    obtain ⟨ua464_1, uc464_1, rfl, ul464_1, ge464_1⟩ := k34_openF hMe464
    have hv464_1 := hcc464 1 _ rfl
    rw [add_field _ _ 1 (by omega)] at hv464_1
    replace hv464_1 := Option.some.inj (hv464_1.symm.trans Ba)
    injection hv464_1 with hva_ hvn_ hvc_
    rw [hva_] at ge464_1
    rw [hvc_] at ul464_1
    have HL464_1 := Am (show Kd.V k54 54 _ w.heap.size _ _ ((rd_T34 l1 Ac).f1) from Kd.V_mk ul464_1 ge464_1)
    clear hva_ hvn_ hvc_ ge464_1 ul464_1
    clear hcc464 hce464
    have Av := Am Bj
    have Br := Am Bi
    clear Bj Bi
    replace p464 := eq_true p464
    replace q464 := eq_true q464
    refine start_ (n := 12) (S := fun w' => cG w' Ad 0 (.int .i64 Al) ∧ cG w' Ad 1 (.int .i64 An) ∧ cG w' Ad 2 (.slice Bn Ag.length Bo) ∧ cG w' Ad 3 (.int .i64 Ao) ∧ cG w' Ad 4 (.int .i64 Ap) ∧ cG w' Ad 5 (.int .i64 Aq) ∧ cG w' Ad 6 (.int .i64 Ar) ∧ w'.cell? (Au.add ((Ac).toNat * 6)) = some (.int .i64 ((rd_T34 l1 Ac).f0)) ∧ cA w' (Au.add ((Ac).toNat * 6)) 1 (.slice A0 ((rd_T34 l1 Ac).f1).length c464_1) ∧ cA w' (Au.add ((Ac).toNat * 6)) 2 (.int .i64 ((rd_T34 l1 Ac).f2.f0)) ∧ cA w' (Au.add ((Ac).toNat * 6)) 3 (.int .i64 ((rd_T34 l1 Ac).f2.f1)) ∧ cA w' (Au.add ((Ac).toNat * 6)) 4 (.int .i64 ((rd_T34 l1 Ac).f2.f2)) ∧ cA w' (Au.add ((Ac).toNat * 6)) 5 (.int .i64 ((rd_T34 l1 Ac).f3))) (ds := []) #[false, false, false, false, false, false, false, false, false, false, false, false] (by kernel_rfl) rfl rfl ⟨(blk_cell Aa.out 0).trans rfl, (blk_cell Aa.out 1).trans rfl, (blk_cell Aa.out 2).trans rfl, (blk_cell Aa.out 3).trans rfl, (blk_cell Aa.out 4).trans rfl, (blk_cell Aa.out 5).trans rfl, (blk_cell Aa.out 6).trans rfl, Bb, Ba, Bc, Bd, Be, Bf⟩ (fun hHeld => ?_); refine with_tabW garnerref24_Make.tab4 garnerref24_Make.bits4 (fun HT_ HW_ => ?_)
    (first | generalize wr.drew = w28 at As Af Aa At HB HL464_1 Av Bb Ba Bc Bd Be Bf hHeld ⊢ | generalize wr.drew = w28 at Aa At HB HL464_1 Av Bb Ba Bc Bd Be Bf hHeld ⊢)
    refine pui 1 17 12 2 HT_ ?_
    refine zp 2 (h := zp 3 (h := zw 0 (h := zw 4 (h := ?_))))
    refine join_ (σ := Value × Nat) 2 #[true, true, true, true, true, true, true, true, true, true, false, false] (fun s_ => [(21, .tuple #[.agg #[.int .i64 t465, .int .i64 t466, s_.1, .int .i64 t470, .int .i64 t471, .int .i64 t472, .int .i64 t473], .int .i64 t474]), (7, .pointer (some ⟨s_.2, 0, none⟩)), (15, .tuple #[.agg #[.int .i64 t465, .int .i64 t466, s_.1, .int .i64 t470, .int .i64 t471, .int .i64 t472, .int .i64 t473], .int .i64 t474]), (22, .agg #[.int .i64 t465, .int .i64 t466, s_.1, .int .i64 t470, .int .i64 t471, .int .i64 t472, .int .i64 t473]), (23, .int .i64 t474)]) (fun s_ w' => (cG w' Ad 0 (.int .i64 Al) ∧ cG w' Ad 1 (.int .i64 An) ∧ cG w' Ad 2 (.slice Bn Ag.length Bo) ∧ cG w' Ad 3 (.int .i64 Ao) ∧ cG w' Ad 4 (.int .i64 Ap) ∧ cG w' Ad 5 (.int .i64 Aq) ∧ cG w' Ad 6 (.int .i64 Ar) ∧ w'.cell? (Au.add ((Ac).toNat * 6)) = some (.int .i64 ((rd_T34 l1 Ac).f0)) ∧ cA w' (Au.add ((Ac).toNat * 6)) 1 (.slice A0 ((rd_T34 l1 Ac).f1).length c464_1) ∧ cA w' (Au.add ((Ac).toNat * 6)) 2 (.int .i64 ((rd_T34 l1 Ac).f2.f0)) ∧ cA w' (Au.add ((Ac).toNat * 6)) 3 (.int .i64 ((rd_T34 l1 Ac).f2.f1)) ∧ cA w' (Au.add ((Ac).toNat * 6)) 4 (.int .i64 ((rd_T34 l1 Ac).f2.f2)) ∧ cA w' (Au.add ((Ac).toNat * 6)) 5 (.int .i64 ((rd_T34 l1 Ac).f3))) ∧ (Kd.V k54 54 w' w.heap.size (fun k_ => ((P0_2_ k_ ∨ P1_ k_) ∨ w.heap.size ≤ k_) ∧ k_ ≠ Ad ∧ k_ ≠ Ai ∧ k_ ≠ s_.2) (.slice A0 ((rd_T34 l1 Ac).f1).length c464_1) ((rd_T34 l1 Ac).f1)) ∧ (Kd.V k54 54 w' w.heap.size (fun k_ => ((P0_2_ k_ ∨ P1_ k_) ∨ w.heap.size ≤ k_) ∧ k_ ≠ Ad ∧ k_ ≠ Ai ∧ k_ ≠ s_.2) s_.1 t467) ∧ (Kd.V k34 34 w' w.heap.size (fun k_ => ((P0_2_ k_ ∨ P1_ k_) ∨ w.heap.size ≤ k_) ∧ k_ ≠ Ad ∧ k_ ≠ Ai ∧ k_ ≠ s_.2) (.slice (some Au) l1.length c1) l1) ∧ (Kd.V k54 54 w' w.heap.size (fun k_ => ((P0_2_ k_ ∨ P1_ k_) ∨ w.heap.size ≤ k_) ∧ k_ ≠ Ad ∧ k_ ≠ Ai ∧ k_ ≠ s_.2) (.slice Bn Ag.length Bo) Ag) ∧ (w'.heap[Ad]? = some (.cells #[.int .i64 Al, .int .i64 An, .slice Bn Ag.length Bo, .int .i64 Ao, .int .i64 Ap, .int .i64 Aq, .int .i64 Ar] 26 (0, 0))) ∧ (w'.heap[Ai]? = some (.cells #[.int .i64 A2, .int .i64 A3, .slice none 0 0, .int .i64 A4, .int .i64 A5, .int .i64 A6, .int .i64 A8] 26 (0, 0))) ∧ (w'.heap[s_.2]? = some (.cells #[.int .i64 0, .int .i64 0, .slice none 0 0, .int .i64 0, .int .i64 0, .int .i64 0, .int .i64 0] 26 (0, 0))) ∧ (w.heap.size ≤ s_.2) ∧ (w.heap.size ≤ s_.2) ∧ (Ad ≠ s_.2) ∧ (s_.2 ≠ Ad) ∧ (Ai ≠ s_.2) ∧ (s_.2 ≠ Ai) ∧ (Below w.heap.size w w')) ?_ ?_
    rotate_left
    ·intro hCont
     refine two_ (i := 5) (j := 9) (Ni := some 21) (Nj := some 7) (bw 12 63) #[true, true, true, true, true, false, false, false, false, true, false, false] rfl rfl rfl rfl (two_of HT_.out (by kernel_rfl)) (by decide) (by decide) (fun K hK => ?_) (fun K hK => ?_)
     ·skip
      refine goes_ Try.func30 (by kernel_rfl) rfl #[.agg #[.int .i64 Al, .int .i64 An, .slice Bn Ag.length Bo, .int .i64 Ao, .int .i64 Ap, .int .i64 Aq, .int .i64 Ar], .agg #[.int .i64 ((rd_T34 l1 Ac).f0), .slice A0 ((rd_T34 l1 Ac).f1).length c464_1, .int .i64 ((rd_T34 l1 Ac).f2.f0), .int .i64 ((rd_T34 l1 Ac).f2.f1), .int .i64 ((rd_T34 l1 Ac).f2.f2), .int .i64 ((rd_T34 l1 Ac).f3)]] (by rfl) rfl rfl pL ?_
      with_reducible refine (garnerref24_do.calls k1 Al An (fun k_ => (((P0_2_ k_ ∨ P1_ k_) ∨ w.heap.size ≤ k_) ∧ (k_ ≠ Ad ∧ k_ ≠ Ai))) _ _ Ag Ao Ap Aq Ar ((rd_T34 l1 Ac).f0) (fun k_ => (((P0_2_ k_ ∨ P1_ k_) ∨ w.heap.size ≤ k_) ∧ (k_ ≠ Ad ∧ k_ ≠ Ai))) _ _ ((rd_T34 l1 Ac).f1) ((rd_T34 l1 Ac).f2.f0) ((rd_T34 l1 Ac).f2.f1) ((rd_T34 l1 Ac).f2.f2) ((rd_T34 l1 Ac).f3) t465 t466 t467 t470 t471 t472 t473 t474 _ ?Bl ?Bm A7.out).mono ?_
      (case Bl => exact Af.out)
      (case Bm => exact HL464_1.out)
      rintro e w29 ⟨v468, rfl, ho0, hb⟩
      have HS7_ := zH hb hHeld.2.2.2.2.2.2.2.1
      have HS8_ := zH hb hHeld.2.2.2.2.2.2.2.2.1
      have HS9_ := zH hb hHeld.2.2.2.2.2.2.2.2.2.1
      have HS10_ := zH hb hHeld.2.2.2.2.2.2.2.2.2.2.1
      have HS11_ := zH hb hHeld.2.2.2.2.2.2.2.2.2.2.2.1
      have HS12_ := zH hb hHeld.2.2.2.2.2.2.2.2.2.2.2.2
      refine ⟨_, rfl, ?_⟩
      replace As := bVa As hb
      replace Af := bVa Af hb
      replace HL464_1 := bVa HL464_1 hb
      have A9 := Am (Kd.V_lower (Kd.V_mono (ok' := fun k_ => ((P0_2_ k_ ∨ P1_ k_) ∨ w.heap.size ≤ k_) ∧ k_ ≠ Ad ∧ k_ ≠ Ai) ho0 (fun k_ hk_ => ⟨Or.elim hk_ (fun hs_ => Or.elim hs_ (fun hs_ => hs_.1) (fun hs_ => hs_.1)) (fun hn_ => (.inr (Nat.le_trans (below_size (pE2 HB.out Ax.out Ay.out)) hn_))), Or.elim hk_ (fun hs_ => Or.elim hs_ (fun hs_ => hs_.2.1) (fun hs_ => hs_.2.1)) (fun hn_ => (kF Aa.out k_ hn_)), Or.elim hk_ (fun hs_ => Or.elim hs_ (fun hs_ => hs_.2.2) (fun hs_ => hs_.2.2)) (fun hn_ => (kF At.out k_ hn_))⟩)) (below_size (pE2 HB.out Ax.out Ay.out)))
      replace Aa := kBa Aa hb
      replace At := kBa At hb
      replace Av := Am (Kd.C_below (by repeat (first | (with_reducible exact Av.out) | (with_reducible refine Kd.C_alloc ?_ _) | (with_reducible refine Kd.C_drewN ?_ _) | (with_reducible refine Kd.C_drew ?_) | exact Av.out)) hb)
      replace HB := zX2 HB Ax.out Ay.out hb
      (try clear hb)
      (try clear hb2)
      (try clear hk)
      (try clear hi)
      (try clear ho0)
      refine hK.out _ _ ⟨(blk_cell Aa.out 0).trans rfl, (blk_cell Aa.out 1).trans rfl, (blk_cell Aa.out 2).trans rfl, (blk_cell Aa.out 3).trans rfl, (blk_cell Aa.out 4).trans rfl, (blk_cell Aa.out 5).trans rfl, (blk_cell Aa.out 6).trans rfl, HS7_, HS8_, HS9_, HS10_, HS11_, HS12_⟩ (fun hHeld => ?_)
      clear hK K
      refine norm_ (a' := ?_) ?_ ?_
      rotate_left
      ·show Act.put _ (some 21) _ = _
       simp only [Act.put, List.setIfInBounds_toArray, List.set_cons_zero, List.set_cons_succ, i64_w, i32_w]
       rfl
      refine pui 6 15 12 127 HT_ ?_
      refine zp 7 (h := zp 8 (h := ?_))
      refine onei 9 7 12 1023 HT_ (fun K hK => ?_)
      refine box_step ?hg (N := 7) ?hd (cs := #[.int .i64 0, .int .i64 0, .slice none 0 0, .int .i64 0, .int .i64 0, .int .i64 0, .int .i64 0]) (t := 26) ?hr ?_; (case hd => rfl); (case hg => rfl); (case hr => first | (go_simp; done) | (go_simp; rfl))
      intro Ab hg w30 hbox hb
      have HS7_ := zH hb hHeld.2.2.2.2.2.2.2.1
      have HS8_ := zH hb hHeld.2.2.2.2.2.2.2.2.1
      have HS9_ := zH hb hHeld.2.2.2.2.2.2.2.2.2.1
      have HS10_ := zH hb hHeld.2.2.2.2.2.2.2.2.2.2.1
      have HS11_ := zH hb hHeld.2.2.2.2.2.2.2.2.2.2.2.1
      have HS12_ := zH hb hHeld.2.2.2.2.2.2.2.2.2.2.2.2
      replace As := Am (Kd.V_below (Kd.V_elderB (pV As.out) Ab (Nat.le_of_eq hg.symm)) hb)
      replace Af := Am (Kd.V_below (Kd.V_elderB (pV Af.out) Ab (Nat.le_of_eq hg.symm)) hb)
      replace HL464_1 := Am (Kd.V_below (Kd.V_elderB (pV HL464_1.out) Ab (Nat.le_of_eq hg.symm)) hb)
      replace A9 := Am (Kd.V_below (Kd.V_elderB (pV A9.out) Ab (Nat.le_of_eq hg.symm)) hb)
      replace Av := Am (Kd.C_below (by repeat (first | (with_reducible exact Av.out) | (with_reducible refine Kd.C_alloc ?_ _) | (with_reducible refine Kd.C_drewN ?_ _) | (with_reducible refine Kd.C_drew ?_) | exact Av.out)) hb)
      have Aw := Am (hbox)
      have Bh := zY2 hg HB Ax.out Ay.out
      have Az := zY2 hg HB Ax.out Ay.out
      replace HB := zX2 HB Ax.out Ay.out hb
      have Ae := Am (zN hg (kL Aa.out))
      have Aj := Am (zM hg (kL Aa.out))
      replace Aa := kBa Aa hb
      have Ah := Am (zN hg (kL At.out))
      have Ak := Am (zM hg (kL At.out))
      replace At := kBa At hb
      clear hb hbox hg
      refine hK.out _ _ ⟨(blk_cell Aa.out 0).trans rfl, (blk_cell Aa.out 1).trans rfl, (blk_cell Aa.out 2).trans rfl, (blk_cell Aa.out 3).trans rfl, (blk_cell Aa.out 4).trans rfl, (blk_cell Aa.out 5).trans rfl, (blk_cell Aa.out 6).trans rfl, HS7_, HS8_, HS9_, HS10_, HS11_, HS12_⟩ (fun hHeld => ?_)
      clear hK K
      refine norm_ (a' := ?_) ?_ ?_
      rotate_left
      ·show Act.put _ (some 7) _ = _
       simp only [Act.put, List.setIfInBounds_toArray, List.set_cons_zero, List.set_cons_succ, i64_w, i32_w]
       rfl
      exact norm_ (by simp only [putAll, Act.put, List.setIfInBounds_toArray, List.set_cons_zero, List.set_cons_succ]) (hCont (v468, Ab) _ ⟨hHeld, (by (with_reducible repeat (first | apply Kd.V_alloc | apply Kd.V_drewN | apply Kd.V_drew)); exact Kd.V_mono HL464_1.out (fun _ hk => ⟨hk.1.1, ⟨hk.1.2.1, ⟨hk.1.2.2, hk.2⟩⟩⟩)), (by (with_reducible repeat (first | apply Kd.V_alloc | apply Kd.V_drewN | apply Kd.V_drew)); exact Kd.V_mono A9.out (fun _ hk => ⟨hk.1.1, ⟨hk.1.2.1, ⟨hk.1.2.2, hk.2⟩⟩⟩)), (by (with_reducible repeat (first | apply Kd.V_alloc | apply Kd.V_drewN | apply Kd.V_drew)); exact Kd.V_mono As.out (fun _ hk => ⟨hk.1.1, ⟨hk.1.2.1, ⟨hk.1.2.2, hk.2⟩⟩⟩)), (by (with_reducible repeat (first | apply Kd.V_alloc | apply Kd.V_drewN | apply Kd.V_drew)); exact Kd.V_mono Af.out (fun _ hk => ⟨hk.1.1, ⟨hk.1.2.1, ⟨hk.1.2.2, hk.2⟩⟩⟩)), (pK Aa.out), (pK At.out), (pK Aw.out), Bh.out, Az.out, Ae.out, Aj.out, Ah.out, Ak.out, (pE3 HB.out Ax.out Ay.out Az.out)⟩)
     skip
     refine box_step ?hg (N := 7) ?hd (cs := #[.int .i64 0, .int .i64 0, .slice none 0 0, .int .i64 0, .int .i64 0, .int .i64 0, .int .i64 0]) (t := 26) ?hr ?_; (case hd => rfl); (case hg => rfl); (case hr => first | (go_simp; done) | (go_simp; rfl))
     intro Ab hg w29 hbox hb
     have HS7_ := zH hb hHeld.2.2.2.2.2.2.2.1
     have HS8_ := zH hb hHeld.2.2.2.2.2.2.2.2.1
     have HS9_ := zH hb hHeld.2.2.2.2.2.2.2.2.2.1
     have HS10_ := zH hb hHeld.2.2.2.2.2.2.2.2.2.2.1
     have HS11_ := zH hb hHeld.2.2.2.2.2.2.2.2.2.2.2.1
     have HS12_ := zH hb hHeld.2.2.2.2.2.2.2.2.2.2.2.2
     replace As := Am (Kd.V_below (Kd.V_elderB (pV As.out) Ab (Nat.le_of_eq hg.symm)) hb)
     replace Af := Am (Kd.V_below (Kd.V_elderB (pV Af.out) Ab (Nat.le_of_eq hg.symm)) hb)
     replace HL464_1 := Am (Kd.V_below (Kd.V_elderB (pV HL464_1.out) Ab (Nat.le_of_eq hg.symm)) hb)
     replace Av := Am (Kd.C_below (by repeat (first | (with_reducible exact Av.out) | (with_reducible refine Kd.C_alloc ?_ _) | (with_reducible refine Kd.C_drewN ?_ _) | (with_reducible refine Kd.C_drew ?_) | exact Av.out)) hb)
     have Aw := Am (hbox)
     have Bh := zY2 hg HB Ax.out Ay.out
     have Az := zY2 hg HB Ax.out Ay.out
     replace HB := zX2 HB Ax.out Ay.out hb
     have Ae := Am (zN hg (kL Aa.out))
     have Aj := Am (zM hg (kL Aa.out))
     replace Aa := kBa Aa hb
     have Ah := Am (zN hg (kL At.out))
     have Ak := Am (zM hg (kL At.out))
     replace At := kBa At hb
     clear hb hbox hg
     refine hK.out _ _ ⟨(blk_cell Aa.out 0).trans rfl, (blk_cell Aa.out 1).trans rfl, (blk_cell Aa.out 2).trans rfl, (blk_cell Aa.out 3).trans rfl, (blk_cell Aa.out 4).trans rfl, (blk_cell Aa.out 5).trans rfl, (blk_cell Aa.out 6).trans rfl, HS7_, HS8_, HS9_, HS10_, HS11_, HS12_⟩ (fun hHeld => ?_)
     clear hK K
     refine norm_ (a' := ?_) ?_ ?_
     rotate_left
     ·show Act.put _ (some 7) _ = _
      simp only [Act.put, List.setIfInBounds_toArray, List.set_cons_zero, List.set_cons_succ, i64_w, i32_w]
      rfl
     refine onei 5 21 12 575 HT_ (fun K hK => ?_)
     refine goes_ Try.func30 (by kernel_rfl) rfl #[.agg #[.int .i64 Al, .int .i64 An, .slice Bn Ag.length Bo, .int .i64 Ao, .int .i64 Ap, .int .i64 Aq, .int .i64 Ar], .agg #[.int .i64 ((rd_T34 l1 Ac).f0), .slice A0 ((rd_T34 l1 Ac).f1).length c464_1, .int .i64 ((rd_T34 l1 Ac).f2.f0), .int .i64 ((rd_T34 l1 Ac).f2.f1), .int .i64 ((rd_T34 l1 Ac).f2.f2), .int .i64 ((rd_T34 l1 Ac).f3)]] (by rfl) rfl rfl pL ?_
     with_reducible refine (garnerref24_do.calls k1 Al An (fun k_ => ((((P0_2_ k_ ∨ P1_ k_) ∨ w.heap.size ≤ k_) ∧ (k_ ≠ Ad ∧ k_ ≠ Ai)) ∧ k_ ≠ Ab)) _ _ Ag Ao Ap Aq Ar ((rd_T34 l1 Ac).f0) (fun k_ => ((((P0_2_ k_ ∨ P1_ k_) ∨ w.heap.size ≤ k_) ∧ (k_ ≠ Ad ∧ k_ ≠ Ai)) ∧ k_ ≠ Ab)) _ _ ((rd_T34 l1 Ac).f1) ((rd_T34 l1 Ac).f2.f0) ((rd_T34 l1 Ac).f2.f1) ((rd_T34 l1 Ac).f2.f2) ((rd_T34 l1 Ac).f3) t465 t466 t467 t470 t471 t472 t473 t474 _ ?Bl ?Bm A7.out).mono ?_
     (case Bl => exact Af.out)
     (case Bm => exact HL464_1.out)
     rintro e w30 ⟨v468, rfl, ho0, hb⟩
     have HS7_ := zH hb hHeld.2.2.2.2.2.2.2.1
     have HS8_ := zH hb hHeld.2.2.2.2.2.2.2.2.1
     have HS9_ := zH hb hHeld.2.2.2.2.2.2.2.2.2.1
     have HS10_ := zH hb hHeld.2.2.2.2.2.2.2.2.2.2.1
     have HS11_ := zH hb hHeld.2.2.2.2.2.2.2.2.2.2.2.1
     have HS12_ := zH hb hHeld.2.2.2.2.2.2.2.2.2.2.2.2
     refine ⟨_, rfl, ?_⟩
     replace As := bVa As hb
     replace Af := bVa Af hb
     replace HL464_1 := bVa HL464_1 hb
     have A9 := Am (Kd.V_lower (Kd.V_mono (ok' := fun k_ => ((P0_2_ k_ ∨ P1_ k_) ∨ w.heap.size ≤ k_) ∧ k_ ≠ Ad ∧ k_ ≠ Ai ∧ k_ ≠ Ab) ho0 (fun k_ hk_ => ⟨Or.elim hk_ (fun hs_ => Or.elim hs_ (fun hs_ => hs_.1.1) (fun hs_ => hs_.1.1)) (fun hn_ => (.inr (Nat.le_trans (below_size (pE3 HB.out Ax.out Ay.out Az.out)) hn_))), Or.elim hk_ (fun hs_ => Or.elim hs_ (fun hs_ => hs_.1.2.1) (fun hs_ => hs_.1.2.1)) (fun hn_ => (kF Aa.out k_ hn_)), Or.elim hk_ (fun hs_ => Or.elim hs_ (fun hs_ => hs_.1.2.2) (fun hs_ => hs_.1.2.2)) (fun hn_ => (kF At.out k_ hn_)), Or.elim hk_ (fun hs_ => Or.elim hs_ (fun hs_ => hs_.2) (fun hs_ => hs_.2)) (fun hn_ => (kF Aw.out k_ hn_))⟩)) (below_size (pE3 HB.out Ax.out Ay.out Az.out)))
     replace Aa := kBa Aa hb
     replace At := kBa At hb
     replace Av := Am (Kd.C_below (by repeat (first | (with_reducible exact Av.out) | (with_reducible refine Kd.C_alloc ?_ _) | (with_reducible refine Kd.C_drewN ?_ _) | (with_reducible refine Kd.C_drew ?_) | exact Av.out)) hb)
     replace Aw := kBa Aw hb
     replace HB := zX3 HB Ax.out Ay.out Az.out hb
     (try clear hb)
     (try clear hb2)
     (try clear hk)
     (try clear hi)
     (try clear ho0)
     refine hK.out _ _ ⟨(blk_cell Aa.out 0).trans rfl, (blk_cell Aa.out 1).trans rfl, (blk_cell Aa.out 2).trans rfl, (blk_cell Aa.out 3).trans rfl, (blk_cell Aa.out 4).trans rfl, (blk_cell Aa.out 5).trans rfl, (blk_cell Aa.out 6).trans rfl, HS7_, HS8_, HS9_, HS10_, HS11_, HS12_⟩ (fun hHeld => ?_)
     clear hK K
     refine norm_ (a' := ?_) ?_ ?_
     rotate_left
     ·show Act.put _ (some 21) _ = _
      simp only [Act.put, List.setIfInBounds_toArray, List.set_cons_zero, List.set_cons_succ, i64_w, i32_w]
      rfl
     refine pui 6 15 12 639 HT_ ?_
     refine zp 7 (h := zp 8 (h := ?_))
     exact norm_ (by simp only [putAll, Act.put, List.setIfInBounds_toArray, List.set_cons_zero, List.set_cons_succ]) (hCont (v468, Ab) _ ⟨hHeld, (by (with_reducible repeat (first | apply Kd.V_alloc | apply Kd.V_drewN | apply Kd.V_drew)); exact Kd.V_mono HL464_1.out (fun _ hk => ⟨hk.1.1, ⟨hk.1.2.1, ⟨hk.1.2.2, hk.2⟩⟩⟩)), (pV A9.out), (by (with_reducible repeat (first | apply Kd.V_alloc | apply Kd.V_drewN | apply Kd.V_drew)); exact Kd.V_mono As.out (fun _ hk => ⟨hk.1.1, ⟨hk.1.2.1, ⟨hk.1.2.2, hk.2⟩⟩⟩)), (by (with_reducible repeat (first | apply Kd.V_alloc | apply Kd.V_drewN | apply Kd.V_drew)); exact Kd.V_mono Af.out (fun _ hk => ⟨hk.1.1, ⟨hk.1.2.1, ⟨hk.1.2.2, hk.2⟩⟩⟩)), (pK Aa.out), (pK At.out), (pK Aw.out), Bh.out, Az.out, Ae.out, Aj.out, Ah.out, Ak.out, (pE3 HB.out Ax.out Ay.out Az.out)⟩)
    rintro ⟨v468, Ab⟩ w31 ⟨hS_, h0_, h1_, h2_, h3_, h4_, h5_, h6_, h7_, h8_, h9_, h10_, h11_, h12_, h13_⟩
    have HL464_1 : Aside0 (Kd.V k54 54 w31 w.heap.size (fun k_ => ((P0_2_ k_ ∨ P1_ k_) ∨ w.heap.size ≤ k_) ∧ k_ ≠ Ad ∧ k_ ≠ Ai ∧ k_ ≠ Ab) (.slice A0 ((rd_T34 l1 Ac).f1).length c464_1) ((rd_T34 l1 Ac).f1)) := ⟨h0_⟩
    have A9 : Aside0 (Kd.V k54 54 w31 w.heap.size (fun k_ => ((P0_2_ k_ ∨ P1_ k_) ∨ w.heap.size ≤ k_) ∧ k_ ≠ Ad ∧ k_ ≠ Ai ∧ k_ ≠ Ab) v468 t467) := ⟨h1_⟩
    replace As : Aside0 (Kd.V k34 34 w31 w.heap.size (fun k_ => ((P0_2_ k_ ∨ P1_ k_) ∨ w.heap.size ≤ k_) ∧ k_ ≠ Ad ∧ k_ ≠ Ai ∧ k_ ≠ Ab) (.slice (some Au) l1.length c1) l1) := ⟨h2_⟩
    replace Af : Aside0 (Kd.V k54 54 w31 w.heap.size (fun k_ => ((P0_2_ k_ ∨ P1_ k_) ∨ w.heap.size ≤ k_) ∧ k_ ≠ Ad ∧ k_ ≠ Ai ∧ k_ ≠ Ab) (.slice Bn Ag.length Bo) Ag) := ⟨h3_⟩
    replace Aa : Aside0 (w31.heap[Ad]? = some (.cells #[.int .i64 Al, .int .i64 An, .slice Bn Ag.length Bo, .int .i64 Ao, .int .i64 Ap, .int .i64 Aq, .int .i64 Ar] 26 (0, 0))) := ⟨h4_⟩
    replace At : Aside0 (w31.heap[Ai]? = some (.cells #[.int .i64 A2, .int .i64 A3, .slice none 0 0, .int .i64 A4, .int .i64 A5, .int .i64 A6, .int .i64 A8] 26 (0, 0))) := ⟨h5_⟩
    have Aw : Aside0 (w31.heap[Ab]? = some (.cells #[.int .i64 0, .int .i64 0, .slice none 0 0, .int .i64 0, .int .i64 0, .int .i64 0, .int .i64 0] 26 (0, 0))) := ⟨h6_⟩
    have Bh : Aside0 (w.heap.size ≤ Ab) := ⟨h7_⟩
    have Az : Aside0 (w.heap.size ≤ Ab) := ⟨h8_⟩
    have Ae : Aside0 (Ad ≠ Ab) := ⟨h9_⟩
    have Aj : Aside0 (Ab ≠ Ad) := ⟨h10_⟩
    have Ah : Aside0 (Ai ≠ Ab) := ⟨h11_⟩
    have Ak : Aside0 (Ab ≠ Ai) := ⟨h12_⟩
    replace HB : Aside0 (Below w.heap.size w w31) := ⟨h13_⟩
    clear h0_ h1_ h2_ h3_ h4_ h5_ h6_ h7_ h8_ h9_ h10_ h11_ h12_ h13_
    have hHeld : w31.cell? ⟨Ad, 0, none⟩ = some (.int .i64 Al) ∧ w31.cell? ⟨Ad, 1, none⟩ = some (.int .i64 An) ∧ w31.cell? ⟨Ad, 2, none⟩ = some (.slice Bn Ag.length Bo) ∧ w31.cell? ⟨Ad, 3, none⟩ = some (.int .i64 Ao) ∧ w31.cell? ⟨Ad, 4, none⟩ = some (.int .i64 Ap) ∧ w31.cell? ⟨Ad, 5, none⟩ = some (.int .i64 Aq) ∧ w31.cell? ⟨Ad, 6, none⟩ = some (.int .i64 Ar) ∧ w31.cell? (Au.add ((Ac).toNat * 6)) = some (.int .i64 ((rd_T34 l1 Ac).f0)) ∧ w31.cell? ⟨(Au.add ((Ac).toNat * 6)).block, (Au.add ((Ac).toNat * 6)).off + 1, none⟩ = some (.slice A0 ((rd_T34 l1 Ac).f1).length c464_1) ∧ w31.cell? ⟨(Au.add ((Ac).toNat * 6)).block, (Au.add ((Ac).toNat * 6)).off + 2, none⟩ = some (.int .i64 ((rd_T34 l1 Ac).f2.f0)) ∧ w31.cell? ⟨(Au.add ((Ac).toNat * 6)).block, (Au.add ((Ac).toNat * 6)).off + 3, none⟩ = some (.int .i64 ((rd_T34 l1 Ac).f2.f1)) ∧ w31.cell? ⟨(Au.add ((Ac).toNat * 6)).block, (Au.add ((Ac).toNat * 6)).off + 4, none⟩ = some (.int .i64 ((rd_T34 l1 Ac).f2.f2)) ∧ w31.cell? ⟨(Au.add ((Ac).toNat * 6)).block, (Au.add ((Ac).toNat * 6)).off + 5, none⟩ = some (.int .i64 ((rd_T34 l1 Ac).f3)) := hS_
    obtain ⟨B0, B1, Bw⟩ := Kd.V_slice A9.out
    (first | subst Bw | (injection Bw with f1_ f2_ f3_; have f4_ := f1_.symm; have f5_ := f3_.symm; clear f1_ f2_ f3_; subst f4_; subst f5_))
    refine norm_ (a' := ?_) ?_ ?_
    rotate_left
    ·simp only [putAll, Act.put, List.setIfInBounds_toArray, List.set_cons_zero, List.set_cons_succ]
     rfl
    refine one_ (i := 10) (N := none) (bw 12 2047) rfl rfl (one_of HT_.out (by kernel_rfl)) (by decide) (fun K hK => ?_)
    have hs32 : w31.cell? ⟨Ab, 0, none⟩ = some (.int .i64 0) := (blk_cell Aw.out 0).trans rfl
    have hfs32 := blk_frozen Aw.out 0
    have hns32_0 := Ae.out
    have hns32_1 := Ah.out
    have hms32_0 := Aj.out
    have hms32_1 := Ak.out
    have hs33 : w31.cell? ⟨Ab, 1, none⟩ = some (.int .i64 0) := (blk_cell Aw.out 1).trans rfl
    have hfs33 := blk_frozen Aw.out 1
    have hns33_0 := Ae.out
    have hns33_1 := Ah.out
    have hms33_0 := Aj.out
    have hms33_1 := Ak.out
    have hs35 : w31.cell? ⟨Ab, 2, none⟩ = some (.slice none 0 0) := (blk_cell Aw.out 2).trans rfl
    have hfs35 := blk_frozen Aw.out 2
    have hns35_0 := Ae.out
    have hns35_1 := Ah.out
    have hms35_0 := Aj.out
    have hms35_1 := Ak.out
    have hs36 : w31.cell? ⟨Ab, 3, none⟩ = some (.int .i64 0) := (blk_cell Aw.out 3).trans rfl
    have hfs36 := blk_frozen Aw.out 3
    have hns36_0 := Ae.out
    have hns36_1 := Ah.out
    have hms36_0 := Aj.out
    have hms36_1 := Ak.out
    have hs37 : w31.cell? ⟨Ab, 4, none⟩ = some (.int .i64 0) := (blk_cell Aw.out 4).trans rfl
    have hfs37 := blk_frozen Aw.out 4
    have hns37_0 := Ae.out
    have hns37_1 := Ah.out
    have hms37_0 := Aj.out
    have hms37_1 := Ak.out
    have hs38 : w31.cell? ⟨Ab, 5, none⟩ = some (.int .i64 0) := (blk_cell Aw.out 5).trans rfl
    have hfs38 := blk_frozen Aw.out 5
    have hns38_0 := Ae.out
    have hns38_1 := Ah.out
    have hms38_0 := Aj.out
    have hms38_1 := Ak.out
    have hs39 : w31.cell? ⟨Ab, 6, none⟩ = some (.int .i64 0) := (blk_cell Aw.out 6).trans rfl
    have hfs39 := blk_frozen Aw.out 6
    have hns39_0 := Ae.out
    have hns39_1 := Ah.out
    have hms39_0 := Aj.out
    have hms39_1 := Ak.out
    refine skip_ (w1 := ?_) (by rfl) rfl ?_ ?_
    rotate_left
    ·go_simp
     rfl
    refine hK.out _ _ ⟨(cX1 hHeld.1 Ae.out), (cX1 hHeld.2.1 Ae.out), (cX1 hHeld.2.2.1 Ae.out), (cX1 hHeld.2.2.2.1 Ae.out), (cX1 hHeld.2.2.2.2.1 Ae.out), (cX1 hHeld.2.2.2.2.2.1 Ae.out), (cX1 hHeld.2.2.2.2.2.2.1 Ae.out), (vXa hHeld.2.2.2.2.2.2.2.1 (vAw As.out hn464_ (by decide) (fun _ hk => hk.2.2.2))), (vXa hHeld.2.2.2.2.2.2.2.2.1 (vAw As.out hn464_ (by decide) (fun _ hk => hk.2.2.2))), (vXa hHeld.2.2.2.2.2.2.2.2.2.1 (vAw As.out hn464_ (by decide) (fun _ hk => hk.2.2.2))), (vXa hHeld.2.2.2.2.2.2.2.2.2.2.1 (vAw As.out hn464_ (by decide) (fun _ hk => hk.2.2.2))), (vXa hHeld.2.2.2.2.2.2.2.2.2.2.2.1 (vAw As.out hn464_ (by decide) (fun _ hk => hk.2.2.2))), (vXa hHeld.2.2.2.2.2.2.2.2.2.2.2.2 (vAw As.out hn464_ (by decide) (fun _ hk => hk.2.2.2)))⟩ (fun hHeld => ?_)
    clear hK K
    refine pui 11 8 12 4095 HT_ ?_
    refine done_ (done_of HT_.out (by kernel_rfl)) ?_
    have hnb40 := Bk.out
    have hnc40 := Bg.out
    have hnb41 := Ae.out
    have hnc41 := Aj.out
    obtain ⟨_, _, _, _, _, _, _⟩ := bc7 Aa.out
    obtain ⟨_, _, _, _, _, _, _⟩ := bf7 Aa.out
    have hnb43 := Ah.out
    have hnc43 := Ak.out
    obtain ⟨_, _, _, _, _, _, _⟩ := bc7 At.out
    obtain ⟨_, _, _, _, _, _, _⟩ := bf7 At.out
    try go_wp2
    refine bodyPost_ret (results_ct rfl _ _ Ai 26 #[.int .i64 Al, .int .i64 An, .slice Bn Ag.length Bo, .int .i64 Ao, .int .i64 Ap, .int .i64 Aq, .int .i64 Ar] (0, 0) _ rfl (kX1 At.out Ah.out) Try.underlying26 rfl (by kernel_rfl)) rfl ?_
    exact ⟨_, pX, by (with_reducible repeat (first | apply Kd.V_alloc | apply Kd.V_drewN | apply Kd.V_drew)); have h0_ := Kd.V_mono (Kd.V_mono Af.out (fun k_ hk => (⟨hk, hk.2.2.2⟩ : _ ∧ k_ ≠ Ab))) (fun k_ hk => (⟨hk, hk.1.2.2.1⟩ : _ ∧ k_ ≠ Ai)); have h1_ := Kd.V_far (p := ⟨Ab, 0, none⟩) h0_ (fun _ hk => hk.1.2) (.int .i64 t465); have h2_ := Kd.V_far (p := ⟨Ab, 1, none⟩) h1_ (fun _ hk => hk.1.2) (.int .i64 t466); have h3_ := Kd.V_far (p := ⟨Ab, 2, none⟩) h2_ (fun _ hk => hk.1.2) (.slice B0 t467.length B1); have h4_ := Kd.V_far (p := ⟨Ab, 3, none⟩) h3_ (fun _ hk => hk.1.2) (.int .i64 t470); have h5_ := Kd.V_far (p := ⟨Ab, 4, none⟩) h4_ (fun _ hk => hk.1.2) (.int .i64 t471); have h6_ := Kd.V_far (p := ⟨Ab, 5, none⟩) h5_ (fun _ hk => hk.1.2) (.int .i64 t472); have h7_ := Kd.V_far (p := ⟨Ab, 6, none⟩) h6_ (fun _ hk => hk.1.2) (.int .i64 t473); exact Kd.V_mono (Vf7 (g := Ai) (h7_) (fun _ hk => hk.2)) (fun _ hk => hk.1.1.1), pE3 HB.out Ax.out Ay.out Az.out⟩
   rw [if_pos c8] at H
   obtain ⟨c8b0, c8b1⟩ := zc c8
   clear c8
   have H' := Am H
   clear H
   obtain ⟨Bp, Bq, B5⟩ := Kd.V_slice Af.out
   subst B5
   try go_wp2
   replace As := dVa As
   replace Af := dVa Af
   replace Aa := kDa Aa
   replace At := kDa At
   replace HB := bDa HB
   have p464 : 0 ≤ (Ac : Int) := of_decide_eq_true pS
   have q464 : Ac < (l1.length : Int) := of_decide_eq_true pS
   have hn464_ : 0 < l1.length := by omega
   obtain ⟨Au, A0, c464_1, e464, Bb, Ba, Bc, Bd, Be, Bf, Bi, Bj⟩ := at_T34 (Kd.V_reads' As.out).2.2 Ac p464 q464
   cases e464
   obtain ⟨ce464, hce464, hMe464, hcc464⟩ := Kd.V_get As.out z34 Ac p464 (by first | exact q464 | exact of_decide_eq_true pS | (have e_ := (Kd.V_reads' As.out).1; omega))
   obtain ⟨ua464_1, uc464_1, rfl, ul464_1, ge464_1⟩ := k34_openF hMe464
   have hv464_1 := hcc464 1 _ rfl
   rw [add_field _ _ 1 (by omega)] at hv464_1
   replace hv464_1 := Option.some.inj (hv464_1.symm.trans Ba)
   injection hv464_1 with hva_ hvn_ hvc_
   rw [hva_] at ge464_1
   rw [hvc_] at ul464_1
   have HL464_1 := Am (show Kd.V k54 54 _ w.heap.size _ _ ((rd_T34 l1 Ac).f1) from Kd.V_mk ul464_1 ge464_1)
   clear hva_ hvn_ hvc_ ge464_1 ul464_1
   clear hcc464 hce464
   have Av := Am Bj
   have Br := Am Bi
   clear Bj Bi
   replace p464 := eq_true p464
   replace q464 := eq_true q464
   refine start_ (n := 12) (S := fun w' => cG w' Ad 0 (.int .i64 Al) ∧ cG w' Ad 1 (.int .i64 An) ∧ cG w' Ad 2 (.slice Bp Ag.length Bq) ∧ cG w' Ad 3 (.int .i64 Ao) ∧ cG w' Ad 4 (.int .i64 Ap) ∧ cG w' Ad 5 (.int .i64 Aq) ∧ cG w' Ad 6 (.int .i64 Ar) ∧ w'.cell? (Au.add ((Ac).toNat * 6)) = some (.int .i64 ((rd_T34 l1 Ac).f0)) ∧ cA w' (Au.add ((Ac).toNat * 6)) 1 (.slice A0 ((rd_T34 l1 Ac).f1).length c464_1) ∧ cA w' (Au.add ((Ac).toNat * 6)) 2 (.int .i64 ((rd_T34 l1 Ac).f2.f0)) ∧ cA w' (Au.add ((Ac).toNat * 6)) 3 (.int .i64 ((rd_T34 l1 Ac).f2.f1)) ∧ cA w' (Au.add ((Ac).toNat * 6)) 4 (.int .i64 ((rd_T34 l1 Ac).f2.f2)) ∧ cA w' (Au.add ((Ac).toNat * 6)) 5 (.int .i64 ((rd_T34 l1 Ac).f3))) (ds := []) #[false, false, false, false, false, false, false, false, false, false, false, false] (by kernel_rfl) rfl rfl ⟨(blk_cell Aa.out 0).trans rfl, (blk_cell Aa.out 1).trans rfl, (blk_cell Aa.out 2).trans rfl, (blk_cell Aa.out 3).trans rfl, (blk_cell Aa.out 4).trans rfl, (blk_cell Aa.out 5).trans rfl, (blk_cell Aa.out 6).trans rfl, Bb, Ba, Bc, Bd, Be, Bf⟩ (fun hHeld => ?_); refine with_tabW garnerref24_Make.tab4 garnerref24_Make.bits4 (fun HT_ HW_ => ?_)
   (first | generalize wr.drew = w10 at As Af Aa At HB HL464_1 Av Bb Ba Bc Bd Be Bf hHeld ⊢ | generalize wr.drew = w10 at Aa At HB HL464_1 Av Bb Ba Bc Bd Be Bf hHeld ⊢)
   refine pui 1 17 12 2 HT_ ?_
   refine zp 2 (h := zp 3 (h := zw 0 (h := zw 4 (h := ?_))))
   refine join_ (σ := Value × Nat) 2 #[true, true, true, true, true, true, true, true, true, true, false, false] (fun s_ => [(21, .tuple #[.agg #[.int .i64 t465, .int .i64 t466, s_.1, .int .i64 t470, .int .i64 t471, .int .i64 t472, .int .i64 t473], .int .i64 t474]), (7, .pointer (some ⟨s_.2, 0, none⟩)), (15, .tuple #[.agg #[.int .i64 t465, .int .i64 t466, s_.1, .int .i64 t470, .int .i64 t471, .int .i64 t472, .int .i64 t473], .int .i64 t474]), (22, .agg #[.int .i64 t465, .int .i64 t466, s_.1, .int .i64 t470, .int .i64 t471, .int .i64 t472, .int .i64 t473]), (23, .int .i64 t474)]) (fun s_ w' => (cG w' Ad 0 (.int .i64 Al) ∧ cG w' Ad 1 (.int .i64 An) ∧ cG w' Ad 2 (.slice Bp Ag.length Bq) ∧ cG w' Ad 3 (.int .i64 Ao) ∧ cG w' Ad 4 (.int .i64 Ap) ∧ cG w' Ad 5 (.int .i64 Aq) ∧ cG w' Ad 6 (.int .i64 Ar) ∧ w'.cell? (Au.add ((Ac).toNat * 6)) = some (.int .i64 ((rd_T34 l1 Ac).f0)) ∧ cA w' (Au.add ((Ac).toNat * 6)) 1 (.slice A0 ((rd_T34 l1 Ac).f1).length c464_1) ∧ cA w' (Au.add ((Ac).toNat * 6)) 2 (.int .i64 ((rd_T34 l1 Ac).f2.f0)) ∧ cA w' (Au.add ((Ac).toNat * 6)) 3 (.int .i64 ((rd_T34 l1 Ac).f2.f1)) ∧ cA w' (Au.add ((Ac).toNat * 6)) 4 (.int .i64 ((rd_T34 l1 Ac).f2.f2)) ∧ cA w' (Au.add ((Ac).toNat * 6)) 5 (.int .i64 ((rd_T34 l1 Ac).f3))) ∧ (Kd.V k54 54 w' w.heap.size (fun k_ => ((P0_2_ k_ ∨ P1_ k_) ∨ w.heap.size ≤ k_) ∧ k_ ≠ Ad ∧ k_ ≠ Ai ∧ k_ ≠ s_.2) (.slice A0 ((rd_T34 l1 Ac).f1).length c464_1) ((rd_T34 l1 Ac).f1)) ∧ (Kd.V k54 54 w' w.heap.size (fun k_ => ((P0_2_ k_ ∨ P1_ k_) ∨ w.heap.size ≤ k_) ∧ k_ ≠ Ad ∧ k_ ≠ Ai ∧ k_ ≠ s_.2) s_.1 t467) ∧ (Kd.V k34 34 w' w.heap.size (fun k_ => ((P0_2_ k_ ∨ P1_ k_) ∨ w.heap.size ≤ k_) ∧ k_ ≠ Ad ∧ k_ ≠ Ai ∧ k_ ≠ s_.2) (.slice (some Au) l1.length c1) l1) ∧ (Kd.V k54 54 w' w.heap.size (fun k_ => ((P0_2_ k_ ∨ P1_ k_) ∨ w.heap.size ≤ k_) ∧ k_ ≠ Ad ∧ k_ ≠ Ai ∧ k_ ≠ s_.2) (.slice Bp Ag.length Bq) Ag) ∧ (w'.heap[Ad]? = some (.cells #[.int .i64 Al, .int .i64 An, .slice Bp Ag.length Bq, .int .i64 Ao, .int .i64 Ap, .int .i64 Aq, .int .i64 Ar] 26 (0, 0))) ∧ (w'.heap[Ai]? = some (.cells #[.int .i64 A2, .int .i64 A3, .slice none 0 0, .int .i64 A4, .int .i64 A5, .int .i64 A6, .int .i64 A8] 26 (0, 0))) ∧ (w'.heap[s_.2]? = some (.cells #[.int .i64 0, .int .i64 0, .slice none 0 0, .int .i64 0, .int .i64 0, .int .i64 0, .int .i64 0] 26 (0, 0))) ∧ (w.heap.size ≤ s_.2) ∧ (w.heap.size ≤ s_.2) ∧ (Ad ≠ s_.2) ∧ (s_.2 ≠ Ad) ∧ (Ai ≠ s_.2) ∧ (s_.2 ≠ Ai) ∧ (Below w.heap.size w w')) ?_ ?_
   rotate_left
   ·intro hCont
    refine two_ (i := 5) (j := 9) (Ni := some 21) (Nj := some 7) (bw 12 63) #[true, true, true, true, true, false, false, false, false, true, false, false] rfl rfl rfl rfl (two_of HT_.out (by kernel_rfl)) (by decide) (by decide) (fun K hK => ?_) (fun K hK => ?_)
    ·skip
     refine goes_ Try.func30 (by kernel_rfl) rfl #[.agg #[.int .i64 Al, .int .i64 An, .slice Bp Ag.length Bq, .int .i64 Ao, .int .i64 Ap, .int .i64 Aq, .int .i64 Ar], .agg #[.int .i64 ((rd_T34 l1 Ac).f0), .slice A0 ((rd_T34 l1 Ac).f1).length c464_1, .int .i64 ((rd_T34 l1 Ac).f2.f0), .int .i64 ((rd_T34 l1 Ac).f2.f1), .int .i64 ((rd_T34 l1 Ac).f2.f2), .int .i64 ((rd_T34 l1 Ac).f3)]] (by rfl) rfl rfl pL ?_
     with_reducible refine (garnerref24_do.calls k1 Al An (fun k_ => (((P0_2_ k_ ∨ P1_ k_) ∨ w.heap.size ≤ k_) ∧ (k_ ≠ Ad ∧ k_ ≠ Ai))) _ _ Ag Ao Ap Aq Ar ((rd_T34 l1 Ac).f0) (fun k_ => (((P0_2_ k_ ∨ P1_ k_) ∨ w.heap.size ≤ k_) ∧ (k_ ≠ Ad ∧ k_ ≠ Ai))) _ _ ((rd_T34 l1 Ac).f1) ((rd_T34 l1 Ac).f2.f0) ((rd_T34 l1 Ac).f2.f1) ((rd_T34 l1 Ac).f2.f2) ((rd_T34 l1 Ac).f3) t465 t466 t467 t470 t471 t472 t473 t474 _ ?Bl ?Bm A7.out).mono ?_
     (case Bl => exact Af.out)
     (case Bm => exact HL464_1.out)
     rintro e w11 ⟨v468, rfl, ho0, hb⟩
     have HS7_ := zH hb hHeld.2.2.2.2.2.2.2.1
     have HS8_ := zH hb hHeld.2.2.2.2.2.2.2.2.1
     have HS9_ := zH hb hHeld.2.2.2.2.2.2.2.2.2.1
     have HS10_ := zH hb hHeld.2.2.2.2.2.2.2.2.2.2.1
     have HS11_ := zH hb hHeld.2.2.2.2.2.2.2.2.2.2.2.1
     have HS12_ := zH hb hHeld.2.2.2.2.2.2.2.2.2.2.2.2
     refine ⟨_, rfl, ?_⟩
     replace As := bVa As hb
     replace Af := bVa Af hb
     replace HL464_1 := bVa HL464_1 hb
     have A9 := Am (Kd.V_lower (Kd.V_mono (ok' := fun k_ => ((P0_2_ k_ ∨ P1_ k_) ∨ w.heap.size ≤ k_) ∧ k_ ≠ Ad ∧ k_ ≠ Ai) ho0 (fun k_ hk_ => ⟨Or.elim hk_ (fun hs_ => Or.elim hs_ (fun hs_ => hs_.1) (fun hs_ => hs_.1)) (fun hn_ => (.inr (Nat.le_trans (below_size (pE2 HB.out Ax.out Ay.out)) hn_))), Or.elim hk_ (fun hs_ => Or.elim hs_ (fun hs_ => hs_.2.1) (fun hs_ => hs_.2.1)) (fun hn_ => (kF Aa.out k_ hn_)), Or.elim hk_ (fun hs_ => Or.elim hs_ (fun hs_ => hs_.2.2) (fun hs_ => hs_.2.2)) (fun hn_ => (kF At.out k_ hn_))⟩)) (below_size (pE2 HB.out Ax.out Ay.out)))
     replace Aa := kBa Aa hb
     replace At := kBa At hb
     replace Av := Am (Kd.C_below (by repeat (first | (with_reducible exact Av.out) | (with_reducible refine Kd.C_alloc ?_ _) | (with_reducible refine Kd.C_drewN ?_ _) | (with_reducible refine Kd.C_drew ?_) | exact Av.out)) hb)
     replace HB := zX2 HB Ax.out Ay.out hb
     (try clear hb)
     (try clear hb2)
     (try clear hk)
     (try clear hi)
     (try clear ho0)
     refine hK.out _ _ ⟨(blk_cell Aa.out 0).trans rfl, (blk_cell Aa.out 1).trans rfl, (blk_cell Aa.out 2).trans rfl, (blk_cell Aa.out 3).trans rfl, (blk_cell Aa.out 4).trans rfl, (blk_cell Aa.out 5).trans rfl, (blk_cell Aa.out 6).trans rfl, HS7_, HS8_, HS9_, HS10_, HS11_, HS12_⟩ (fun hHeld => ?_)
     clear hK K
     refine norm_ (a' := ?_) ?_ ?_
     rotate_left
     ·show Act.put _ (some 21) _ = _
      simp only [Act.put, List.setIfInBounds_toArray, List.set_cons_zero, List.set_cons_succ, i64_w, i32_w]
      rfl
     refine pui 6 15 12 127 HT_ ?_
     refine zp 7 (h := zp 8 (h := ?_))
     refine onei 9 7 12 1023 HT_ (fun K hK => ?_)
     refine box_step ?hg (N := 7) ?hd (cs := #[.int .i64 0, .int .i64 0, .slice none 0 0, .int .i64 0, .int .i64 0, .int .i64 0, .int .i64 0]) (t := 26) ?hr ?_; (case hd => rfl); (case hg => rfl); (case hr => first | (go_simp; done) | (go_simp; rfl))
     intro Ab hg w12 hbox hb
     have HS7_ := zH hb hHeld.2.2.2.2.2.2.2.1
     have HS8_ := zH hb hHeld.2.2.2.2.2.2.2.2.1
     have HS9_ := zH hb hHeld.2.2.2.2.2.2.2.2.2.1
     have HS10_ := zH hb hHeld.2.2.2.2.2.2.2.2.2.2.1
     have HS11_ := zH hb hHeld.2.2.2.2.2.2.2.2.2.2.2.1
     have HS12_ := zH hb hHeld.2.2.2.2.2.2.2.2.2.2.2.2
     replace As := Am (Kd.V_below (Kd.V_elderB (pV As.out) Ab (Nat.le_of_eq hg.symm)) hb)
     replace Af := Am (Kd.V_below (Kd.V_elderB (pV Af.out) Ab (Nat.le_of_eq hg.symm)) hb)
     replace HL464_1 := Am (Kd.V_below (Kd.V_elderB (pV HL464_1.out) Ab (Nat.le_of_eq hg.symm)) hb)
     replace A9 := Am (Kd.V_below (Kd.V_elderB (pV A9.out) Ab (Nat.le_of_eq hg.symm)) hb)
     replace Av := Am (Kd.C_below (by repeat (first | (with_reducible exact Av.out) | (with_reducible refine Kd.C_alloc ?_ _) | (with_reducible refine Kd.C_drewN ?_ _) | (with_reducible refine Kd.C_drew ?_) | exact Av.out)) hb)
     have Aw := Am (hbox)
     have Bh := zY2 hg HB Ax.out Ay.out
     have Az := zY2 hg HB Ax.out Ay.out
     replace HB := zX2 HB Ax.out Ay.out hb
     have Ae := Am (zN hg (kL Aa.out))
     have Aj := Am (zM hg (kL Aa.out))
     replace Aa := kBa Aa hb
     have Ah := Am (zN hg (kL At.out))
     have Ak := Am (zM hg (kL At.out))
     replace At := kBa At hb
     clear hb hbox hg
     refine hK.out _ _ ⟨(blk_cell Aa.out 0).trans rfl, (blk_cell Aa.out 1).trans rfl, (blk_cell Aa.out 2).trans rfl, (blk_cell Aa.out 3).trans rfl, (blk_cell Aa.out 4).trans rfl, (blk_cell Aa.out 5).trans rfl, (blk_cell Aa.out 6).trans rfl, HS7_, HS8_, HS9_, HS10_, HS11_, HS12_⟩ (fun hHeld => ?_)
     clear hK K
     refine norm_ (a' := ?_) ?_ ?_
     rotate_left
     ·show Act.put _ (some 7) _ = _
      simp only [Act.put, List.setIfInBounds_toArray, List.set_cons_zero, List.set_cons_succ, i64_w, i32_w]
      rfl
     exact norm_ (by simp only [putAll, Act.put, List.setIfInBounds_toArray, List.set_cons_zero, List.set_cons_succ]) (hCont (v468, Ab) _ ⟨hHeld, (by (with_reducible repeat (first | apply Kd.V_alloc | apply Kd.V_drewN | apply Kd.V_drew)); exact Kd.V_mono HL464_1.out (fun _ hk => ⟨hk.1.1, ⟨hk.1.2.1, ⟨hk.1.2.2, hk.2⟩⟩⟩)), (by (with_reducible repeat (first | apply Kd.V_alloc | apply Kd.V_drewN | apply Kd.V_drew)); exact Kd.V_mono A9.out (fun _ hk => ⟨hk.1.1, ⟨hk.1.2.1, ⟨hk.1.2.2, hk.2⟩⟩⟩)), (by (with_reducible repeat (first | apply Kd.V_alloc | apply Kd.V_drewN | apply Kd.V_drew)); exact Kd.V_mono As.out (fun _ hk => ⟨hk.1.1, ⟨hk.1.2.1, ⟨hk.1.2.2, hk.2⟩⟩⟩)), (by (with_reducible repeat (first | apply Kd.V_alloc | apply Kd.V_drewN | apply Kd.V_drew)); exact Kd.V_mono Af.out (fun _ hk => ⟨hk.1.1, ⟨hk.1.2.1, ⟨hk.1.2.2, hk.2⟩⟩⟩)), (pK Aa.out), (pK At.out), (pK Aw.out), Bh.out, Az.out, Ae.out, Aj.out, Ah.out, Ak.out, (pE3 HB.out Ax.out Ay.out Az.out)⟩)
    skip
    refine box_step ?hg (N := 7) ?hd (cs := #[.int .i64 0, .int .i64 0, .slice none 0 0, .int .i64 0, .int .i64 0, .int .i64 0, .int .i64 0]) (t := 26) ?hr ?_; (case hd => rfl); (case hg => rfl); (case hr => first | (go_simp; done) | (go_simp; rfl))
    intro Ab hg w11 hbox hb
    have HS7_ := zH hb hHeld.2.2.2.2.2.2.2.1
    have HS8_ := zH hb hHeld.2.2.2.2.2.2.2.2.1
    have HS9_ := zH hb hHeld.2.2.2.2.2.2.2.2.2.1
    have HS10_ := zH hb hHeld.2.2.2.2.2.2.2.2.2.2.1
    have HS11_ := zH hb hHeld.2.2.2.2.2.2.2.2.2.2.2.1
    have HS12_ := zH hb hHeld.2.2.2.2.2.2.2.2.2.2.2.2
    replace As := Am (Kd.V_below (Kd.V_elderB (pV As.out) Ab (Nat.le_of_eq hg.symm)) hb)
    replace Af := Am (Kd.V_below (Kd.V_elderB (pV Af.out) Ab (Nat.le_of_eq hg.symm)) hb)
    replace HL464_1 := Am (Kd.V_below (Kd.V_elderB (pV HL464_1.out) Ab (Nat.le_of_eq hg.symm)) hb)
    replace Av := Am (Kd.C_below (by repeat (first | (with_reducible exact Av.out) | (with_reducible refine Kd.C_alloc ?_ _) | (with_reducible refine Kd.C_drewN ?_ _) | (with_reducible refine Kd.C_drew ?_) | exact Av.out)) hb)
    have Aw := Am (hbox)
    have Bh := zY2 hg HB Ax.out Ay.out
    have Az := zY2 hg HB Ax.out Ay.out
    replace HB := zX2 HB Ax.out Ay.out hb
    have Ae := Am (zN hg (kL Aa.out))
    have Aj := Am (zM hg (kL Aa.out))
    replace Aa := kBa Aa hb
    have Ah := Am (zN hg (kL At.out))
    have Ak := Am (zM hg (kL At.out))
    replace At := kBa At hb
    clear hb hbox hg
    refine hK.out _ _ ⟨(blk_cell Aa.out 0).trans rfl, (blk_cell Aa.out 1).trans rfl, (blk_cell Aa.out 2).trans rfl, (blk_cell Aa.out 3).trans rfl, (blk_cell Aa.out 4).trans rfl, (blk_cell Aa.out 5).trans rfl, (blk_cell Aa.out 6).trans rfl, HS7_, HS8_, HS9_, HS10_, HS11_, HS12_⟩ (fun hHeld => ?_)
    clear hK K
    refine norm_ (a' := ?_) ?_ ?_
    rotate_left
    ·show Act.put _ (some 7) _ = _
     simp only [Act.put, List.setIfInBounds_toArray, List.set_cons_zero, List.set_cons_succ, i64_w, i32_w]
     rfl
    refine onei 5 21 12 575 HT_ (fun K hK => ?_)
    refine goes_ Try.func30 (by kernel_rfl) rfl #[.agg #[.int .i64 Al, .int .i64 An, .slice Bp Ag.length Bq, .int .i64 Ao, .int .i64 Ap, .int .i64 Aq, .int .i64 Ar], .agg #[.int .i64 ((rd_T34 l1 Ac).f0), .slice A0 ((rd_T34 l1 Ac).f1).length c464_1, .int .i64 ((rd_T34 l1 Ac).f2.f0), .int .i64 ((rd_T34 l1 Ac).f2.f1), .int .i64 ((rd_T34 l1 Ac).f2.f2), .int .i64 ((rd_T34 l1 Ac).f3)]] (by rfl) rfl rfl pL ?_
    with_reducible refine (garnerref24_do.calls k1 Al An (fun k_ => ((((P0_2_ k_ ∨ P1_ k_) ∨ w.heap.size ≤ k_) ∧ (k_ ≠ Ad ∧ k_ ≠ Ai)) ∧ k_ ≠ Ab)) _ _ Ag Ao Ap Aq Ar ((rd_T34 l1 Ac).f0) (fun k_ => ((((P0_2_ k_ ∨ P1_ k_) ∨ w.heap.size ≤ k_) ∧ (k_ ≠ Ad ∧ k_ ≠ Ai)) ∧ k_ ≠ Ab)) _ _ ((rd_T34 l1 Ac).f1) ((rd_T34 l1 Ac).f2.f0) ((rd_T34 l1 Ac).f2.f1) ((rd_T34 l1 Ac).f2.f2) ((rd_T34 l1 Ac).f3) t465 t466 t467 t470 t471 t472 t473 t474 _ ?Bl ?Bm A7.out).mono ?_
    (case Bl => exact Af.out)
    (case Bm => exact HL464_1.out)
    rintro e w12 ⟨v468, rfl, ho0, hb⟩
    have HS7_ := zH hb hHeld.2.2.2.2.2.2.2.1
    have HS8_ := zH hb hHeld.2.2.2.2.2.2.2.2.1
    have HS9_ := zH hb hHeld.2.2.2.2.2.2.2.2.2.1
    have HS10_ := zH hb hHeld.2.2.2.2.2.2.2.2.2.2.1
    have HS11_ := zH hb hHeld.2.2.2.2.2.2.2.2.2.2.2.1
    have HS12_ := zH hb hHeld.2.2.2.2.2.2.2.2.2.2.2.2
    refine ⟨_, rfl, ?_⟩
    replace As := bVa As hb
    replace Af := bVa Af hb
    replace HL464_1 := bVa HL464_1 hb
    have A9 := Am (Kd.V_lower (Kd.V_mono (ok' := fun k_ => ((P0_2_ k_ ∨ P1_ k_) ∨ w.heap.size ≤ k_) ∧ k_ ≠ Ad ∧ k_ ≠ Ai ∧ k_ ≠ Ab) ho0 (fun k_ hk_ => ⟨Or.elim hk_ (fun hs_ => Or.elim hs_ (fun hs_ => hs_.1.1) (fun hs_ => hs_.1.1)) (fun hn_ => (.inr (Nat.le_trans (below_size (pE3 HB.out Ax.out Ay.out Az.out)) hn_))), Or.elim hk_ (fun hs_ => Or.elim hs_ (fun hs_ => hs_.1.2.1) (fun hs_ => hs_.1.2.1)) (fun hn_ => (kF Aa.out k_ hn_)), Or.elim hk_ (fun hs_ => Or.elim hs_ (fun hs_ => hs_.1.2.2) (fun hs_ => hs_.1.2.2)) (fun hn_ => (kF At.out k_ hn_)), Or.elim hk_ (fun hs_ => Or.elim hs_ (fun hs_ => hs_.2) (fun hs_ => hs_.2)) (fun hn_ => (kF Aw.out k_ hn_))⟩)) (below_size (pE3 HB.out Ax.out Ay.out Az.out)))
    replace Aa := kBa Aa hb
    replace At := kBa At hb
    replace Av := Am (Kd.C_below (by repeat (first | (with_reducible exact Av.out) | (with_reducible refine Kd.C_alloc ?_ _) | (with_reducible refine Kd.C_drewN ?_ _) | (with_reducible refine Kd.C_drew ?_) | exact Av.out)) hb)
    replace Aw := kBa Aw hb
    replace HB := zX3 HB Ax.out Ay.out Az.out hb
    (try clear hb)
    (try clear hb2)
    (try clear hk)
    (try clear hi)
    (try clear ho0)
    refine hK.out _ _ ⟨(blk_cell Aa.out 0).trans rfl, (blk_cell Aa.out 1).trans rfl, (blk_cell Aa.out 2).trans rfl, (blk_cell Aa.out 3).trans rfl, (blk_cell Aa.out 4).trans rfl, (blk_cell Aa.out 5).trans rfl, (blk_cell Aa.out 6).trans rfl, HS7_, HS8_, HS9_, HS10_, HS11_, HS12_⟩ (fun hHeld => ?_)
    clear hK K
    refine norm_ (a' := ?_) ?_ ?_
    rotate_left
    ·show Act.put _ (some 21) _ = _
     simp only [Act.put, List.setIfInBounds_toArray, List.set_cons_zero, List.set_cons_succ, i64_w, i32_w]
     rfl
    refine pui 6 15 12 639 HT_ ?_
    refine zp 7 (h := zp 8 (h := ?_))
    exact norm_ (by simp only [putAll, Act.put, List.setIfInBounds_toArray, List.set_cons_zero, List.set_cons_succ]) (hCont (v468, Ab) _ ⟨hHeld, (by (with_reducible repeat (first | apply Kd.V_alloc | apply Kd.V_drewN | apply Kd.V_drew)); exact Kd.V_mono HL464_1.out (fun _ hk => ⟨hk.1.1, ⟨hk.1.2.1, ⟨hk.1.2.2, hk.2⟩⟩⟩)), (pV A9.out), (by (with_reducible repeat (first | apply Kd.V_alloc | apply Kd.V_drewN | apply Kd.V_drew)); exact Kd.V_mono As.out (fun _ hk => ⟨hk.1.1, ⟨hk.1.2.1, ⟨hk.1.2.2, hk.2⟩⟩⟩)), (by (with_reducible repeat (first | apply Kd.V_alloc | apply Kd.V_drewN | apply Kd.V_drew)); exact Kd.V_mono Af.out (fun _ hk => ⟨hk.1.1, ⟨hk.1.2.1, ⟨hk.1.2.2, hk.2⟩⟩⟩)), (pK Aa.out), (pK At.out), (pK Aw.out), Bh.out, Az.out, Ae.out, Aj.out, Ah.out, Ak.out, (pE3 HB.out Ax.out Ay.out Az.out)⟩)
   rintro ⟨v468, Ab⟩ w13 ⟨hS_, h0_, h1_, h2_, h3_, h4_, h5_, h6_, h7_, h8_, h9_, h10_, h11_, h12_, h13_⟩
   have HL464_1 : Aside0 (Kd.V k54 54 w13 w.heap.size (fun k_ => ((P0_2_ k_ ∨ P1_ k_) ∨ w.heap.size ≤ k_) ∧ k_ ≠ Ad ∧ k_ ≠ Ai ∧ k_ ≠ Ab) (.slice A0 ((rd_T34 l1 Ac).f1).length c464_1) ((rd_T34 l1 Ac).f1)) := ⟨h0_⟩
   have A9 : Aside0 (Kd.V k54 54 w13 w.heap.size (fun k_ => ((P0_2_ k_ ∨ P1_ k_) ∨ w.heap.size ≤ k_) ∧ k_ ≠ Ad ∧ k_ ≠ Ai ∧ k_ ≠ Ab) v468 t467) := ⟨h1_⟩
   replace As : Aside0 (Kd.V k34 34 w13 w.heap.size (fun k_ => ((P0_2_ k_ ∨ P1_ k_) ∨ w.heap.size ≤ k_) ∧ k_ ≠ Ad ∧ k_ ≠ Ai ∧ k_ ≠ Ab) (.slice (some Au) l1.length c1) l1) := ⟨h2_⟩
   replace Af : Aside0 (Kd.V k54 54 w13 w.heap.size (fun k_ => ((P0_2_ k_ ∨ P1_ k_) ∨ w.heap.size ≤ k_) ∧ k_ ≠ Ad ∧ k_ ≠ Ai ∧ k_ ≠ Ab) (.slice Bp Ag.length Bq) Ag) := ⟨h3_⟩
   replace Aa : Aside0 (w13.heap[Ad]? = some (.cells #[.int .i64 Al, .int .i64 An, .slice Bp Ag.length Bq, .int .i64 Ao, .int .i64 Ap, .int .i64 Aq, .int .i64 Ar] 26 (0, 0))) := ⟨h4_⟩
   replace At : Aside0 (w13.heap[Ai]? = some (.cells #[.int .i64 A2, .int .i64 A3, .slice none 0 0, .int .i64 A4, .int .i64 A5, .int .i64 A6, .int .i64 A8] 26 (0, 0))) := ⟨h5_⟩
   have Aw : Aside0 (w13.heap[Ab]? = some (.cells #[.int .i64 0, .int .i64 0, .slice none 0 0, .int .i64 0, .int .i64 0, .int .i64 0, .int .i64 0] 26 (0, 0))) := ⟨h6_⟩
   have Bh : Aside0 (w.heap.size ≤ Ab) := ⟨h7_⟩
   have Az : Aside0 (w.heap.size ≤ Ab) := ⟨h8_⟩
   have Ae : Aside0 (Ad ≠ Ab) := ⟨h9_⟩
   have Aj : Aside0 (Ab ≠ Ad) := ⟨h10_⟩
   have Ah : Aside0 (Ai ≠ Ab) := ⟨h11_⟩
   have Ak : Aside0 (Ab ≠ Ai) := ⟨h12_⟩
   replace HB : Aside0 (Below w.heap.size w w13) := ⟨h13_⟩
   clear h0_ h1_ h2_ h3_ h4_ h5_ h6_ h7_ h8_ h9_ h10_ h11_ h12_ h13_
   have hHeld : w13.cell? ⟨Ad, 0, none⟩ = some (.int .i64 Al) ∧ w13.cell? ⟨Ad, 1, none⟩ = some (.int .i64 An) ∧ w13.cell? ⟨Ad, 2, none⟩ = some (.slice Bp Ag.length Bq) ∧ w13.cell? ⟨Ad, 3, none⟩ = some (.int .i64 Ao) ∧ w13.cell? ⟨Ad, 4, none⟩ = some (.int .i64 Ap) ∧ w13.cell? ⟨Ad, 5, none⟩ = some (.int .i64 Aq) ∧ w13.cell? ⟨Ad, 6, none⟩ = some (.int .i64 Ar) ∧ w13.cell? (Au.add ((Ac).toNat * 6)) = some (.int .i64 ((rd_T34 l1 Ac).f0)) ∧ w13.cell? ⟨(Au.add ((Ac).toNat * 6)).block, (Au.add ((Ac).toNat * 6)).off + 1, none⟩ = some (.slice A0 ((rd_T34 l1 Ac).f1).length c464_1) ∧ w13.cell? ⟨(Au.add ((Ac).toNat * 6)).block, (Au.add ((Ac).toNat * 6)).off + 2, none⟩ = some (.int .i64 ((rd_T34 l1 Ac).f2.f0)) ∧ w13.cell? ⟨(Au.add ((Ac).toNat * 6)).block, (Au.add ((Ac).toNat * 6)).off + 3, none⟩ = some (.int .i64 ((rd_T34 l1 Ac).f2.f1)) ∧ w13.cell? ⟨(Au.add ((Ac).toNat * 6)).block, (Au.add ((Ac).toNat * 6)).off + 4, none⟩ = some (.int .i64 ((rd_T34 l1 Ac).f2.f2)) ∧ w13.cell? ⟨(Au.add ((Ac).toNat * 6)).block, (Au.add ((Ac).toNat * 6)).off + 5, none⟩ = some (.int .i64 ((rd_T34 l1 Ac).f3)) := hS_
   obtain ⟨Bs, Bt, Bv⟩ := Kd.V_slice A9.out
   (first | subst Bv | (injection Bv with f1_ f2_ f3_; have f4_ := f1_.symm; have f5_ := f3_.symm; clear f1_ f2_ f3_; subst f4_; subst f5_))
   refine norm_ (a' := ?_) ?_ ?_
   rotate_left
   ·simp only [putAll, Act.put, List.setIfInBounds_toArray, List.set_cons_zero, List.set_cons_succ]
    rfl
   refine one_ (i := 10) (N := none) (bw 12 2047) rfl rfl (one_of HT_.out (by kernel_rfl)) (by decide) (fun K hK => ?_)
   have hs14 : w13.cell? ⟨Ab, 0, none⟩ = some (.int .i64 0) := (blk_cell Aw.out 0).trans rfl
   have hfs14 := blk_frozen Aw.out 0
   have hns14_0 := Ae.out
   have hns14_1 := Ah.out
   have hms14_0 := Aj.out
   have hms14_1 := Ak.out
   have hs15 : w13.cell? ⟨Ab, 1, none⟩ = some (.int .i64 0) := (blk_cell Aw.out 1).trans rfl
   have hfs15 := blk_frozen Aw.out 1
   have hns15_0 := Ae.out
   have hns15_1 := Ah.out
   have hms15_0 := Aj.out
   have hms15_1 := Ak.out
   have hs17 : w13.cell? ⟨Ab, 2, none⟩ = some (.slice none 0 0) := (blk_cell Aw.out 2).trans rfl
   have hfs17 := blk_frozen Aw.out 2
   have hns17_0 := Ae.out
   have hns17_1 := Ah.out
   have hms17_0 := Aj.out
   have hms17_1 := Ak.out
   have hs18 : w13.cell? ⟨Ab, 3, none⟩ = some (.int .i64 0) := (blk_cell Aw.out 3).trans rfl
   have hfs18 := blk_frozen Aw.out 3
   have hns18_0 := Ae.out
   have hns18_1 := Ah.out
   have hms18_0 := Aj.out
   have hms18_1 := Ak.out
   have hs19 : w13.cell? ⟨Ab, 4, none⟩ = some (.int .i64 0) := (blk_cell Aw.out 4).trans rfl
   have hfs19 := blk_frozen Aw.out 4
   have hns19_0 := Ae.out
   have hns19_1 := Ah.out
   have hms19_0 := Aj.out
   have hms19_1 := Ak.out
   have hs20 : w13.cell? ⟨Ab, 5, none⟩ = some (.int .i64 0) := (blk_cell Aw.out 5).trans rfl
   have hfs20 := blk_frozen Aw.out 5
   have hns20_0 := Ae.out
   have hns20_1 := Ah.out
   have hms20_0 := Aj.out
   have hms20_1 := Ak.out
   have hs21 : w13.cell? ⟨Ab, 6, none⟩ = some (.int .i64 0) := (blk_cell Aw.out 6).trans rfl
   have hfs21 := blk_frozen Aw.out 6
   have hns21_0 := Ae.out
   have hns21_1 := Ah.out
   have hms21_0 := Aj.out
   have hms21_1 := Ak.out
   refine skip_ (w1 := ?_) (by rfl) rfl ?_ ?_
   rotate_left
   ·go_simp
    rfl
   refine hK.out _ _ ⟨(cX1 hHeld.1 Ae.out), (cX1 hHeld.2.1 Ae.out), (cX1 hHeld.2.2.1 Ae.out), (cX1 hHeld.2.2.2.1 Ae.out), (cX1 hHeld.2.2.2.2.1 Ae.out), (cX1 hHeld.2.2.2.2.2.1 Ae.out), (cX1 hHeld.2.2.2.2.2.2.1 Ae.out), (vXa hHeld.2.2.2.2.2.2.2.1 (vAw As.out hn464_ (by decide) (fun _ hk => hk.2.2.2))), (vXa hHeld.2.2.2.2.2.2.2.2.1 (vAw As.out hn464_ (by decide) (fun _ hk => hk.2.2.2))), (vXa hHeld.2.2.2.2.2.2.2.2.2.1 (vAw As.out hn464_ (by decide) (fun _ hk => hk.2.2.2))), (vXa hHeld.2.2.2.2.2.2.2.2.2.2.1 (vAw As.out hn464_ (by decide) (fun _ hk => hk.2.2.2))), (vXa hHeld.2.2.2.2.2.2.2.2.2.2.2.1 (vAw As.out hn464_ (by decide) (fun _ hk => hk.2.2.2))), (vXa hHeld.2.2.2.2.2.2.2.2.2.2.2.2 (vAw As.out hn464_ (by decide) (fun _ hk => hk.2.2.2)))⟩ (fun hHeld => ?_)
   clear hK K
   refine pui 11 8 12 4095 HT_ ?_
   refine done_ (done_of HT_.out (by kernel_rfl)) ?_
   have hnb22 := Aj.out
   have hnc22 := Ae.out
   have hnb23 := Ak.out
   have hnc23 := Ah.out
   obtain ⟨_, _, _, _, _, _, _⟩ := bc7 Aw.out
   obtain ⟨_, _, _, _, _, _, _⟩ := bf7 Aw.out
   have hnb25 := Bk.out
   have hnc25 := Bg.out
   obtain ⟨_, _, _, _, _, _, _⟩ := bc7 Aa.out
   obtain ⟨_, _, _, _, _, _, _⟩ := bf7 Aa.out
   try go_wp2
   go_roundg k1
   case measure => have := HK1.out; omega
   case rel => exact ⟨(wrap64 (Ac + 1)), (t465), (t466), (t467), (t470), (t471), (t472), (t473), (A2), (A3), (A4), (A5), (A6), (A8), (.slice Bs t467.length Bt), zr, H', ⟨by have := HK1.out; omega⟩, ⟨by (with_reducible repeat (first | apply Kd.V_alloc | apply Kd.V_drewN | apply Kd.V_drew)); have h0_ := Kd.V_mono (Kd.V_mono As.out (fun k_ hk => (⟨hk, hk.2.2.2⟩ : _ ∧ k_ ≠ Ab))) (fun k_ hk => (⟨hk, hk.1.2.1⟩ : _ ∧ k_ ≠ Ad)); have h1_ := Kd.V_far (p := ⟨Ab, 0, none⟩) h0_ (fun _ hk => hk.1.2) (.int .i64 t465); have h2_ := Kd.V_far (p := ⟨Ab, 1, none⟩) h1_ (fun _ hk => hk.1.2) (.int .i64 t466); have h3_ := Kd.V_far (p := ⟨Ab, 2, none⟩) h2_ (fun _ hk => hk.1.2) (.slice Bs t467.length Bt); have h4_ := Kd.V_far (p := ⟨Ab, 3, none⟩) h3_ (fun _ hk => hk.1.2) (.int .i64 t470); have h5_ := Kd.V_far (p := ⟨Ab, 4, none⟩) h4_ (fun _ hk => hk.1.2) (.int .i64 t471); have h6_ := Kd.V_far (p := ⟨Ab, 5, none⟩) h5_ (fun _ hk => hk.1.2) (.int .i64 t472); have h7_ := Kd.V_far (p := ⟨Ab, 6, none⟩) h6_ (fun _ hk => hk.1.2) (.int .i64 t473); exact Kd.V_mono (Vf7 (g := Ad) (h7_) (fun _ hk => hk.2)) (fun _ hk => ⟨hk.1.1.1, ⟨hk.1.1.2.1, hk.1.1.2.2.1⟩⟩)⟩, ⟨by (with_reducible repeat (first | apply Kd.V_alloc | apply Kd.V_drewN | apply Kd.V_drew)); have h0_ := Kd.V_mono (Kd.V_mono A9.out (fun k_ hk => (⟨hk, hk.2.2.2⟩ : _ ∧ k_ ≠ Ab))) (fun k_ hk => (⟨hk, hk.1.2.1⟩ : _ ∧ k_ ≠ Ad)); have h1_ := Kd.V_far (p := ⟨Ab, 0, none⟩) h0_ (fun _ hk => hk.1.2) (.int .i64 t465); have h2_ := Kd.V_far (p := ⟨Ab, 1, none⟩) h1_ (fun _ hk => hk.1.2) (.int .i64 t466); have h3_ := Kd.V_far (p := ⟨Ab, 2, none⟩) h2_ (fun _ hk => hk.1.2) (.slice Bs t467.length Bt); have h4_ := Kd.V_far (p := ⟨Ab, 3, none⟩) h3_ (fun _ hk => hk.1.2) (.int .i64 t470); have h5_ := Kd.V_far (p := ⟨Ab, 4, none⟩) h4_ (fun _ hk => hk.1.2) (.int .i64 t471); have h6_ := Kd.V_far (p := ⟨Ab, 5, none⟩) h5_ (fun _ hk => hk.1.2) (.int .i64 t472); have h7_ := Kd.V_far (p := ⟨Ab, 6, none⟩) h6_ (fun _ hk => hk.1.2) (.int .i64 t473); exact Kd.V_mono (Vf7 (g := Ad) (h7_) (fun _ hk => hk.2)) (fun _ hk => ⟨hk.1.1.1, ⟨hk.1.1.2.1, hk.1.1.2.2.1⟩⟩)⟩, ⟨kX1 Aa.out Ae.out⟩, ⟨kX2 At.out Bg.out Ah.out⟩, ⟨pE3 HB.out Ax.out Ay.out Az.out⟩⟩
end
end Go.Proofs.Ytmcijphmcobjlaa.PWalMakes
