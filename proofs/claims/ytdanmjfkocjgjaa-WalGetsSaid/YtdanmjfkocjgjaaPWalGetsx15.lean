/- What the law reaches, as plain Lean functions, and that the machine's calls answer just that. -/
import Derived.Test.YtdanmjfkocjgjaaPWalGetsx0
import Derived.Test.YtdanmjfkocjgjaaPWalGetsx2
import Derived.Test.YtdanmjfkocjgjaaPWalGetsx14
namespace Go.Proofs.Ytdanmjfkocjgjaa.PWalGets
open Go.RowKit Go.Proofs.YtdanmjfkocjgjaaW.PrintWords Go.Proofs.YtdanmjfkocjgjaaW.PrintLast Go.Proofs.YtdanmjfkocjgjaaW.PrintMore
attribute [local go_sem] max2_int min2_int max_two min_two max_three min_three max_four min_four
set_option linter.unusedVariables false
set_option linter.unusedSimpArgs false
attribute [local go_sem] wrap64_l1 wrap64_l2 wrap64_l3 wrap64_l4 wrap64_l5
attribute [local go_sem high] eqA48
def garnerref05_May.f (a0_0 : Bool) (l0_1 : List Int) (a0_2 : Int) (a0_3 : Int) (a0_4 : Int) (a0_5 : Int) : Option (Bool) := if a0_0 = true then (if (l0_1.length : Int) = 0 then ((garnerref04_May.f a0_2 a0_3 a0_4 a0_5).bind fun t387 => (some t387)) else (some false)) else (if (l0_1.length : Int) ≤ 32 then (some (a0_2 == 0 && (a0_3 == 0 && (a0_4 == 0 && (a0_5 == 0))))) else (some false))
set_option maxHeartbeats 8000000 in
set_option maxRecDepth 100000 in
theorem garnerref05_May.calls (a0_0 : Bool) (A0_1 : Option Addr) (c0_1 : Nat) (l0_1 : List Int) (a0_2 : Int) (a0_3 : Int) (a0_4 : Int) (a0_5 : Int) (r : Bool) (w : World) (hr0_1 : Kd.C (Kd.int .u8) w A0_1 l0_1.length l0_1) (hc0_1 : l0_1.length ≤ c0_1) (h : garnerref05_May.f a0_0 l0_1 a0_2 a0_3 a0_4 a0_5 = some r) :
 Calls Try.prog 71 #[.agg #[.bool a0_0, .slice A0_1 l0_1.length c0_1, .int .i64 a0_2, .int .i64 a0_3, .int .i64 a0_4, .int .u32 a0_5]] w fun e w' => e = .returned (.bool r) ∧ Below w.heap.size w w' := by
 have hu50 := Try.underlying50
 have hu48 := Try.underlying48
 have HR0_1 := Am hr0_1
 have HC0_1 := Am hc0_1
 clear hr0_1 hc0_1
 have HB := Am (Below.refl w.heap.size w)
 unfold garnerref05_May.f at h
 have H := h
 clear h
 by_cases c2 : a0_0 = true
 rotate_left
 ·replace c2 := Bool.eq_false_iff.mpr c2
  subst c2
  rw [if_neg zF] at H
  by_cases c10 : (l0_1.length : Int) ≤ 32
  ·rw [if_pos c10] at H
   have c10b0 := decide_eq_true c10
   have c10b1 : decide (l0_1.length ≤ 32) = true := decide_eq_true (by omega)
   clear c10
   obtain rfl := Option.some.inj H
   go_enter Try.func71, Try.ntmps71
   go_wp2_with (first | ((with_reducible refine gate_dst (N := 1) rfl ?_); refine zE 1 #[.bool false, .slice A0_1 l0_1.length c0_1, .int .i64 a0_2, .int .i64 a0_3, .int .i64 a0_4, .int .u32 a0_5] 50 ?_; intro Ac hg w11 hbox hb; have Aa := Am (hbox); have Ad := Am (zG hg (below_size (pB HB.out))); replace HB := Am (below_step (pB HB.out) hb); have Ab := Ad; clear hb hbox hg; obtain ⟨_, _, _, _, _, _⟩ := bc6 Aa.out; obtain ⟨_, _, _, _, _, _⟩ := bf6 Aa.out))
   go_ret
   exact ⟨pX, pE HB.out Ab.out⟩
  rw [if_neg c10] at H
  have c10b0 := decide_eq_false c10
  have c10b1 : decide (l0_1.length ≤ 32) = false := decide_eq_false (by omega)
  clear c10
  obtain rfl := Option.some.inj H
  go_enter Try.func71, Try.ntmps71
  go_wp2_with (first | ((with_reducible refine gate_dst (N := 1) rfl ?_); refine zE 1 #[.bool false, .slice A0_1 l0_1.length c0_1, .int .i64 a0_2, .int .i64 a0_3, .int .i64 a0_4, .int .u32 a0_5] 50 ?_; intro Ac hg w13 hbox hb; have Aa := Am (hbox); have Ad := Am (zG hg (below_size (pB HB.out))); replace HB := Am (below_step (pB HB.out) hb); have Ab := Ad; clear hb hbox hg; obtain ⟨_, _, _, _, _, _⟩ := bc6 Aa.out; obtain ⟨_, _, _, _, _, _⟩ := bf6 Aa.out))
  go_ret
  exact ⟨pX, pE HB.out Ab.out⟩
 subst c2
 rw [if_pos rfl] at H
 by_cases c3 : (l0_1.length : Int) = 0
 rotate_left
 ·rw [if_neg c3] at H
  have c3b0 := beq_eq_false_iff_ne.mpr c3
  have c3b1 := bne_iff_ne.mpr c3
  have c3b2 : ¬ (l0_1 = []) := fun h_ => c3 (by rw [h_]; rfl)
  obtain rfl := Option.some.inj H
  go_enter Try.func71, Try.ntmps71
  go_wp2_with (first | ((with_reducible refine gate_dst (N := 1) rfl ?_); refine zE 1 #[.bool true, .slice A0_1 l0_1.length c0_1, .int .i64 a0_2, .int .i64 a0_3, .int .i64 a0_4, .int .u32 a0_5] 50 ?_; intro Ac hg w8 hbox hb; have Aa := Am (hbox); have Ad := Am (zG hg (below_size (pB HB.out))); replace HB := Am (below_step (pB HB.out) hb); have Ab := Ad; clear hb hbox hg; obtain ⟨_, _, _, _, _, _⟩ := bc6 Aa.out; obtain ⟨_, _, _, _, _, _⟩ := bf6 Aa.out))
  go_ret
  exact ⟨pX, pE HB.out Ab.out⟩
 rw [if_pos c3] at H
 have c3b0 := beq_iff_eq.mpr c3
 have c3b1 := bne_eq_false_iff_eq.mpr c3
 clear c3
 replace H := Option.bind_eq_some_iff.mp H
 obtain ⟨t387, A40, H⟩ := H
 have A4 := Am A40
 clear A40
 obtain rfl := Option.some.inj H
 go_enter Try.func71, Try.ntmps71
 go_wp2_with (first | ((with_reducible refine gate_dst (N := 1) rfl ?_); refine zE 1 #[.bool true, .slice A0_1 l0_1.length c0_1, .int .i64 a0_2, .int .i64 a0_3, .int .i64 a0_4, .int .u32 a0_5] 50 ?_; intro Ac hg w5 hbox hb; have Aa := Am (hbox); have Ad := Am (zG hg (below_size (pB HB.out))); replace HB := Am (below_step (pB HB.out) hb); have Ab := Ad; clear hb hbox hg; obtain ⟨_, _, _, _, _, _⟩ := bc6 Aa.out; obtain ⟨_, _, _, _, _, _⟩ := bf6 Aa.out) | (go_at_call 81; (with_reducible refine (garnerref04_May.calls a0_2 a0_3 a0_4 a0_5 t387 _ A4.out).mono ?_); rintro e w7 ⟨rfl, hb⟩; replace Aa := kBa Aa hb; replace HB := Am (below_step (pE HB.out Ab.out) hb); (try clear hb); (try clear hb2); (try clear hk); (try clear hi)))
 go_ret
 exact ⟨pX, pE HB.out Ab.out⟩
def garnerref06_May.j0 : Nat → Bool → Int → Int → Int → ByteArray → Bool → List Int → Int → Int → Int → Int → Option (Bool)
 | 0, _, _, _, _, _, _, _, _, _, _, _ => none
 | k + 1, x32, x389000, x389001, x389002, x389003, x389004, x389005, x389006, x389007, x389008, x389009 => if x32 = true then (some false) else (if x389002 = 0 then (some (x389003.toList == ([] : List UInt8))) else (if x389002 = 2 then (if x389003.toList = ([] : List UInt8) then (some false) else ((garnerref05_Same.f k x389004 x389005 x389006 x389007 x389008 x389009 false ([] : List Int) 0 0 0 0).bind fun t390 => (some t390))) else (if x389002 = 1 then (some (x389003.toList != ([] : List UInt8))) else (some false))))
def garnerref06_May.f (k : Nat) (a0_0 : Int) (a0_1 : Int) (a0_2 : Int) (a0_3 : ByteArray) (a0_4 : Bool) (l0_5 : List Int) (a0_6 : Int) (a0_7 : Int) (a0_8 : Int) (a0_9 : Int) : Option (Bool) := if a0_0 < 1 then (garnerref06_May.j0 k true a0_0 a0_1 a0_2 a0_3 a0_4 l0_5 a0_6 a0_7 a0_8 a0_9) else (if a0_0 > 2147483647 then (garnerref06_May.j0 k true a0_0 a0_1 a0_2 a0_3 a0_4 l0_5 a0_6 a0_7 a0_8 a0_9) else (if a0_1 < 1 then (garnerref06_May.j0 k true a0_0 a0_1 a0_2 a0_3 a0_4 l0_5 a0_6 a0_7 a0_8 a0_9) else (if a0_1 > 2147483647 then (garnerref06_May.j0 k true a0_0 a0_1 a0_2 a0_3 a0_4 l0_5 a0_6 a0_7 a0_8 a0_9) else ((garnerref05_May.f a0_4 l0_5 a0_6 a0_7 a0_8 a0_9).bind fun t389 => (if t389 = true then (garnerref06_May.j0 k (decide ((a0_3.size : Int) > 64)) a0_0 a0_1 a0_2 a0_3 a0_4 l0_5 a0_6 a0_7 a0_8 a0_9) else (garnerref06_May.j0 k true a0_0 a0_1 a0_2 a0_3 a0_4 l0_5 a0_6 a0_7 a0_8 a0_9))))))
theorem garnerref06_May.mono_l : ∀ k, (∀ y0 y1 y2 y3 y4 y5 y6 y7 y8 y9 y10, LeO (garnerref06_May.j0 k y0 y1 y2 y3 y4 y5 y6 y7 y8 y9 y10) (garnerref06_May.j0 (k + 1) y0 y1 y2 y3 y4 y5 y6 y7 y8 y9 y10))
 | 0 => fun _ _ _ _ _ _ _ _ _ _ _ r h => by simp [garnerref06_May.j0] at h
 | k + 1 => by
  have ih0 := garnerref06_May.mono_l k
  ·intro y0 y1 y2 y3 y4 y5 y6 y7 y8 y9 y10
   unfold garnerref06_May.j0
   repeat' (with_reducible first | exact ih0 .. | exact garnerref05_Same.mono .. | exact LeO.refl .. | exact LeO.none .. | refine LeO.ite ?_ ?_ | refine LeO.bind ?_ (fun _ => ?_))
theorem garnerref06_May.mono : ∀ a0 a1 a2 a3 a4 a5 a6 a7 a8 a9 k, LeO (garnerref06_May.f k a0 a1 a2 a3 a4 a5 a6 a7 a8 a9) (garnerref06_May.f (k + 1) a0 a1 a2 a3 a4 a5 a6 a7 a8 a9) := by
 intro a0 a1 a2 a3 a4 a5 a6 a7 a8 a9 k
 have ih0 := garnerref06_May.mono_l k
 unfold garnerref06_May.f
 repeat' (with_reducible first | exact ih0 .. | exact garnerref05_Same.mono .. | exact LeO.refl .. | exact LeO.none .. | refine LeO.ite ?_ ?_ | refine LeO.bind ?_ (fun _ => ?_))
set_option maxHeartbeats 8000000 in
set_option maxRecDepth 100000 in
theorem garnerref06_May.calls (k : Nat) (a0_0 : Int) (a0_1 : Int) (a0_2 : Int) (a0_3 : ByteArray) (a0_4 : Bool) (A0_5 : Option Addr) (c0_5 : Nat) (l0_5 : List Int) (a0_6 : Int) (a0_7 : Int) (a0_8 : Int) (a0_9 : Int) (r : Bool) (w : World) (hr0_5 : Kd.C (Kd.int .u8) w A0_5 l0_5.length l0_5) (hc0_5 : l0_5.length ≤ c0_5) (h : garnerref06_May.f k a0_0 a0_1 a0_2 a0_3 a0_4 l0_5 a0_6 a0_7 a0_8 a0_9 = some r) :
 Calls Try.prog 54 #[.agg #[.int .i64 a0_0, .int .i64 a0_1, .int .i64 a0_2, .string a0_3, .bool a0_4, .slice A0_5 l0_5.length c0_5, .int .i64 a0_6, .int .i64 a0_7, .int .i64 a0_8, .int .u32 a0_9]] w fun e w' => e = .returned (.bool r) ∧ Below w.heap.size w w' := by
 have hu52 := Try.underlying52
 have hu50 := Try.underlying50
 have Af := Am hr0_5
 have Ag := Am hc0_5
 clear hr0_5 hc0_5
 have HB := Am (Below.refl w.heap.size w)
 unfold garnerref06_May.f at h
 have H := h
 clear h
 have HC2 := Am H
 clear H
 go_enter Try.func54, Try.ntmps54
 go_upto_region 1 with (first | ((with_reducible refine gate_dst (N := 1) rfl ?_); (try (refine gate_guard (by rfl) ?_; dsimp only)); refine zE 1 #[.int .i64 a0_0, .int .i64 a0_1, .int .i64 a0_2, .string a0_3, .bool a0_4, .slice A0_5 l0_5.length c0_5, .int .i64 a0_6, .int .i64 a0_7, .int .i64 a0_8, .int .u32 a0_9] 52 ?_; intro Cq hg w3 hbox hb; have Aa := Am (hbox); have Ef := Am (zG hg (below_size (pB HB.out))); replace HB := Am (below_step (pB HB.out) hb); have Ab := Ef; clear hb hbox hg))
 (try simp only [Act.put, List.setIfInBounds_toArray, List.set_cons_zero, List.set_cons_succ])
 go_cut [32] (fun v32 wc => ∃ (kq : Nat) (Ae : Bool), v32 = .bool Ae ∧ Aside0 (garnerref06_May.j0 kq Ae a0_0 a0_1 a0_2 a0_3 a0_4 l0_5 a0_6 a0_7 a0_8 a0_9 = some r) ∧ Aside0 (kq ≤ k) ∧ Aside0 (wc.heap[Cq]? = some (.cells #[.int .i64 a0_0, .int .i64 a0_1, .int .i64 a0_2, .string a0_3, .bool a0_4, (.slice A0_5 l0_5.length c0_5), .int .i64 a0_6, .int .i64 a0_7, .int .i64 a0_8, .int .u32 a0_9] 52 (0, 0))) ∧ Aside0 (Below w.heap.size w wc))
 case first =>
  have H := HC2.out
  clear HC2
  by_cases c4 : a0_0 < 1
  ·rw [if_pos c4] at H
   have c4b0 := decide_eq_true c4
   clear c4
   (first | rw [c4b0] | (simp only [i64_w, i32_w]; rw [c4b0]) | skip)
   have H' := Am H
   clear H
   obtain ⟨Cr, Cs, Ct, Cu, Cv, Cw, Cx, Cy, Cz, C0⟩ := bc10 Aa.out
   obtain ⟨C1, C2, C3, C4, C5, C6, C7, C8, C9, Da⟩ := bf10 Aa.out
   go_wp2
   go_meet
   case rel => exact ⟨_, (true), zr, H', ⟨zo⟩, ⟨pK Aa.out⟩, ⟨pE HB.out Ab.out⟩⟩
  rw [if_neg c4] at H
  have c4b0 := decide_eq_false c4
  clear c4
  (first | rw [c4b0] | (simp only [i64_w, i32_w]; rw [c4b0]) | skip)
  by_cases c6 : a0_0 > 2147483647
  ·rw [if_pos c6] at H
   have c6b0 : decide (2147483647 < a0_0) = true := decide_eq_true c6
   clear c6
   have H' := Am H
   clear H
   obtain ⟨Db, Dc, Dd, De, Df, Dg, Dh, Di, Dj, Dk⟩ := bc10 Aa.out
   obtain ⟨Dl, Dm, Dn, Do, Dp, Dq, Dr, Ds, Dt, Du⟩ := bf10 Aa.out
   go_wp2
   go_meet
   case rel => exact ⟨_, (true), zr, H', ⟨zo⟩, ⟨pK Aa.out⟩, ⟨pE HB.out Ab.out⟩⟩
  rw [if_neg c6] at H
  have c6b0 : decide (2147483647 < a0_0) = false := decide_eq_false c6
  clear c6
  by_cases c8 : a0_1 < 1
  ·rw [if_pos c8] at H
   have c8b0 := decide_eq_true c8
   clear c8
   have H' := Am H
   clear H
   obtain ⟨Dv, Dw, Dx, Dy, Dz, D0, D1, D2, D3, D4⟩ := bc10 Aa.out
   obtain ⟨D5, D6, D7, D8, D9, Ea, Eb, Ec, Ed, Ee⟩ := bf10 Aa.out
   go_wp2
   go_meet
   case rel => exact ⟨_, (true), zr, H', ⟨zo⟩, ⟨pK Aa.out⟩, ⟨pE HB.out Ab.out⟩⟩
  rw [if_neg c8] at H
  have c8b0 := decide_eq_false c8
  clear c8
  by_cases c10 : a0_1 > 2147483647
  ·rw [if_pos c10] at H
   have c10b0 : decide (2147483647 < a0_1) = true := decide_eq_true c10
   clear c10
   have H' := Am H
   clear H
   obtain ⟨Ah, Ai, Aj, Ak, Al, An, Ao, Ap, Aq, Ar⟩ := bc10 Aa.out
   obtain ⟨As, At, Au, Av, Aw, Ax, Ay, Az, A0, A1⟩ := bf10 Aa.out
   go_wp2
   go_meet
   case rel => exact ⟨_, (true), zr, H', ⟨zo⟩, ⟨pK Aa.out⟩, ⟨pE HB.out Ab.out⟩⟩
  rw [if_neg c10] at H
  have c10b0 : decide (2147483647 < a0_1) = false := decide_eq_false c10
  clear c10
  replace H := Option.bind_eq_some_iff.mp H
  obtain ⟨t389, A120, H⟩ := H
  have A12 := Am A120
  clear A120
  by_cases c13 : t389 = true
  ·subst c13
   rw [if_pos rfl] at H
   have H' := Am H
   clear H
   obtain ⟨A2, A3, A4, A5, A6, A7, A8, A9, Ba, Bb⟩ := bc10 Aa.out
   obtain ⟨Bc, Bd, Be, Bf, Bg, Bh, Bi, Bj, Bk, Bl⟩ := bf10 Aa.out
   go_wp2_with (first | (go_at_call 71; (with_reducible refine (garnerref05_May.calls a0_4 _ _ l0_5 a0_6 a0_7 a0_8 a0_9 true _ ?Ac ?Ad A12.out).mono ?_); (case Ac => exact pC (Kd.C_below Af.out HB.out)); (case Ad => exact Ag.out); rintro e w15 ⟨rfl, hb⟩; replace Aa := kBa Aa hb; replace HB := Am (below_step (pE HB.out Ab.out) hb); (try clear hb); (try clear hb2); (try clear hk); (try clear hi); obtain ⟨Bm, Bn, Bo, Bp, Bq, Br, Bs, Bt, Bu, Bv⟩ := bc10 Aa.out; obtain ⟨Bw, Bx, By, Bz, B0, B1, B2, B3, B4, B5⟩ := bf10 Aa.out))
   go_meet
   case rel => exact ⟨_, (decide ((a0_3.size : Int) > 64)), zr, H', ⟨zo⟩, ⟨pK Aa.out⟩, ⟨pE HB.out Ab.out⟩⟩
  replace c13 := Bool.eq_false_iff.mpr c13
  subst c13
  rw [if_neg zF] at H
  have H' := Am H
  clear H
  obtain ⟨B6, B7, B8, B9, Ca, Cb, Cc, Cd, Ce, Cf⟩ := bc10 Aa.out
  obtain ⟨Cg, Ch, Ci, Cj, Ck, Cl, Cm, Cn, Co, Cp⟩ := bf10 Aa.out
  go_wp2_with (first | (go_at_call 71; (with_reducible refine (garnerref05_May.calls a0_4 _ _ l0_5 a0_6 a0_7 a0_8 a0_9 false _ ?Ac ?Ad A12.out).mono ?_); (case Ac => exact pC (Kd.C_below Af.out HB.out)); (case Ad => exact Ag.out); rintro e w18 ⟨rfl, hb⟩; replace Aa := kBa Aa hb; replace HB := Am (below_step (pE HB.out Ab.out) hb); (try clear hb); (try clear hb2); (try clear hk); (try clear hi)))
  go_meet
  case rel => exact ⟨_, (true), zr, H', ⟨zo⟩, ⟨pK Aa.out⟩, ⟨pE HB.out Ab.out⟩⟩
 case rest =>
  clear HC2
  try clear c1
  try clear p2
  try clear c4
  try clear c4b0
  try clear c5
  try clear c6
  try clear c6b0
  try clear c8
  try clear c8b0
  try clear c10
  try clear c10b0
  try clear c13
  try clear Ah Ai Aj Ak Al An Ao Ap Aq Ar
  try clear A2 A3 A4 A5 A6 A7 A8 A9 Ba Bb
  try clear Bm Bn Bo Bp Bq Br Bs Bt Bu Bv
  try clear B6 B7 B8 B9 Ca Cb Cc Cd Ce Cf
  try clear Cr Cs Ct Cu Cv Cw Cx Cy Cz C0
  try clear Db Dc Dd De Df Dg Dh Di Dj Dk
  try clear Dv Dw Dx Dy Dz D0 D1 D2 D3 D4
  try clear As At Au Av Aw Ax Ay Az A0 A1
  try clear Bc Bd Be Bf Bg Bh Bi Bj Bk Bl
  try clear Bw Bx By Bz B0 B1 B2 B3 B4 B5
  try clear Cg Ch Ci Cj Ck Cl Cm Cn Co Cp
  try clear C1 C2 C3 C4 C5 C6 C7 C8 C9 Da
  try clear Dl Dm Dn Do Dp Dq Dr Ds Dt Du
  try clear D5 D6 D7 D8 D9 Ea Eb Ec Ed Ee
  obtain ⟨kq, Ae, rfl, HA, HJ1, Aa, HB⟩ := hcut
  cases kq with
  | zero => exact absurd HA.out (by simp [garnerref06_May.j0])
  | succ kj1 =>
   have H := HA.out
   clear HA
   simp only [garnerref06_May.j0] at H
   by_cases c19 : Ae = true
   ·subst c19
    rw [if_pos rfl] at H
    obtain rfl := Option.some.inj H
    go_wp2
    go_ret
    exact ⟨pX, pE HB.out Ab.out⟩
   replace c19 := Bool.eq_false_iff.mpr c19
   subst c19
   rw [if_neg zF] at H
   by_cases c20 : a0_2 = 0
   ·rw [if_pos c20] at H
    have c20b0 := beq_iff_eq.mpr c20
    have c20b1 := bne_eq_false_iff_eq.mpr c20
    clear c20
    obtain rfl := Option.some.inj H
    obtain ⟨_, _, _, _, _, _, _, _, _, _⟩ := bc10 Aa.out
    obtain ⟨_, _, _, _, _, _, _, _, _, _⟩ := bf10 Aa.out
    go_wp2
    go_ret
    exact ⟨pX, pE HB.out Ab.out⟩
   rw [if_neg c20] at H
   have c20b0 := beq_eq_false_iff_ne.mpr c20
   have c20b1 := bne_iff_ne.mpr c20
   by_cases c22 : a0_2 = 2
   rotate_left
   ·rw [if_neg c22] at H
    have c22b0 := beq_eq_false_iff_ne.mpr c22
    have c22b1 := bne_iff_ne.mpr c22
    by_cases c28 : a0_2 = 1
    ·rw [if_pos c28] at H
     have c28b0 := beq_iff_eq.mpr c28
     have c28b1 := bne_eq_false_iff_eq.mpr c28
     clear c28
     obtain rfl := Option.some.inj H
     obtain ⟨_, _, _, _, _, _, _, _, _, _⟩ := bc10 Aa.out
     obtain ⟨_, _, _, _, _, _, _, _, _, _⟩ := bf10 Aa.out
     go_wp2
     go_ret
     exact ⟨pX, pE HB.out Ab.out⟩
    rw [if_neg c28] at H
    have c28b0 := beq_eq_false_iff_ne.mpr c28
    have c28b1 := bne_iff_ne.mpr c28
    obtain rfl := Option.some.inj H
    obtain ⟨_, _, _, _, _, _, _, _, _, _⟩ := bc10 Aa.out
    obtain ⟨_, _, _, _, _, _, _, _, _, _⟩ := bf10 Aa.out
    go_wp2
    go_ret
    exact ⟨pX, pE HB.out Ab.out⟩
   rw [if_pos c22] at H
   have c22b0 := beq_iff_eq.mpr c22
   have c22b1 := bne_eq_false_iff_eq.mpr c22
   clear c22
   by_cases c23 : a0_3.toList = ([] : List UInt8)
   ·rw [if_pos c23] at H
    have c23b0 := beq_iff_eq.mpr c23
    have c23b1 := bne_eq_false_iff_eq.mpr c23
    clear c23
    obtain rfl := Option.some.inj H
    obtain ⟨_, _, _, _, _, _, _, _, _, _⟩ := bc10 Aa.out
    obtain ⟨_, _, _, _, _, _, _, _, _, _⟩ := bf10 Aa.out
    go_wp2
    go_ret
    exact ⟨pX, pE HB.out Ab.out⟩
   rw [if_neg c23] at H
   have c23b0 := beq_eq_false_iff_ne.mpr c23
   have c23b1 := bne_iff_ne.mpr c23
   replace H := Option.bind_eq_some_iff.mp H
   obtain ⟨t390, A250, H⟩ := H
   have A25 := Am A250
   clear A250
   obtain rfl := Option.some.inj H
   obtain ⟨_, _, _, _, _, _, _, _, _, _⟩ := bc10 Aa.out
   obtain ⟨_, _, _, _, _, _, _, _, _, _⟩ := bf10 Aa.out
   go_wp2_with (first | (go_at_call 49; (refine (garnerref05_Same.calls kj1 a0_4 _ _ l0_5 a0_6 a0_7 a0_8 a0_9 false _ _ ([] : List Int) 0 0 0 0 t390 _ ?Ac ?Ad ?Eg ?Eh A25.out).mono ?_); (case Ac => exact pC (Kd.C_below Af.out HB.out)); (case Ad => exact Ag.out); (case Eg => exact Kd.C_nil _ _); (case Eh => exact Nat.le_refl _); rintro e w27 ⟨rfl, hb⟩; replace Aa := kBa Aa hb; replace HB := Am (below_step (pE HB.out Ab.out) hb); (try clear hb); (try clear hb2); (try clear hk); (try clear hi)))
   go_ret
   exact ⟨pX, pE HB.out Ab.out⟩
end Go.Proofs.Ytdanmjfkocjgjaa.PWalGets
