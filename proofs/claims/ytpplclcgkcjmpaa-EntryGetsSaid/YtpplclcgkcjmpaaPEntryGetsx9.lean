/- What the law reaches, as plain Lean functions, and that the machine's calls answer just that. -/
import Derived.Test.YtpplclcgkcjmpaaPEntryGetsx0
import Derived.Test.YtpplclcgkcjmpaaPEntryGetsx8
namespace Go.Proofs.Ytpplclcgkcjmpaa.PEntryGets
open Go.RowKit Go.Proofs.YtpplclcgkcjmpaaW.PrintWords Go.Proofs.YtpplclcgkcjmpaaW.PrintLast Go.Proofs.YtpplclcgkcjmpaaW.PrintMore
attribute [local go_sem] max2_int min2_int max_two min_two max_three min_three max_four min_four
set_option linter.unusedVariables false
set_option linter.unusedSimpArgs false
attribute [local go_sem] wrap64_l1 wrap64_l2 wrap64_l3 wrap64_l4 wrap64_l5
def garnerref06_May.j0 : Nat → Bool → Int → Int → Int → ByteArray → Bool → List Int → Int → Int → Int → Int → Option (Bool)
 | 0, _, _, _, _, _, _, _, _, _, _, _ => none
 | k + 1, x32, x279000, x279001, x279002, x279003, x279004, x279005, x279006, x279007, x279008, x279009 => if x32 = true then (some false) else (if x279002 = 0 then (some (x279003.toList == ([] : List UInt8))) else (if x279002 = 2 then (if x279003.toList = ([] : List UInt8) then (some false) else ((garnerref05_Same.f k x279004 x279005 x279006 x279007 x279008 x279009 false ([] : List Int) 0 0 0 0).bind fun t280 => (some t280))) else (if x279002 = 1 then (some (x279003.toList != ([] : List UInt8))) else (some false))))
def garnerref06_May.f (k : Nat) (a0_0 : Int) (a0_1 : Int) (a0_2 : Int) (a0_3 : ByteArray) (a0_4 : Bool) (l0_5 : List Int) (a0_6 : Int) (a0_7 : Int) (a0_8 : Int) (a0_9 : Int) : Option (Bool) := if a0_0 < 1 then (garnerref06_May.j0 k true a0_0 a0_1 a0_2 a0_3 a0_4 l0_5 a0_6 a0_7 a0_8 a0_9) else (if a0_0 > 2147483647 then (garnerref06_May.j0 k true a0_0 a0_1 a0_2 a0_3 a0_4 l0_5 a0_6 a0_7 a0_8 a0_9) else (if a0_1 < 1 then (garnerref06_May.j0 k true a0_0 a0_1 a0_2 a0_3 a0_4 l0_5 a0_6 a0_7 a0_8 a0_9) else (if a0_1 > 2147483647 then (garnerref06_May.j0 k true a0_0 a0_1 a0_2 a0_3 a0_4 l0_5 a0_6 a0_7 a0_8 a0_9) else ((garnerref05_May.f a0_4 l0_5 a0_6 a0_7 a0_8 a0_9).bind fun t279 => (if t279 = true then (garnerref06_May.j0 k (decide ((a0_3.size : Int) > 64)) a0_0 a0_1 a0_2 a0_3 a0_4 l0_5 a0_6 a0_7 a0_8 a0_9) else (garnerref06_May.j0 k true a0_0 a0_1 a0_2 a0_3 a0_4 l0_5 a0_6 a0_7 a0_8 a0_9))))))
theorem garnerref06_May.mono_l : ∀ k, (∀ y0 y1 y2 y3 y4 y5 y6 y7 y8 y9 y10, LeO (garnerref06_May.j0 k y0 y1 y2 y3 y4 y5 y6 y7 y8 y9 y10) (garnerref06_May.j0 (k + 1) y0 y1 y2 y3 y4 y5 y6 y7 y8 y9 y10))
 | 0 => fun _ _ _ _ _ _ _ _ _ _ _ r h => by simp [garnerref06_May.j0] at h
 | k + 1 => by
  have ih0 := garnerref06_May.mono_l k
  ·intro y0 y1 y2 y3 y4 y5 y6 y7 y8 y9 y10
   unfold garnerref06_May.j0
   repeat' first
   | (with_reducible exact ih0 _ _ _ _ _ _ _ _ _ _ _)
   | (with_reducible exact garnerref05_Same.mono _ _ _ _ _ _ _ _ _ _ _ _ _)
   | (with_reducible exact LeO.refl _)
   | (with_reducible exact LeO.none _)
   | (with_reducible refine LeO.ite ?_ ?_)
   | (with_reducible refine LeO.bind ?_ (fun _ => ?_))
   | exact ih0 _ _ _ _ _ _ _ _ _ _ _
   | exact garnerref05_Same.mono _ _ _ _ _ _ _ _ _ _ _ _ _
   | exact LeO.none _
   | refine LeO.ite ?_ ?_
   | refine LeO.bind ?_ (fun _ => ?_)
theorem garnerref06_May.mono : ∀ a0 a1 a2 a3 a4 a5 a6 a7 a8 a9 k, LeO (garnerref06_May.f k a0 a1 a2 a3 a4 a5 a6 a7 a8 a9) (garnerref06_May.f (k + 1) a0 a1 a2 a3 a4 a5 a6 a7 a8 a9) := by
 intro a0 a1 a2 a3 a4 a5 a6 a7 a8 a9 k
 have ih0 := garnerref06_May.mono_l k
 unfold garnerref06_May.f
 repeat' first
   | (with_reducible exact ih0 _ _ _ _ _ _ _ _ _ _ _)
   | (with_reducible exact garnerref05_Same.mono _ _ _ _ _ _ _ _ _ _ _ _ _)
   | (with_reducible exact LeO.refl _)
   | (with_reducible exact LeO.none _)
   | (with_reducible refine LeO.ite ?_ ?_)
   | (with_reducible refine LeO.bind ?_ (fun _ => ?_))
   | exact ih0 _ _ _ _ _ _ _ _ _ _ _
   | exact garnerref05_Same.mono _ _ _ _ _ _ _ _ _ _ _ _ _
   | exact LeO.none _
   | refine LeO.ite ?_ ?_
   | refine LeO.bind ?_ (fun _ => ?_)
set_option maxHeartbeats 8000000 in
set_option maxRecDepth 100000 in
theorem garnerref06_May.calls (k : Nat) (a0_0 : Int) (a0_1 : Int) (a0_2 : Int) (a0_3 : ByteArray) (a0_4 : Bool) (A0_5 : Option Addr) (c0_5 : Nat) (l0_5 : List Int) (a0_6 : Int) (a0_7 : Int) (a0_8 : Int) (a0_9 : Int) (r : Bool) (w : World) (hr0_5 : Kd.C (Kd.int .u8) w A0_5 l0_5.length l0_5) (hc0_5 : l0_5.length ≤ c0_5) (h : garnerref06_May.f k a0_0 a0_1 a0_2 a0_3 a0_4 l0_5 a0_6 a0_7 a0_8 a0_9 = some r) :
  Calls Try.prog 20 #[.agg #[.int .i64 a0_0, .int .i64 a0_1, .int .i64 a0_2, .string a0_3, .bool a0_4, .slice A0_5 l0_5.length c0_5, .int .i64 a0_6, .int .i64 a0_7, .int .i64 a0_8, .int .u32 a0_9]] w fun e w' => e = .returned (.bool r) ∧ Below w.heap.size w w' := by
 have hu42 := Try.underlying42
 have hu40 := Try.underlying40
 have Af := Am hr0_5
 have Ag := Am hc0_5
 clear hr0_5 hc0_5
 have HB := Am (Below.refl w.heap.size w)
 have H : (if a0_0 < 1 then (garnerref06_May.j0 k true a0_0 a0_1 a0_2 a0_3 a0_4 l0_5 a0_6 a0_7 a0_8 a0_9) else (if a0_0 > 2147483647 then (garnerref06_May.j0 k true a0_0 a0_1 a0_2 a0_3 a0_4 l0_5 a0_6 a0_7 a0_8 a0_9) else (if a0_1 < 1 then (garnerref06_May.j0 k true a0_0 a0_1 a0_2 a0_3 a0_4 l0_5 a0_6 a0_7 a0_8 a0_9) else (if a0_1 > 2147483647 then (garnerref06_May.j0 k true a0_0 a0_1 a0_2 a0_3 a0_4 l0_5 a0_6 a0_7 a0_8 a0_9) else ((garnerref05_May.f a0_4 l0_5 a0_6 a0_7 a0_8 a0_9).bind fun t279 => (if t279 = true then (garnerref06_May.j0 k (decide ((a0_3.size : Int) > 64)) a0_0 a0_1 a0_2 a0_3 a0_4 l0_5 a0_6 a0_7 a0_8 a0_9) else (garnerref06_May.j0 k true a0_0 a0_1 a0_2 a0_3 a0_4 l0_5 a0_6 a0_7 a0_8 a0_9))))))) = some r := h
 clear h
 have HC2 := Am H
 clear H
 go_enter Try.func20, Try.ntmps20
 go_upto_region 1 with (first | ((with_reducible refine gate_dst (N := 1) rfl ?_); (try (refine gate_guard (by rfl) ?_; dsimp only)); refine box_event ?hg (N := 1) ?hd (cs := #[.int .i64 a0_0, .int .i64 a0_1, .int .i64 a0_2, .string a0_3, .bool a0_4, .slice A0_5 l0_5.length c0_5, .int .i64 a0_6, .int .i64 a0_7, .int .i64 a0_8, .int .u32 a0_9]) (t := 42) ?hr ?_; (case hd => rfl); (case hg => rfl); (case hr => first | (go_simp; done) | (go_simp; rfl)); intro Cq hg w3 hbox hb; have Aa := Am (hbox); have Ef := Am ((by rw [hg]; exact (below_size (pB HB.out)) : w.heap.size ≤ Cq)); replace HB := Am (below_step (pB HB.out) hb); have Ab := Ef; clear hb hbox hg))
 (try simp only [Act.put, List.setIfInBounds_toArray, List.set_cons_zero, List.set_cons_succ])
 go_cut [32] (fun v32 wc => ∃ (kq : Nat) (Ae : Bool), v32 = .bool Ae ∧ Aside0 (garnerref06_May.j0 kq Ae a0_0 a0_1 a0_2 a0_3 a0_4 l0_5 a0_6 a0_7 a0_8 a0_9 = some r) ∧ Aside0 (kq ≤ k) ∧ Aside0 (wc.heap[Cq]? = some (.cells #[.int .i64 a0_0, .int .i64 a0_1, .int .i64 a0_2, .string a0_3, .bool a0_4, (.slice A0_5 l0_5.length c0_5), .int .i64 a0_6, .int .i64 a0_7, .int .i64 a0_8, .int .u32 a0_9] 42 (0, 0))) ∧ Aside0 (Below w.heap.size w wc))
 case first =>
  have H := HC2.out
  clear HC2
  by_cases c4 : a0_0 < 1
  ·rw [if_pos c4] at H
   have c4b0 : decide (a0_0 < 1) = true := decide_eq_true c4
   clear c4
   (first | rw [c4b0] | (simp only [i64_w, i32_w]; rw [c4b0]) | skip)
   have H' := Am H
   clear H
   obtain ⟨Cr, Cs, Ct, Cu, Cv, Cw, Cx, Cy, Cz, C0⟩ := bc10 Aa.out
   obtain ⟨C1, C2, C3, C4, C5, C6, C7, C8, C9, Da⟩ := bf10 Aa.out
   go_wp2
   go_meet
   case rel => exact ⟨_, (true), (by first | rfl | (simp; done) | (simp [*]; done)), H', ⟨by first | omega | exact Nat.le_refl _⟩, ⟨pK Aa.out⟩, ⟨pE HB.out Ab.out⟩⟩
  rw [if_neg c4] at H
  have c4b0 : decide (a0_0 < 1) = false := decide_eq_false c4
  clear c4
  (first | rw [c4b0] | (simp only [i64_w, i32_w]; rw [c4b0]) | skip)
  by_cases c6 : a0_0 > 2147483647
  ·rw [if_pos c6] at H
   have c6b0 : decide (2147483647 < a0_0) = true := decide_eq_true c6
   clear c6
   have H' := Am H
   clear H
   obtain ⟨Db, Dc, Dd, De, Df, Dg, Dh, Di, Dj, Dk⟩ := bc10 Aa.out
   obtain ⟨Dl, Dm, Dn, Do, Dp, Dq, Dr, Ds, Dt, Du⟩ := bf10 Aa.out
   go_wp2
   go_meet
   case rel => exact ⟨_, (true), (by first | rfl | (simp; done) | (simp [*]; done)), H', ⟨by first | omega | exact Nat.le_refl _⟩, ⟨pK Aa.out⟩, ⟨pE HB.out Ab.out⟩⟩
  rw [if_neg c6] at H
  have c6b0 : decide (2147483647 < a0_0) = false := decide_eq_false c6
  clear c6
  by_cases c8 : a0_1 < 1
  ·rw [if_pos c8] at H
   have c8b0 : decide (a0_1 < 1) = true := decide_eq_true c8
   clear c8
   have H' := Am H
   clear H
   obtain ⟨Dv, Dw, Dx, Dy, Dz, D0, D1, D2, D3, D4⟩ := bc10 Aa.out
   obtain ⟨D5, D6, D7, D8, D9, Ea, Eb, Ec, Ed, Ee⟩ := bf10 Aa.out
   go_wp2
   go_meet
   case rel => exact ⟨_, (true), (by first | rfl | (simp; done) | (simp [*]; done)), H', ⟨by first | omega | exact Nat.le_refl _⟩, ⟨pK Aa.out⟩, ⟨pE HB.out Ab.out⟩⟩
  rw [if_neg c8] at H
  have c8b0 : decide (a0_1 < 1) = false := decide_eq_false c8
  clear c8
  by_cases c10 : a0_1 > 2147483647
  ·rw [if_pos c10] at H
   have c10b0 : decide (2147483647 < a0_1) = true := decide_eq_true c10
   clear c10
   have H' := Am H
   clear H
   obtain ⟨Ah, Ai, Aj, Ak, Al, An, Ao, Ap, Aq, Ar⟩ := bc10 Aa.out
   obtain ⟨As, At, Au, Av, Aw, Ax, Ay, Az, A0, A1⟩ := bf10 Aa.out
   go_wp2
   go_meet
   case rel => exact ⟨_, (true), (by first | rfl | (simp; done) | (simp [*]; done)), H', ⟨by first | omega | exact Nat.le_refl _⟩, ⟨pK Aa.out⟩, ⟨pE HB.out Ab.out⟩⟩
  rw [if_neg c10] at H
  have c10b0 : decide (2147483647 < a0_1) = false := decide_eq_false c10
  clear c10
  replace H := Option.bind_eq_some_iff.mp H
  obtain ⟨t279, A120, H⟩ := H
  replace H : (if t279 = true then (garnerref06_May.j0 k (decide ((a0_3.size : Int) > 64)) a0_0 a0_1 a0_2 a0_3 a0_4 l0_5 a0_6 a0_7 a0_8 a0_9) else (garnerref06_May.j0 k true a0_0 a0_1 a0_2 a0_3 a0_4 l0_5 a0_6 a0_7 a0_8 a0_9)) = some r := H
  have A12 := Am A120
  clear A120
  by_cases c13 : t279 = true
  ·subst c13
   have H1 : (garnerref06_May.j0 k (decide ((a0_3.size : Int) > 64)) a0_0 a0_1 a0_2 a0_3 a0_4 l0_5 a0_6 a0_7 a0_8 a0_9) = some r := by rw [if_pos rfl] at H; exact H
   clear H
   have H := H1
   clear H1
   have H' := Am H
   clear H
   obtain ⟨A2, A3, A4, A5, A6, A7, A8, A9, Ba, Bb⟩ := bc10 Aa.out
   obtain ⟨Bc, Bd, Be, Bf, Bg, Bh, Bi, Bj, Bk, Bl⟩ := bf10 Aa.out
   go_wp2_with (first | (go_at_call 33; (with_reducible refine (garnerref05_May.calls a0_4 _ _ l0_5 a0_6 a0_7 a0_8 a0_9 true _ ?Ac ?Ad A12.out).mono ?_); (case Ac => exact pC (Kd.C_below Af.out HB.out)); (case Ad => exact Ag.out); rintro e w15 ⟨rfl, hb⟩; replace Aa := kBa Aa hb; replace HB := Am (below_step (pE HB.out Ab.out) hb); (try clear hb); (try clear hb2); (try clear hk); (try clear hi); obtain ⟨Bm, Bn, Bo, Bp, Bq, Br, Bs, Bt, Bu, Bv⟩ := bc10 Aa.out; obtain ⟨Bw, Bx, By, Bz, B0, B1, B2, B3, B4, B5⟩ := bf10 Aa.out))
   go_meet
   case rel => exact ⟨_, (decide ((a0_3.size : Int) > 64)), (by first | rfl | (simp; done) | (simp [*]; done)), H', ⟨by first | omega | exact Nat.le_refl _⟩, ⟨pK Aa.out⟩, ⟨pE HB.out Ab.out⟩⟩
  replace c13 := Bool.eq_false_iff.mpr c13
  subst c13
  have H1 : (garnerref06_May.j0 k true a0_0 a0_1 a0_2 a0_3 a0_4 l0_5 a0_6 a0_7 a0_8 a0_9) = some r := by rw [if_neg (show ¬ (false = true) by decide)] at H; exact H
  clear H
  have H := H1
  clear H1
  have H' := Am H
  clear H
  obtain ⟨B6, B7, B8, B9, Ca, Cb, Cc, Cd, Ce, Cf⟩ := bc10 Aa.out
  obtain ⟨Cg, Ch, Ci, Cj, Ck, Cl, Cm, Cn, Co, Cp⟩ := bf10 Aa.out
  go_wp2_with (first | (go_at_call 33; (with_reducible refine (garnerref05_May.calls a0_4 _ _ l0_5 a0_6 a0_7 a0_8 a0_9 false _ ?Ac ?Ad A12.out).mono ?_); (case Ac => exact pC (Kd.C_below Af.out HB.out)); (case Ad => exact Ag.out); rintro e w18 ⟨rfl, hb⟩; replace Aa := kBa Aa hb; replace HB := Am (below_step (pE HB.out Ab.out) hb); (try clear hb); (try clear hb2); (try clear hk); (try clear hi)))
  go_meet
  case rel => exact ⟨_, (true), (by first | rfl | (simp; done) | (simp [*]; done)), H', ⟨by first | omega | exact Nat.le_refl _⟩, ⟨pK Aa.out⟩, ⟨pE HB.out Ab.out⟩⟩
 case rest =>
  clear HC2
  try clear c1
  try clear c2
  try clear p2
  try clear c4
  try clear c4b0
  try clear c6
  try clear c6b0
  try clear c8
  try clear c8b0
  try clear c10
  try clear c10b0
  try clear c13
  try clear Ah Ai Aj Ak Al An Ao Ap Aq Ar
  try clear A2 A3 A4 A5 A6 A7 A8 A9 Ba Bb
  try clear Bm Bn Bo Bp Bq Br Bs Bt Bu Bv
  try clear B6 B7 B8 B9 Ca Cb Cc Cd Ce Cf
  try clear Cr Cs Ct Cu Cv Cw Cx Cy Cz C0
  try clear Db Dc Dd De Df Dg Dh Di Dj Dk
  try clear Dv Dw Dx Dy Dz D0 D1 D2 D3 D4
  try clear As At Au Av Aw Ax Ay Az A0 A1
  try clear Bc Bd Be Bf Bg Bh Bi Bj Bk Bl
  try clear Bw Bx By Bz B0 B1 B2 B3 B4 B5
  try clear Cg Ch Ci Cj Ck Cl Cm Cn Co Cp
  try clear C1 C2 C3 C4 C5 C6 C7 C8 C9 Da
  try clear Dl Dm Dn Do Dp Dq Dr Ds Dt Du
  try clear D5 D6 D7 D8 D9 Ea Eb Ec Ed Ee
  obtain ⟨kq, Ae, rfl, HA, HJ1, Aa, HB⟩ := hcut
  cases kq with
  | zero => exact absurd HA.out (by simp [garnerref06_May.j0])
  | succ kj1 =>
   have H := HA.out
   clear HA
   simp only [garnerref06_May.j0] at H
   by_cases c19 : Ae = true
   ·subst c19
    have H1 : (some false) = some r := by rw [if_pos rfl] at H; exact H
    clear H
    have H := H1
    clear H1
    obtain rfl := Option.some.inj H
    go_wp2
    go_ret
    exact ⟨pX, pE HB.out Ab.out⟩
   replace c19 := Bool.eq_false_iff.mpr c19
   subst c19
   have H1 : (if a0_2 = 0 then (some (a0_3.toList == ([] : List UInt8))) else (if a0_2 = 2 then (if a0_3.toList = ([] : List UInt8) then (some false) else ((garnerref05_Same.f kj1 a0_4 l0_5 a0_6 a0_7 a0_8 a0_9 false ([] : List Int) 0 0 0 0).bind fun t280 => (some t280))) else (if a0_2 = 1 then (some (a0_3.toList != ([] : List UInt8))) else (some false)))) = some r := by rw [if_neg (show ¬ (false = true) by decide)] at H; exact H
   clear H
   have H := H1
   clear H1
   by_cases c20 : a0_2 = 0
   ·rw [if_pos c20] at H
    have c20b0 : (a0_2 == 0) = true := beq_iff_eq.mpr c20
    have c20b1 : (a0_2 != 0) = false := bne_eq_false_iff_eq.mpr c20
    clear c20
    obtain rfl := Option.some.inj H
    obtain ⟨_, _, _, _, _, _, _, _, _, _⟩ := bc10 Aa.out
    obtain ⟨_, _, _, _, _, _, _, _, _, _⟩ := bf10 Aa.out
    go_wp2
    go_ret
    exact ⟨pX, pE HB.out Ab.out⟩
   rw [if_neg c20] at H
   have c20b0 : (a0_2 == 0) = false := beq_eq_false_iff_ne.mpr c20
   have c20b1 : (a0_2 != 0) = true := bne_iff_ne.mpr c20
   by_cases c22 : a0_2 = 2
   rotate_left
   ·rw [if_neg c22] at H
    have c22b0 : (a0_2 == 2) = false := beq_eq_false_iff_ne.mpr c22
    have c22b1 : (a0_2 != 2) = true := bne_iff_ne.mpr c22
    by_cases c28 : a0_2 = 1
    ·rw [if_pos c28] at H
     have c28b0 : (a0_2 == 1) = true := beq_iff_eq.mpr c28
     have c28b1 : (a0_2 != 1) = false := bne_eq_false_iff_eq.mpr c28
     clear c28
     obtain rfl := Option.some.inj H
     obtain ⟨_, _, _, _, _, _, _, _, _, _⟩ := bc10 Aa.out
     obtain ⟨_, _, _, _, _, _, _, _, _, _⟩ := bf10 Aa.out
     go_wp2
     go_ret
     exact ⟨pX, pE HB.out Ab.out⟩
    rw [if_neg c28] at H
    have c28b0 : (a0_2 == 1) = false := beq_eq_false_iff_ne.mpr c28
    have c28b1 : (a0_2 != 1) = true := bne_iff_ne.mpr c28
    obtain rfl := Option.some.inj H
    obtain ⟨_, _, _, _, _, _, _, _, _, _⟩ := bc10 Aa.out
    obtain ⟨_, _, _, _, _, _, _, _, _, _⟩ := bf10 Aa.out
    go_wp2
    go_ret
    exact ⟨pX, pE HB.out Ab.out⟩
   rw [if_pos c22] at H
   have c22b0 : (a0_2 == 2) = true := beq_iff_eq.mpr c22
   have c22b1 : (a0_2 != 2) = false := bne_eq_false_iff_eq.mpr c22
   clear c22
   by_cases c23 : a0_3.toList = ([] : List UInt8)
   ·rw [if_pos c23] at H
    have c23b0 : (a0_3.toList == ([] : List UInt8)) = true := beq_iff_eq.mpr c23
    have c23b1 : (a0_3.toList != ([] : List UInt8)) = false := bne_eq_false_iff_eq.mpr c23
    clear c23
    obtain rfl := Option.some.inj H
    obtain ⟨_, _, _, _, _, _, _, _, _, _⟩ := bc10 Aa.out
    obtain ⟨_, _, _, _, _, _, _, _, _, _⟩ := bf10 Aa.out
    go_wp2
    go_ret
    exact ⟨pX, pE HB.out Ab.out⟩
   rw [if_neg c23] at H
   have c23b0 : (a0_3.toList == ([] : List UInt8)) = false := beq_eq_false_iff_ne.mpr c23
   have c23b1 : (a0_3.toList != ([] : List UInt8)) = true := bne_iff_ne.mpr c23
   replace H := Option.bind_eq_some_iff.mp H
   obtain ⟨t280, A250, H⟩ := H
   replace H : (some t280) = some r := H
   have A25 := Am A250
   clear A250
   obtain rfl := Option.some.inj H
   obtain ⟨_, _, _, _, _, _, _, _, _, _⟩ := bc10 Aa.out
   obtain ⟨_, _, _, _, _, _, _, _, _, _⟩ := bf10 Aa.out
   go_wp2_with (first | (go_at_call 19; (refine (garnerref05_Same.calls kj1 a0_4 _ _ l0_5 a0_6 a0_7 a0_8 a0_9 false _ _ ([] : List Int) 0 0 0 0 t280 _ ?Ac ?Ad ?Eg ?Eh A25.out).mono ?_); (case Ac => exact pC (Kd.C_below Af.out HB.out)); (case Ad => exact Ag.out); (case Eg => exact Kd.C_nil _ _); (case Eh => exact Nat.le_refl _); rintro e w27 ⟨rfl, hb⟩; replace Aa := kBa Aa hb; replace HB := Am (below_step (pE HB.out Ab.out) hb); (try clear hb); (try clear hb2); (try clear hk); (try clear hi)))
   go_ret
   exact ⟨pX, pE HB.out Ab.out⟩
def garnerref06_Batch.l0 : Nat → List (S42) → Int → Option (Bool)
 | 0, _, _ => none
 | k + 1, x0, x3 => if x3 < (x0.length : Int) then (if 0 ≤ x3 then ((garnerref06_May.f k ((rd_T42 x0 x3).f0) ((rd_T42 x0 x3).f1) ((rd_T42 x0 x3).f2) ((rd_T42 x0 x3).f3) ((rd_T42 x0 x3).f4.f0) ((rd_T42 x0 x3).f4.f1) ((rd_T42 x0 x3).f4.f2.f0) ((rd_T42 x0 x3).f4.f2.f1) ((rd_T42 x0 x3).f4.f2.f2) ((rd_T42 x0 x3).f4.f2.f3)).bind fun t282 => (if t282 = true then (if x3 > 0 then (if 0 ≤ (wrap64 (x3 - 1)) then (if (wrap64 (x3 - 1)) < (x0.length : Int) then (if (wrap64 (((rd_T42 x0 x3).f0) - 1)) = ((rd_T42 x0 (wrap64 (x3 - 1))).f0) then (if ((rd_T42 x0 x3).f1) < ((rd_T42 x0 (wrap64 (x3 - 1))).f1) then (some false) else (garnerref06_Batch.l0 k x0 (wrap64 (x3 + 1)))) else (some false)) else (none)) else (none)) else (garnerref06_Batch.l0 k x0 (wrap64 (x3 + 1)))) else (some false))) else (none)) else (if (x0.length : Int) ≥ 1 then (some (decide ((x0.length : Int) ≤ 16))) else (some false))
def garnerref06_Batch.f (k : Nat) (l0 : List (S42)) : Option (Bool) := garnerref06_Batch.l0 k l0 0
theorem garnerref06_Batch.mono_l : ∀ k, (∀ y0 y1, LeO (garnerref06_Batch.l0 k y0 y1) (garnerref06_Batch.l0 (k + 1) y0 y1))
 | 0 => fun _ _ r h => by simp [garnerref06_Batch.l0] at h
 | k + 1 => by
  have ih0 := garnerref06_Batch.mono_l k
  ·intro y0 y1
   unfold garnerref06_Batch.l0
   repeat' first
   | (with_reducible exact ih0 _ _)
   | (with_reducible exact garnerref06_May.mono _ _ _ _ _ _ _ _ _ _ _)
   | (with_reducible exact LeO.refl _)
   | (with_reducible exact LeO.none _)
   | (with_reducible refine LeO.ite ?_ ?_)
   | (with_reducible refine LeO.bind ?_ (fun _ => ?_))
   | exact ih0 _ _
   | exact garnerref06_May.mono _ _ _ _ _ _ _ _ _ _ _
   | exact LeO.none _
   | refine LeO.ite ?_ ?_
   | refine LeO.bind ?_ (fun _ => ?_)
theorem garnerref06_Batch.mono : ∀ a0 k, LeO (garnerref06_Batch.f k a0) (garnerref06_Batch.f (k + 1) a0) := by
 intro a0 k
 have ih0 := garnerref06_Batch.mono_l k
 unfold garnerref06_Batch.f
 repeat' first
   | (with_reducible exact ih0 _ _)
   | (with_reducible exact garnerref06_May.mono _ _ _ _ _ _ _ _ _ _ _)
   | (with_reducible exact LeO.refl _)
   | (with_reducible exact LeO.none _)
   | (with_reducible refine LeO.ite ?_ ?_)
   | (with_reducible refine LeO.bind ?_ (fun _ => ?_))
   | exact ih0 _ _
   | exact garnerref06_May.mono _ _ _ _ _ _ _ _ _ _ _
   | exact LeO.none _
   | refine LeO.ite ?_ ?_
   | refine LeO.bind ?_ (fun _ => ?_)
def garnerref06_Batch.T4 : Bool × List (List Nat × List Nat) := (true, [([], []), ([], []), ([0, 1], [0, 1]), ([2], [2]), ([3], [3]), ([4], [4]), ([5, 4], [5]), ([6], [6]), ([7, 6], [6, 7]), ([8, 6, 6], [6, 8]), ([9], [9]), ([9], [9]), ([10, 11, 9], [9, 10, 11]), ([12, 9], [9, 12]), ([13, 9], [9, 13]), ([14, 9], [9, 14]), ([9], [9]), ([9], [9]), ([17, 9], [9, 17]), ([16, 18, 9], [9, 16, 18]), ([19, 9], [9, 19]), ([20, 9], [9, 20]), ([15, 21, 9], [9, 15, 21]), ([22, 9, 9], [9, 22]), ([23], [23]), ([23], [23]), ([24, 25, 23], [23, 24, 25]), ([26, 23], [23, 26]), ([27, 23], [23, 27]), ([23], [23]), ([23], [23]), ([30, 23], [23, 30]), ([29, 31, 23], [23, 29, 31]), ([32, 23], [23, 32]), ([33, 23], [23, 33]), ([28, 34, 23], [23, 28, 34]), ([23, 35, 9], [9, 23, 35]), ([9, 36, 6], [6, 9, 36]), ([6, 37], [6, 37])])
def garnerref06_Batch.B4 : List Nat := [0, 0, 3, 7, 15, 31, 63, 127, 255, 511, 1023, 1023, 4095, 8191, 16383, 32767, 1023, 1023, 132095, 459775, 984063, 2032639, 4194303, 8388607, 16777215, 16777215, 67108863, 134217727, 268435455, 16777215, 16777215, 1090519039, 3774873599, 8069840895, 16659775487, 34359738367, 68719476735, 137438953471, 274877906943]
theorem garnerref06_Batch.tab4 : rtab .any (opsOf Try.f10 4) = garnerref06_Batch.T4 := by kernel_rfl
theorem garnerref06_Batch.bits4 : waitsOk garnerref06_Batch.T4.2 garnerref06_Batch.B4 = true := by kernel_rfl
set_option maxHeartbeats 8000000 in
set_option maxRecDepth 100000 in
theorem garnerref06_Batch.calls (k : Nat) (A0 : Option Addr) (c0 : Nat) (l0 : List (S42)) (r : Bool) (w : World) (hr0 : Kd.C k42 w A0 l0.length l0) (hc0 : l0.length ≤ c0) (h : garnerref06_Batch.f k l0 = some r) :
  Calls Try.prog 10 #[.slice A0 l0.length c0] w fun e w' => e = .returned (.bool r) ∧ Below w.heap.size w w' := by
 have hu42 := Try.underlying42
 have HR0 := Am hr0
 have HC0 := Am hc0
 clear hr0 hc0
 have HB := Am (Below.refl w.heap.size w)
 have H : (garnerref06_Batch.l0 k l0 0) = some r := h
 clear h
 have H' := Am H
 clear H
 go_enter Try.func10, Try.ntmps10
 go_wp2
 go_loopg [3] k (fun kq v3 w' => ∃ (Aa : Int), v3 = .int .i64 Aa ∧ Aside0 (garnerref06_Batch.l0 kq l0 Aa = some r) ∧ Aside0 (kq ≤ k) ∧ Aside0 (Below w.heap.size w w'))
 case atStart => exact ⟨(0), (by first | rfl | (simp; done) | (simp [*]; done)), H', ⟨Nat.le_refl _⟩, ⟨pB HB.out⟩⟩
 case round =>
  clear H'
  try clear c1
  obtain ⟨Aa, rfl, HA, HK1, HB⟩ := hrel
  cases gk with
  | zero => exact absurd HA.out (by simp [garnerref06_Batch.l0])
  | succ k1 =>
   have H := HA.out
   clear HA
   simp only [garnerref06_Batch.l0] at H
   by_cases c2 : Aa < (l0.length : Int)
   rotate_left
   ·rw [if_neg c2] at H
    have c2b0 : decide (Aa < (l0.length : Int)) = false := decide_eq_false c2
    clear c2
    by_cases c22 : (l0.length : Int) ≥ 1
    ·rw [if_pos c22] at H
     have c22b0 : decide (1 ≤ (l0.length : Int)) = true := decide_eq_true c22
     have c22b1 : decide (1 ≤ l0.length) = true := decide_eq_true (by omega)
     clear c22
     obtain rfl := Option.some.inj H
     go_wp2
     go_ret
     exact ⟨pX, pB HB.out⟩
    rw [if_neg c22] at H
    have c22b0 : decide (1 ≤ (l0.length : Int)) = false := decide_eq_false c22
    have c22b1 : decide (1 ≤ l0.length) = false := decide_eq_false (by omega)
    clear c22
    obtain rfl := Option.some.inj H
    go_wp2
    go_ret
    exact ⟨pX, pB HB.out⟩
   rw [if_pos c2] at H
   have c2b0 : decide (Aa < (l0.length : Int)) = true := decide_eq_true c2
   clear c2
   by_cases c3 : 0 ≤ Aa
   rotate_left
   ·rw [if_neg c3] at H
    exact absurd H (by simp)
   rw [if_pos c3] at H
   have c3b0 : decide (0 ≤ Aa) = true := decide_eq_true c3
   clear c3
   replace H := Option.bind_eq_some_iff.mp H
   obtain ⟨t282, A40, H⟩ := H
   replace H : (if t282 = true then (if Aa > 0 then (if 0 ≤ (wrap64 (Aa - 1)) then (if (wrap64 (Aa - 1)) < (l0.length : Int) then (if (wrap64 (((rd_T42 l0 Aa).f0) - 1)) = ((rd_T42 l0 (wrap64 (Aa - 1))).f0) then (if ((rd_T42 l0 Aa).f1) < ((rd_T42 l0 (wrap64 (Aa - 1))).f1) then (some false) else (garnerref06_Batch.l0 k1 l0 (wrap64 (Aa + 1)))) else (some false)) else (none)) else (none)) else (garnerref06_Batch.l0 k1 l0 (wrap64 (Aa + 1)))) else (some false)) = some r := H
   have A4 := Am A40
   clear A40
   by_cases c5 : t282 = true
   rotate_left
   ·replace c5 := Bool.eq_false_iff.mpr c5
    subst c5
    have H1 : (some false) = some r := by rw [if_neg (show ¬ (false = true) by decide)] at H; exact H
    clear H
    have H := H1
    clear H1
    obtain rfl := Option.some.inj H
    try go_wp2
    replace HB := bDa HB
    have p281 : 0 ≤ (Aa : Int) := of_decide_eq_true pS
    have q281 : Aa < (l0.length : Int) := of_decide_eq_true pS
    obtain ⟨Ab, Aq, c281_5, e281, Ar, As, At, Au, Av, Aw, Ax, Ay, Az, A1, Ac, Ad, Ae, Af, Ag, Ah, Ai, Aj, Ak, Al, An, Ao⟩ := at_T42w HR0.out Aa p281 q281 HB.out
    cases e281
    have Ap := Am Ad
    have A2 := Am Ac
    clear Ad Ac
    replace p281 := eq_true p281
    replace q281 := eq_true q281
    refine start_ (n := 39) (S := fun w' => w'.cell? (Ab.add ((Aa).toNat * 10)) = some (.int .i64 ((rd_T42 l0 Aa).f0)) ∧ cA w' (Ab.add ((Aa).toNat * 10)) 1 (.int .i64 ((rd_T42 l0 Aa).f1)) ∧ cA w' (Ab.add ((Aa).toNat * 10)) 2 (.int .i64 ((rd_T42 l0 Aa).f2)) ∧ cA w' (Ab.add ((Aa).toNat * 10)) 3 (.string ((rd_T42 l0 Aa).f3)) ∧ cA w' (Ab.add ((Aa).toNat * 10)) 4 (.bool ((rd_T42 l0 Aa).f4.f0)) ∧ cA w' (Ab.add ((Aa).toNat * 10)) 5 (.slice Aq ((rd_T42 l0 Aa).f4.f1).length c281_5) ∧ cA w' (Ab.add ((Aa).toNat * 10)) 6 (.int .i64 ((rd_T42 l0 Aa).f4.f2.f0)) ∧ cA w' (Ab.add ((Aa).toNat * 10)) 7 (.int .i64 ((rd_T42 l0 Aa).f4.f2.f1)) ∧ cA w' (Ab.add ((Aa).toNat * 10)) 8 (.int .i64 ((rd_T42 l0 Aa).f4.f2.f2)) ∧ cA w' (Ab.add ((Aa).toNat * 10)) 9 (.int .u32 ((rd_T42 l0 Aa).f4.f2.f3))) (ds := []) #[false, false, false, false, false, false, false, false, false, false, false, false, false, false, false, false, false, false, false, false, false, false, false, false, false, false, false, false, false, false, false, false, false, false, false, false, false, false, false] (by kernel_rfl) rfl rfl ⟨(cT HB.out Ae), (cT HB.out Af), (cT HB.out Ag), (cT HB.out Ah), (cT HB.out Ai), (cT HB.out Aj), (cT HB.out Ak), (cT HB.out Al), (cT HB.out An), (cT HB.out Ao)⟩ (fun hHeld => ?_); refine with_tabW garnerref06_Batch.tab4 garnerref06_Batch.bits4 (fun HT_ HW_ => ?_)
    generalize wr.drew = w20 at HB Ap Ar As At Au Av Aw Ax Ay Az A1 hHeld ⊢
    refine pui 0 10 39 1 HT_ ?_
    refine pui 1 11 39 3 HT_ ?_
    refine pui 2 12 39 7 HT_ ?_
    refine tki 3 13 39 15 HT_ HW_ hHeld ?_
    refine onei 4 14 39 31 HT_ (fun K hK => ?_)
    refine goes_ Try.func20 (by kernel_rfl) rfl #[.agg #[.int .i64 ((rd_T42 l0 Aa).f0), .int .i64 ((rd_T42 l0 Aa).f1), .int .i64 ((rd_T42 l0 Aa).f2), .string ((rd_T42 l0 Aa).f3), .bool ((rd_T42 l0 Aa).f4.f0), .slice Aq ((rd_T42 l0 Aa).f4.f1).length c281_5, .int .i64 ((rd_T42 l0 Aa).f4.f2.f0), .int .i64 ((rd_T42 l0 Aa).f4.f2.f1), .int .i64 ((rd_T42 l0 Aa).f4.f2.f2), .int .u32 ((rd_T42 l0 Aa).f4.f2.f3)]] (by rfl) rfl rfl pL ?_
    with_reducible refine (garnerref06_May.calls k1 ((rd_T42 l0 Aa).f0) ((rd_T42 l0 Aa).f1) ((rd_T42 l0 Aa).f2) ((rd_T42 l0 Aa).f3) ((rd_T42 l0 Aa).f4.f0) _ _ ((rd_T42 l0 Aa).f4.f1) ((rd_T42 l0 Aa).f4.f2.f0) ((rd_T42 l0 Aa).f4.f2.f1) ((rd_T42 l0 Aa).f4.f2.f2) ((rd_T42 l0 Aa).f4.f2.f3) false _ ?Bh ?Bi A4.out).mono ?_
    (case Bh => exact pC (Kd.C_below Ap.out HB.out))
    (case Bi => exact A2.out)
    rintro e w21 ⟨rfl, hb⟩
    refine ⟨_, rfl, ?_⟩
    replace HB := Am (below_step (pB HB.out) hb)
    (try clear hb)
    (try clear hb2)
    (try clear hk)
    (try clear hi)
    refine hK.out _ _ ⟨(cT HB.out Ae), (cT HB.out Af), (cT HB.out Ag), (cT HB.out Ah), (cT HB.out Ai), (cT HB.out Aj), (cT HB.out Ak), (cT HB.out Al), (cT HB.out An), (cT HB.out Ao)⟩ (fun hHeld => ?_)
    clear hK K
    refine norm_ (a' := ?_) ?_ ?_
    rotate_left
    ·show Act.put _ (some 14) _ = _
     simp only [Act.put, List.setIfInBounds_toArray, List.set_cons_zero, List.set_cons_succ, i64_w, i32_w]
     rfl
    refine pui 5 15 39 63 HT_ ?_
    refine pui 6 16 39 127 HT_ ?_
    refine pdi 7 17 39 255 HT_ ?_
    refine pdi 8 18 39 511 HT_ ?_
    refine pdi 9 19 39 1023 HT_ ?_
    refine pdi 10 20 39 2047 HT_ ?_
    refine pdi 11 21 39 4095 HT_ ?_
    refine pdi 12 22 39 8191 HT_ ?_
    refine pdi 13 23 39 16383 HT_ ?_
    refine pdi 14 24 39 32767 HT_ ?_
    refine pdi 15 25 39 65535 HT_ ?_
    refine pdi 16 26 39 131071 HT_ ?_
    refine pdi 17 27 39 262143 HT_ ?_
    refine pdi 18 28 39 524287 HT_ ?_
    refine pdi 19 29 39 1048575 HT_ ?_
    refine pdi 20 30 39 2097151 HT_ ?_
    refine pdi 21 31 39 4194303 HT_ ?_
    refine pdi 22 32 39 8388607 HT_ ?_
    refine pdi 23 33 39 16777215 HT_ ?_
    refine pdi 24 34 39 33554431 HT_ ?_
    refine pdi 25 35 39 67108863 HT_ ?_
    refine pdi 26 36 39 134217727 HT_ ?_
    refine pdi 27 37 39 268435455 HT_ ?_
    refine pdi 28 38 39 536870911 HT_ ?_
    refine pdi 29 39 39 1073741823 HT_ ?_
    refine pdi 30 40 39 2147483647 HT_ ?_
    refine pdi 31 41 39 4294967295 HT_ ?_
    refine pdi 32 42 39 8589934591 HT_ ?_
    refine pdi 33 43 39 17179869183 HT_ ?_
    refine pdi 34 44 39 34359738367 HT_ ?_
    refine pdi 35 45 39 68719476735 HT_ ?_
    refine pdi 36 46 39 137438953471 HT_ ?_
    refine pdi 37 47 39 274877906943 HT_ ?_
    refine pui 38 48 39 549755813887 HT_ ?_
    refine done_ (done_of HT_.out (by kernel_rfl)) ?_
    try go_wp2
    go_ret
    exact ⟨pX, pB HB.out⟩
   subst c5
   have H1 : (if Aa > 0 then (if 0 ≤ (wrap64 (Aa - 1)) then (if (wrap64 (Aa - 1)) < (l0.length : Int) then (if (wrap64 (((rd_T42 l0 Aa).f0) - 1)) = ((rd_T42 l0 (wrap64 (Aa - 1))).f0) then (if ((rd_T42 l0 Aa).f1) < ((rd_T42 l0 (wrap64 (Aa - 1))).f1) then (some false) else (garnerref06_Batch.l0 k1 l0 (wrap64 (Aa + 1)))) else (some false)) else (none)) else (none)) else (garnerref06_Batch.l0 k1 l0 (wrap64 (Aa + 1)))) = some r := by rw [if_pos rfl] at H; exact H
   clear H
   have H := H1
   clear H1
   by_cases c6 : Aa > 0
   rotate_left
   ·rw [if_neg c6] at H
    have c6b0 : decide (0 < Aa) = false := decide_eq_false c6
    clear c6
    have H' := Am H
    clear H
    try go_wp2
    replace HB := bDa HB
    have p281 : 0 ≤ (Aa : Int) := of_decide_eq_true pS
    have q281 : Aa < (l0.length : Int) := of_decide_eq_true pS
    obtain ⟨Ab, Aq, c281_5, e281, Ar, As, At, Au, Av, Aw, Ax, Ay, Az, A1, Ac, Ad, Ae, Af, Ag, Ah, Ai, Aj, Ak, Al, An, Ao⟩ := at_T42w HR0.out Aa p281 q281 HB.out
    cases e281
    have Ap := Am Ad
    have A2 := Am Ac
    clear Ad Ac
    replace p281 := eq_true p281
    replace q281 := eq_true q281
    refine start_ (n := 39) (S := fun w' => w'.cell? (Ab.add ((Aa).toNat * 10)) = some (.int .i64 ((rd_T42 l0 Aa).f0)) ∧ cA w' (Ab.add ((Aa).toNat * 10)) 1 (.int .i64 ((rd_T42 l0 Aa).f1)) ∧ cA w' (Ab.add ((Aa).toNat * 10)) 2 (.int .i64 ((rd_T42 l0 Aa).f2)) ∧ cA w' (Ab.add ((Aa).toNat * 10)) 3 (.string ((rd_T42 l0 Aa).f3)) ∧ cA w' (Ab.add ((Aa).toNat * 10)) 4 (.bool ((rd_T42 l0 Aa).f4.f0)) ∧ cA w' (Ab.add ((Aa).toNat * 10)) 5 (.slice Aq ((rd_T42 l0 Aa).f4.f1).length c281_5) ∧ cA w' (Ab.add ((Aa).toNat * 10)) 6 (.int .i64 ((rd_T42 l0 Aa).f4.f2.f0)) ∧ cA w' (Ab.add ((Aa).toNat * 10)) 7 (.int .i64 ((rd_T42 l0 Aa).f4.f2.f1)) ∧ cA w' (Ab.add ((Aa).toNat * 10)) 8 (.int .i64 ((rd_T42 l0 Aa).f4.f2.f2)) ∧ cA w' (Ab.add ((Aa).toNat * 10)) 9 (.int .u32 ((rd_T42 l0 Aa).f4.f2.f3))) (ds := []) #[false, false, false, false, false, false, false, false, false, false, false, false, false, false, false, false, false, false, false, false, false, false, false, false, false, false, false, false, false, false, false, false, false, false, false, false, false, false, false] (by kernel_rfl) rfl rfl ⟨(cT HB.out Ae), (cT HB.out Af), (cT HB.out Ag), (cT HB.out Ah), (cT HB.out Ai), (cT HB.out Aj), (cT HB.out Ak), (cT HB.out Al), (cT HB.out An), (cT HB.out Ao)⟩ (fun hHeld => ?_); refine with_tabW garnerref06_Batch.tab4 garnerref06_Batch.bits4 (fun HT_ HW_ => ?_)
    generalize wr.drew = w18 at HB Ap Ar As At Au Av Aw Ax Ay Az A1 hHeld ⊢
    refine pui 0 10 39 1 HT_ ?_
    refine pui 1 11 39 3 HT_ ?_
    refine pui 2 12 39 7 HT_ ?_
    refine tki 3 13 39 15 HT_ HW_ hHeld ?_
    refine onei 4 14 39 31 HT_ (fun K hK => ?_)
    refine goes_ Try.func20 (by kernel_rfl) rfl #[.agg #[.int .i64 ((rd_T42 l0 Aa).f0), .int .i64 ((rd_T42 l0 Aa).f1), .int .i64 ((rd_T42 l0 Aa).f2), .string ((rd_T42 l0 Aa).f3), .bool ((rd_T42 l0 Aa).f4.f0), .slice Aq ((rd_T42 l0 Aa).f4.f1).length c281_5, .int .i64 ((rd_T42 l0 Aa).f4.f2.f0), .int .i64 ((rd_T42 l0 Aa).f4.f2.f1), .int .i64 ((rd_T42 l0 Aa).f4.f2.f2), .int .u32 ((rd_T42 l0 Aa).f4.f2.f3)]] (by rfl) rfl rfl pL ?_
    with_reducible refine (garnerref06_May.calls k1 ((rd_T42 l0 Aa).f0) ((rd_T42 l0 Aa).f1) ((rd_T42 l0 Aa).f2) ((rd_T42 l0 Aa).f3) ((rd_T42 l0 Aa).f4.f0) _ _ ((rd_T42 l0 Aa).f4.f1) ((rd_T42 l0 Aa).f4.f2.f0) ((rd_T42 l0 Aa).f4.f2.f1) ((rd_T42 l0 Aa).f4.f2.f2) ((rd_T42 l0 Aa).f4.f2.f3) true _ ?Bh ?Bi A4.out).mono ?_
    (case Bh => exact pC (Kd.C_below Ap.out HB.out))
    (case Bi => exact A2.out)
    rintro e w19 ⟨rfl, hb⟩
    refine ⟨_, rfl, ?_⟩
    replace HB := Am (below_step (pB HB.out) hb)
    (try clear hb)
    (try clear hb2)
    (try clear hk)
    (try clear hi)
    refine hK.out _ _ ⟨(cT HB.out Ae), (cT HB.out Af), (cT HB.out Ag), (cT HB.out Ah), (cT HB.out Ai), (cT HB.out Aj), (cT HB.out Ak), (cT HB.out Al), (cT HB.out An), (cT HB.out Ao)⟩ (fun hHeld => ?_)
    clear hK K
    refine norm_ (a' := ?_) ?_ ?_
    rotate_left
    ·show Act.put _ (some 14) _ = _
     simp only [Act.put, List.setIfInBounds_toArray, List.set_cons_zero, List.set_cons_succ, i64_w, i32_w]
     rfl
    refine pui 5 15 39 63 HT_ ?_
    refine pui 6 16 39 127 HT_ ?_
    refine pui 7 17 39 255 HT_ ?_
    refine pui 8 18 39 511 HT_ ?_
    refine pui 9 19 39 1023 HT_ ?_
    refine pdi 10 20 39 2047 HT_ ?_
    refine pdi 11 21 39 4095 HT_ ?_
    refine pdi 12 22 39 8191 HT_ ?_
    refine pdi 13 23 39 16383 HT_ ?_
    refine pdi 14 24 39 32767 HT_ ?_
    refine pdi 15 25 39 65535 HT_ ?_
    refine pdi 16 26 39 131071 HT_ ?_
    refine pdi 17 27 39 262143 HT_ ?_
    refine pdi 18 28 39 524287 HT_ ?_
    refine pdi 19 29 39 1048575 HT_ ?_
    refine pdi 20 30 39 2097151 HT_ ?_
    refine pdi 21 31 39 4194303 HT_ ?_
    refine pdi 22 32 39 8388607 HT_ ?_
    refine pdi 23 33 39 16777215 HT_ ?_
    refine pdi 24 34 39 33554431 HT_ ?_
    refine pdi 25 35 39 67108863 HT_ ?_
    refine pdi 26 36 39 134217727 HT_ ?_
    refine pdi 27 37 39 268435455 HT_ ?_
    refine pdi 28 38 39 536870911 HT_ ?_
    refine pdi 29 39 39 1073741823 HT_ ?_
    refine pdi 30 40 39 2147483647 HT_ ?_
    refine pdi 31 41 39 4294967295 HT_ ?_
    refine pdi 32 42 39 8589934591 HT_ ?_
    refine pdi 33 43 39 17179869183 HT_ ?_
    refine pdi 34 44 39 34359738367 HT_ ?_
    refine pdi 35 45 39 68719476735 HT_ ?_
    refine pdi 36 46 39 137438953471 HT_ ?_
    refine pui 37 47 39 274877906943 HT_ ?_
    refine pui 38 48 39 549755813887 HT_ ?_
    refine done_ (done_of HT_.out (by kernel_rfl)) ?_
    try go_wp2
    go_roundg k1
    case measure => have := HK1.out; omega
    case rel => exact ⟨(wrap64 (Aa + 1)), (by first | rfl | (simp; done) | (simp [*]; done)), H', ⟨by have := HK1.out; omega⟩, ⟨pB HB.out⟩⟩
   rw [if_pos c6] at H
   have c6b0 : decide (0 < Aa) = true := decide_eq_true c6
   clear c6
   obtain ⟨ji7, hji7⟩ : ∃ j_ : Int, (wrap64 (Aa - 1)) = j_ := ⟨_, rfl⟩
   replace H : (if 0 ≤ (ji7) then (if (ji7) < (l0.length : Int) then (if (wrap64 (((rd_T42 l0 Aa).f0) - 1)) = ((rd_T42 l0 (ji7)).f0) then (if ((rd_T42 l0 Aa).f1) < ((rd_T42 l0 (ji7)).f1) then (some false) else (garnerref06_Batch.l0 k1 l0 (wrap64 (Aa + 1)))) else (some false)) else (none)) else (none)) = some r := by first | (rw [hji7] at H; exact H) | (simp only [hji7] at H ⊢; exact H)
   (try rw [hji7] at A4)
   have hji7w : (IntKind.i64.wrap (Aa - 1)) = ji7 := (i64_w _).trans hji7
   by_cases c8 : 0 ≤ (ji7)
   rotate_left
   ·rw [if_neg c8] at H
    exact absurd H (by simp)
   rw [if_pos c8] at H
   have c8b0 : decide (0 ≤ (ji7)) = true := decide_eq_true c8
   clear c8
   by_cases c9 : (ji7) < (l0.length : Int)
   rotate_left
   ·rw [if_neg c9] at H
    exact absurd H (by simp)
   rw [if_pos c9] at H
   have c9b0 : decide ((ji7) < (l0.length : Int)) = true := decide_eq_true c9
   clear c9
   by_cases c10 : (wrap64 (((rd_T42 l0 Aa).f0) - 1)) = ((rd_T42 l0 (ji7)).f0)
   rotate_left
   ·rw [if_neg c10] at H
    have c10b0 : ((wrap64 (((rd_T42 l0 Aa).f0) - 1)) == ((rd_T42 l0 (ji7)).f0)) = false := beq_eq_false_iff_ne.mpr c10
    have c10b1 : ((wrap64 (((rd_T42 l0 Aa).f0) - 1)) != ((rd_T42 l0 (ji7)).f0)) = true := bne_iff_ne.mpr c10
    obtain rfl := Option.some.inj H
    try go_wp2
    replace HB := bDa HB
    have p281 : 0 ≤ (Aa : Int) := of_decide_eq_true pS
    have q281 : Aa < (l0.length : Int) := of_decide_eq_true pS
    obtain ⟨Ab, Aq, c281_5, e281, Ar, As, At, Au, Av, Aw, Ax, Ay, Az, A1, Ac, Ad, Ae, Af, Ag, Ah, Ai, Aj, Ak, Al, An, Ao⟩ := at_T42w HR0.out Aa p281 q281 HB.out
    cases e281
    have Ap := Am Ad
    have A2 := Am Ac
    clear Ad Ac
    replace p281 := eq_true p281
    replace q281 := eq_true q281
    have p284 : 0 ≤ ((ji7) : Int) := of_decide_eq_true pS
    have q284 : (ji7) < (l0.length : Int) := of_decide_eq_true pS
    obtain ⟨B7, Bw, c284_5, e284, Bj, Bk, Bl, Bm, Bn, Bg, Bo, Bp, Bq, Br, A3, A5, A6, A7, A8, A9, Ba, Bb, Bc, Bd, Be, Bf⟩ := at_T42w HR0.out (ji7) p284 q284 HB.out
    obtain rfl : Ab = B7 := (by injection e284)
    have Bs := Am A5
    have B8 := Am A3
    clear A5 A3
    replace p284 := eq_true p284
    replace q284 := eq_true q284
    refine start_ (n := 39) (S := fun w' => w'.cell? (Ab.add ((Aa).toNat * 10)) = some (.int .i64 ((rd_T42 l0 Aa).f0)) ∧ cA w' (Ab.add ((Aa).toNat * 10)) 1 (.int .i64 ((rd_T42 l0 Aa).f1)) ∧ cA w' (Ab.add ((Aa).toNat * 10)) 2 (.int .i64 ((rd_T42 l0 Aa).f2)) ∧ cA w' (Ab.add ((Aa).toNat * 10)) 3 (.string ((rd_T42 l0 Aa).f3)) ∧ cA w' (Ab.add ((Aa).toNat * 10)) 4 (.bool ((rd_T42 l0 Aa).f4.f0)) ∧ cA w' (Ab.add ((Aa).toNat * 10)) 5 (.slice Aq ((rd_T42 l0 Aa).f4.f1).length c281_5) ∧ cA w' (Ab.add ((Aa).toNat * 10)) 6 (.int .i64 ((rd_T42 l0 Aa).f4.f2.f0)) ∧ cA w' (Ab.add ((Aa).toNat * 10)) 7 (.int .i64 ((rd_T42 l0 Aa).f4.f2.f1)) ∧ cA w' (Ab.add ((Aa).toNat * 10)) 8 (.int .i64 ((rd_T42 l0 Aa).f4.f2.f2)) ∧ cA w' (Ab.add ((Aa).toNat * 10)) 9 (.int .u32 ((rd_T42 l0 Aa).f4.f2.f3)) ∧ w'.cell? (Ab.add (((ji7)).toNat * 10)) = some (.int .i64 ((rd_T42 l0 (ji7)).f0)) ∧ w'.cell? ⟨(Ab.add (((ji7)).toNat * 10)).block, (Ab.add (((ji7)).toNat * 10)).off + 1, none⟩ = some (.int .i64 ((rd_T42 l0 (ji7)).f1)) ∧ w'.cell? ⟨(Ab.add (((ji7)).toNat * 10)).block, (Ab.add (((ji7)).toNat * 10)).off + 2, none⟩ = some (.int .i64 ((rd_T42 l0 (ji7)).f2)) ∧ w'.cell? ⟨(Ab.add (((ji7)).toNat * 10)).block, (Ab.add (((ji7)).toNat * 10)).off + 3, none⟩ = some (.string ((rd_T42 l0 (ji7)).f3)) ∧ w'.cell? ⟨(Ab.add (((ji7)).toNat * 10)).block, (Ab.add (((ji7)).toNat * 10)).off + 4, none⟩ = some (.bool ((rd_T42 l0 (ji7)).f4.f0)) ∧ w'.cell? ⟨(Ab.add (((ji7)).toNat * 10)).block, (Ab.add (((ji7)).toNat * 10)).off + 5, none⟩ = some (.slice Bw ((rd_T42 l0 (ji7)).f4.f1).length c284_5) ∧ w'.cell? ⟨(Ab.add (((ji7)).toNat * 10)).block, (Ab.add (((ji7)).toNat * 10)).off + 6, none⟩ = some (.int .i64 ((rd_T42 l0 (ji7)).f4.f2.f0)) ∧ w'.cell? ⟨(Ab.add (((ji7)).toNat * 10)).block, (Ab.add (((ji7)).toNat * 10)).off + 7, none⟩ = some (.int .i64 ((rd_T42 l0 (ji7)).f4.f2.f1)) ∧ w'.cell? ⟨(Ab.add (((ji7)).toNat * 10)).block, (Ab.add (((ji7)).toNat * 10)).off + 8, none⟩ = some (.int .i64 ((rd_T42 l0 (ji7)).f4.f2.f2)) ∧ w'.cell? ⟨(Ab.add (((ji7)).toNat * 10)).block, (Ab.add (((ji7)).toNat * 10)).off + 9, none⟩ = some (.int .u32 ((rd_T42 l0 (ji7)).f4.f2.f3))) (ds := []) #[false, false, false, false, false, false, false, false, false, false, false, false, false, false, false, false, false, false, false, false, false, false, false, false, false, false, false, false, false, false, false, false, false, false, false, false, false, false, false] (by kernel_rfl) rfl rfl ⟨(cT HB.out Ae), (cT HB.out Af), (cT HB.out Ag), (cT HB.out Ah), (cT HB.out Ai), (cT HB.out Aj), (cT HB.out Ak), (cT HB.out Al), (cT HB.out An), (cT HB.out Ao), (cT HB.out A6), (cT HB.out A7), (cT HB.out A8), (cT HB.out A9), (cT HB.out Ba), (cT HB.out Bb), (cT HB.out Bc), (cT HB.out Bd), (cT HB.out Be), (cT HB.out Bf)⟩ (fun hHeld => ?_); refine with_tabW garnerref06_Batch.tab4 garnerref06_Batch.bits4 (fun HT_ HW_ => ?_)
    generalize wr.drew = w16 at HB Ap Bs Ar As At Au Av Aw Ax Ay Az A1 Bj Bk Bl Bm Bn Bg Bo Bp Bq Br hHeld ⊢
    refine pui 0 10 39 1 HT_ ?_
    refine pui 1 11 39 3 HT_ ?_
    refine pui 2 12 39 7 HT_ ?_
    refine tki 3 13 39 15 HT_ HW_ hHeld ?_
    refine onei 4 14 39 31 HT_ (fun K hK => ?_)
    refine goes_ Try.func20 (by kernel_rfl) rfl #[.agg #[.int .i64 ((rd_T42 l0 Aa).f0), .int .i64 ((rd_T42 l0 Aa).f1), .int .i64 ((rd_T42 l0 Aa).f2), .string ((rd_T42 l0 Aa).f3), .bool ((rd_T42 l0 Aa).f4.f0), .slice Aq ((rd_T42 l0 Aa).f4.f1).length c281_5, .int .i64 ((rd_T42 l0 Aa).f4.f2.f0), .int .i64 ((rd_T42 l0 Aa).f4.f2.f1), .int .i64 ((rd_T42 l0 Aa).f4.f2.f2), .int .u32 ((rd_T42 l0 Aa).f4.f2.f3)]] (by rfl) rfl rfl pL ?_
    with_reducible refine (garnerref06_May.calls k1 ((rd_T42 l0 Aa).f0) ((rd_T42 l0 Aa).f1) ((rd_T42 l0 Aa).f2) ((rd_T42 l0 Aa).f3) ((rd_T42 l0 Aa).f4.f0) _ _ ((rd_T42 l0 Aa).f4.f1) ((rd_T42 l0 Aa).f4.f2.f0) ((rd_T42 l0 Aa).f4.f2.f1) ((rd_T42 l0 Aa).f4.f2.f2) ((rd_T42 l0 Aa).f4.f2.f3) true _ ?Bh ?Bi A4.out).mono ?_
    (case Bh => exact pC (Kd.C_below Ap.out HB.out))
    (case Bi => exact A2.out)
    rintro e w17 ⟨rfl, hb⟩
    refine ⟨_, rfl, ?_⟩
    replace HB := Am (below_step (pB HB.out) hb)
    (try clear hb)
    (try clear hb2)
    (try clear hk)
    (try clear hi)
    refine hK.out _ _ ⟨(cT HB.out Ae), (cT HB.out Af), (cT HB.out Ag), (cT HB.out Ah), (cT HB.out Ai), (cT HB.out Aj), (cT HB.out Ak), (cT HB.out Al), (cT HB.out An), (cT HB.out Ao), (cT HB.out A6), (cT HB.out A7), (cT HB.out A8), (cT HB.out A9), (cT HB.out Ba), (cT HB.out Bb), (cT HB.out Bc), (cT HB.out Bd), (cT HB.out Be), (cT HB.out Bf)⟩ (fun hHeld => ?_)
    clear hK K
    refine norm_ (a' := ?_) ?_ ?_
    rotate_left
    ·show Act.put _ (some 14) _ = _
     simp only [Act.put, List.setIfInBounds_toArray, List.set_cons_zero, List.set_cons_succ, i64_w, i32_w]
     rfl
    refine pui 5 15 39 63 HT_ ?_
    refine pui 6 16 39 127 HT_ ?_
    refine pui 7 17 39 255 HT_ ?_
    refine pui 8 18 39 511 HT_ ?_
    refine pui 9 19 39 1023 HT_ ?_
    refine pui 10 20 39 2047 HT_ ?_
    refine pui 11 21 39 4095 HT_ ?_
    refine pui 12 22 39 8191 HT_ ?_
    refine pui 13 23 39 16383 HT_ ?_
    refine pui 16 26 39 81919 HT_ ?_
    refine pui 17 27 39 212991 HT_ ?_
    refine pui 18 28 39 475135 HT_ ?_
    refine pui 19 29 39 999423 HT_ ?_
    refine pui 20 30 39 2047999 HT_ ?_
    refine tki 14 24 39 2064383 HT_ HW_ hHeld ?_
    refine pui 15 25 39 2097151 HT_ ?_
    refine tki 21 31 39 4194303 HT_ HW_ hHeld ?_
    refine pui 22 32 39 8388607 HT_ ?_
    refine pui 23 33 39 16777215 HT_ ?_
    refine pdi 24 34 39 33554431 HT_ ?_
    refine pdi 25 35 39 67108863 HT_ ?_
    refine pdi 26 36 39 134217727 HT_ ?_
    refine pdi 27 37 39 268435455 HT_ ?_
    refine pdi 28 38 39 536870911 HT_ ?_
    refine pdi 29 39 39 1073741823 HT_ ?_
    refine pdi 30 40 39 2147483647 HT_ ?_
    refine pdi 31 41 39 4294967295 HT_ ?_
    refine pdi 32 42 39 8589934591 HT_ ?_
    refine pdi 33 43 39 17179869183 HT_ ?_
    refine pdi 34 44 39 34359738367 HT_ ?_
    refine pdi 35 45 39 68719476735 HT_ ?_
    refine pui 36 46 39 137438953471 HT_ ?_
    refine pui 37 47 39 274877906943 HT_ ?_
    refine pui 38 48 39 549755813887 HT_ ?_
    refine done_ (done_of HT_.out (by kernel_rfl)) ?_
    try go_wp2
    go_ret
    exact ⟨by first | rfl | (simp [errW_none, errW_some] <;> rfl) | (simp only [← hji7]; first | rfl | (simp [errW_none, errW_some] <;> rfl)) | (simp [*, errW_none, errW_some] <;> rfl), pB HB.out⟩
   rw [if_pos c10] at H
   have c10b0 : ((wrap64 (((rd_T42 l0 Aa).f0) - 1)) == ((rd_T42 l0 (ji7)).f0)) = true := beq_iff_eq.mpr c10
   have c10b1 : ((wrap64 (((rd_T42 l0 Aa).f0) - 1)) != ((rd_T42 l0 (ji7)).f0)) = false := bne_eq_false_iff_eq.mpr c10
   clear c10
   by_cases c11 : ((rd_T42 l0 Aa).f1) < ((rd_T42 l0 (ji7)).f1)
   ·rw [if_pos c11] at H
    have c11b0 : decide (((rd_T42 l0 Aa).f1) < ((rd_T42 l0 (ji7)).f1)) = true := decide_eq_true c11
    clear c11
    obtain rfl := Option.some.inj H
    try go_wp2
    replace HB := bDa HB
    have p281 : 0 ≤ (Aa : Int) := of_decide_eq_true pS
    have q281 : Aa < (l0.length : Int) := of_decide_eq_true pS
    obtain ⟨Ab, Aq, c281_5, e281, Ar, As, At, Au, Av, Aw, Ax, Ay, Az, A1, Ac, Ad, Ae, Af, Ag, Ah, Ai, Aj, Ak, Al, An, Ao⟩ := at_T42w HR0.out Aa p281 q281 HB.out
    cases e281
    have Ap := Am Ad
    have A2 := Am Ac
    clear Ad Ac
    replace p281 := eq_true p281
    replace q281 := eq_true q281
    have p284 : 0 ≤ ((ji7) : Int) := of_decide_eq_true pS
    have q284 : (ji7) < (l0.length : Int) := of_decide_eq_true pS
    obtain ⟨B7, Bw, c284_5, e284, Bj, Bk, Bl, Bm, Bn, Bg, Bo, Bp, Bq, Br, A3, A5, A6, A7, A8, A9, Ba, Bb, Bc, Bd, Be, Bf⟩ := at_T42w HR0.out (ji7) p284 q284 HB.out
    obtain rfl : Ab = B7 := (by injection e284)
    have Bs := Am A5
    have B8 := Am A3
    clear A5 A3
    replace p284 := eq_true p284
    replace q284 := eq_true q284
    have p286 : 0 ≤ ((ji7) : Int) := of_decide_eq_true pS
    have q286 : (ji7) < (l0.length : Int) := of_decide_eq_true pS
    obtain ⟨B9, Cl, c286_5, e286, Bx, By, Bz, B0, B1, Bt, B2, B3, B4, B5, Bu, Bv, Ca, Cb, Cc, Cd, Ce, Cf, Cg, Ch, Ci, Cj⟩ := at_T42w HR0.out (ji7) p286 q286 HB.out
    obtain rfl : Ab = B9 := (by injection e286)
    have B6 := Am Bv
    have Ck := Am Bu
    clear Bv Bu
    replace p286 := eq_true p286
    replace q286 := eq_true q286
    have ea_ := Option.some.inj (Bg.symm.trans Bt)
    injection ea_ with ea_ en_ ec_
    subst ea_
    subst ec_
    clear en_
    refine start_ (n := 39) (S := fun w' => w'.cell? (Ab.add ((Aa).toNat * 10)) = some (.int .i64 ((rd_T42 l0 Aa).f0)) ∧ cA w' (Ab.add ((Aa).toNat * 10)) 1 (.int .i64 ((rd_T42 l0 Aa).f1)) ∧ cA w' (Ab.add ((Aa).toNat * 10)) 2 (.int .i64 ((rd_T42 l0 Aa).f2)) ∧ cA w' (Ab.add ((Aa).toNat * 10)) 3 (.string ((rd_T42 l0 Aa).f3)) ∧ cA w' (Ab.add ((Aa).toNat * 10)) 4 (.bool ((rd_T42 l0 Aa).f4.f0)) ∧ cA w' (Ab.add ((Aa).toNat * 10)) 5 (.slice Aq ((rd_T42 l0 Aa).f4.f1).length c281_5) ∧ cA w' (Ab.add ((Aa).toNat * 10)) 6 (.int .i64 ((rd_T42 l0 Aa).f4.f2.f0)) ∧ cA w' (Ab.add ((Aa).toNat * 10)) 7 (.int .i64 ((rd_T42 l0 Aa).f4.f2.f1)) ∧ cA w' (Ab.add ((Aa).toNat * 10)) 8 (.int .i64 ((rd_T42 l0 Aa).f4.f2.f2)) ∧ cA w' (Ab.add ((Aa).toNat * 10)) 9 (.int .u32 ((rd_T42 l0 Aa).f4.f2.f3)) ∧ w'.cell? (Ab.add (((ji7)).toNat * 10)) = some (.int .i64 ((rd_T42 l0 (ji7)).f0)) ∧ w'.cell? ⟨(Ab.add (((ji7)).toNat * 10)).block, (Ab.add (((ji7)).toNat * 10)).off + 1, none⟩ = some (.int .i64 ((rd_T42 l0 (ji7)).f1)) ∧ w'.cell? ⟨(Ab.add (((ji7)).toNat * 10)).block, (Ab.add (((ji7)).toNat * 10)).off + 2, none⟩ = some (.int .i64 ((rd_T42 l0 (ji7)).f2)) ∧ w'.cell? ⟨(Ab.add (((ji7)).toNat * 10)).block, (Ab.add (((ji7)).toNat * 10)).off + 3, none⟩ = some (.string ((rd_T42 l0 (ji7)).f3)) ∧ w'.cell? ⟨(Ab.add (((ji7)).toNat * 10)).block, (Ab.add (((ji7)).toNat * 10)).off + 4, none⟩ = some (.bool ((rd_T42 l0 (ji7)).f4.f0)) ∧ w'.cell? ⟨(Ab.add (((ji7)).toNat * 10)).block, (Ab.add (((ji7)).toNat * 10)).off + 5, none⟩ = some (.slice Bw ((rd_T42 l0 (ji7)).f4.f1).length c284_5) ∧ w'.cell? ⟨(Ab.add (((ji7)).toNat * 10)).block, (Ab.add (((ji7)).toNat * 10)).off + 6, none⟩ = some (.int .i64 ((rd_T42 l0 (ji7)).f4.f2.f0)) ∧ w'.cell? ⟨(Ab.add (((ji7)).toNat * 10)).block, (Ab.add (((ji7)).toNat * 10)).off + 7, none⟩ = some (.int .i64 ((rd_T42 l0 (ji7)).f4.f2.f1)) ∧ w'.cell? ⟨(Ab.add (((ji7)).toNat * 10)).block, (Ab.add (((ji7)).toNat * 10)).off + 8, none⟩ = some (.int .i64 ((rd_T42 l0 (ji7)).f4.f2.f2)) ∧ w'.cell? ⟨(Ab.add (((ji7)).toNat * 10)).block, (Ab.add (((ji7)).toNat * 10)).off + 9, none⟩ = some (.int .u32 ((rd_T42 l0 (ji7)).f4.f2.f3))) (ds := []) #[false, false, false, false, false, false, false, false, false, false, false, false, false, false, false, false, false, false, false, false, false, false, false, false, false, false, false, false, false, false, false, false, false, false, false, false, false, false, false] (by kernel_rfl) rfl rfl ⟨(cT HB.out Ae), (cT HB.out Af), (cT HB.out Ag), (cT HB.out Ah), (cT HB.out Ai), (cT HB.out Aj), (cT HB.out Ak), (cT HB.out Al), (cT HB.out An), (cT HB.out Ao), (cT HB.out A6), (cT HB.out A7), (cT HB.out A8), (cT HB.out A9), (cT HB.out Ba), (cT HB.out Bb), (cT HB.out Bc), (cT HB.out Bd), (cT HB.out Be), (cT HB.out Bf)⟩ (fun hHeld => ?_); refine with_tabW garnerref06_Batch.tab4 garnerref06_Batch.bits4 (fun HT_ HW_ => ?_)
    generalize wr.drew = w12 at HB Ap Bs B6 Ar As At Au Av Aw Ax Ay Az A1 Bj Bk Bl Bm Bn Bg Bo Bp Bq Br Bx By Bz B0 B1 Bt B2 B3 B4 B5 hHeld ⊢
    refine pui 0 10 39 1 HT_ ?_
    refine pui 1 11 39 3 HT_ ?_
    refine pui 2 12 39 7 HT_ ?_
    refine tki 3 13 39 15 HT_ HW_ hHeld ?_
    refine onei 4 14 39 31 HT_ (fun K hK => ?_)
    refine goes_ Try.func20 (by kernel_rfl) rfl #[.agg #[.int .i64 ((rd_T42 l0 Aa).f0), .int .i64 ((rd_T42 l0 Aa).f1), .int .i64 ((rd_T42 l0 Aa).f2), .string ((rd_T42 l0 Aa).f3), .bool ((rd_T42 l0 Aa).f4.f0), .slice Aq ((rd_T42 l0 Aa).f4.f1).length c281_5, .int .i64 ((rd_T42 l0 Aa).f4.f2.f0), .int .i64 ((rd_T42 l0 Aa).f4.f2.f1), .int .i64 ((rd_T42 l0 Aa).f4.f2.f2), .int .u32 ((rd_T42 l0 Aa).f4.f2.f3)]] (by rfl) rfl rfl pL ?_
    with_reducible refine (garnerref06_May.calls k1 ((rd_T42 l0 Aa).f0) ((rd_T42 l0 Aa).f1) ((rd_T42 l0 Aa).f2) ((rd_T42 l0 Aa).f3) ((rd_T42 l0 Aa).f4.f0) _ _ ((rd_T42 l0 Aa).f4.f1) ((rd_T42 l0 Aa).f4.f2.f0) ((rd_T42 l0 Aa).f4.f2.f1) ((rd_T42 l0 Aa).f4.f2.f2) ((rd_T42 l0 Aa).f4.f2.f3) true _ ?Bh ?Bi A4.out).mono ?_
    (case Bh => exact pC (Kd.C_below Ap.out HB.out))
    (case Bi => exact A2.out)
    rintro e w13 ⟨rfl, hb⟩
    refine ⟨_, rfl, ?_⟩
    replace HB := Am (below_step (pB HB.out) hb)
    (try clear hb)
    (try clear hb2)
    (try clear hk)
    (try clear hi)
    refine hK.out _ _ ⟨(cT HB.out Ae), (cT HB.out Af), (cT HB.out Ag), (cT HB.out Ah), (cT HB.out Ai), (cT HB.out Aj), (cT HB.out Ak), (cT HB.out Al), (cT HB.out An), (cT HB.out Ao), (cT HB.out A6), (cT HB.out A7), (cT HB.out A8), (cT HB.out A9), (cT HB.out Ba), (cT HB.out Bb), (cT HB.out Bc), (cT HB.out Bd), (cT HB.out Be), (cT HB.out Bf)⟩ (fun hHeld => ?_)
    clear hK K
    refine norm_ (a' := ?_) ?_ ?_
    rotate_left
    ·show Act.put _ (some 14) _ = _
     simp only [Act.put, List.setIfInBounds_toArray, List.set_cons_zero, List.set_cons_succ, i64_w, i32_w]
     rfl
    refine pui 5 15 39 63 HT_ ?_
    refine pui 6 16 39 127 HT_ ?_
    refine pui 7 17 39 255 HT_ ?_
    refine pui 8 18 39 511 HT_ ?_
    refine pui 9 19 39 1023 HT_ ?_
    refine pui 10 20 39 2047 HT_ ?_
    refine pui 11 21 39 4095 HT_ ?_
    refine pui 12 22 39 8191 HT_ ?_
    refine pui 13 23 39 16383 HT_ ?_
    refine pui 16 26 39 81919 HT_ ?_
    refine pui 17 27 39 212991 HT_ ?_
    refine pui 18 28 39 475135 HT_ ?_
    refine pui 19 29 39 999423 HT_ ?_
    refine pui 20 30 39 2047999 HT_ ?_
    refine tki 14 24 39 2064383 HT_ HW_ hHeld ?_
    refine pui 15 25 39 2097151 HT_ ?_
    refine tki 21 31 39 4194303 HT_ HW_ hHeld ?_
    refine pui 22 32 39 8388607 HT_ ?_
    refine pui 23 33 39 16777215 HT_ ?_
    refine pui 24 34 39 33554431 HT_ ?_
    refine pui 25 35 39 67108863 HT_ ?_
    refine pui 26 36 39 134217727 HT_ ?_
    refine pui 27 37 39 268435455 HT_ ?_
    refine pui 29 39 39 805306367 HT_ ?_
    refine pui 30 40 39 1879048191 HT_ ?_
    refine pui 31 41 39 4026531839 HT_ ?_
    refine pui 32 42 39 8321499135 HT_ ?_
    refine pui 33 43 39 16911433727 HT_ ?_
    refine tki 28 38 39 17179869183 HT_ HW_ hHeld ?_
    refine tki 34 44 39 34359738367 HT_ HW_ hHeld ?_
    refine pui 35 45 39 68719476735 HT_ ?_
    refine pui 36 46 39 137438953471 HT_ ?_
    refine pui 37 47 39 274877906943 HT_ ?_
    refine pui 38 48 39 549755813887 HT_ ?_
    refine done_ (done_of HT_.out (by kernel_rfl)) ?_
    try go_wp2
    go_ret
    exact ⟨by first | rfl | (simp [errW_none, errW_some] <;> rfl) | (simp only [← hji7]; first | rfl | (simp [errW_none, errW_some] <;> rfl)) | (simp [*, errW_none, errW_some] <;> rfl), pB HB.out⟩
   rw [if_neg c11] at H
   have c11b0 : decide (((rd_T42 l0 Aa).f1) < ((rd_T42 l0 (ji7)).f1)) = false := decide_eq_false c11
   clear c11
   have H' := Am H
   clear H
   try go_wp2
   replace HB := bDa HB
   have p281 : 0 ≤ (Aa : Int) := of_decide_eq_true pS
   have q281 : Aa < (l0.length : Int) := of_decide_eq_true pS
   obtain ⟨Ab, Aq, c281_5, e281, Ar, As, At, Au, Av, Aw, Ax, Ay, Az, A1, Ac, Ad, Ae, Af, Ag, Ah, Ai, Aj, Ak, Al, An, Ao⟩ := at_T42w HR0.out Aa p281 q281 HB.out
   cases e281
   have Ap := Am Ad
   have A2 := Am Ac
   clear Ad Ac
   replace p281 := eq_true p281
   replace q281 := eq_true q281
   have p284 : 0 ≤ ((ji7) : Int) := of_decide_eq_true pS
   have q284 : (ji7) < (l0.length : Int) := of_decide_eq_true pS
   obtain ⟨B7, Bw, c284_5, e284, Bj, Bk, Bl, Bm, Bn, Bg, Bo, Bp, Bq, Br, A3, A5, A6, A7, A8, A9, Ba, Bb, Bc, Bd, Be, Bf⟩ := at_T42w HR0.out (ji7) p284 q284 HB.out
   obtain rfl : Ab = B7 := (by injection e284)
   have Bs := Am A5
   have B8 := Am A3
   clear A5 A3
   replace p284 := eq_true p284
   replace q284 := eq_true q284
   have p286 : 0 ≤ ((ji7) : Int) := of_decide_eq_true pS
   have q286 : (ji7) < (l0.length : Int) := of_decide_eq_true pS
   obtain ⟨B9, Cl, c286_5, e286, Bx, By, Bz, B0, B1, Bt, B2, B3, B4, B5, Bu, Bv, Ca, Cb, Cc, Cd, Ce, Cf, Cg, Ch, Ci, Cj⟩ := at_T42w HR0.out (ji7) p286 q286 HB.out
   obtain rfl : Ab = B9 := (by injection e286)
   have B6 := Am Bv
   have Ck := Am Bu
   clear Bv Bu
   replace p286 := eq_true p286
   replace q286 := eq_true q286
   have ea_ := Option.some.inj (Bg.symm.trans Bt)
   injection ea_ with ea_ en_ ec_
   subst ea_
   subst ec_
   clear en_
   refine start_ (n := 39) (S := fun w' => w'.cell? (Ab.add ((Aa).toNat * 10)) = some (.int .i64 ((rd_T42 l0 Aa).f0)) ∧ cA w' (Ab.add ((Aa).toNat * 10)) 1 (.int .i64 ((rd_T42 l0 Aa).f1)) ∧ cA w' (Ab.add ((Aa).toNat * 10)) 2 (.int .i64 ((rd_T42 l0 Aa).f2)) ∧ cA w' (Ab.add ((Aa).toNat * 10)) 3 (.string ((rd_T42 l0 Aa).f3)) ∧ cA w' (Ab.add ((Aa).toNat * 10)) 4 (.bool ((rd_T42 l0 Aa).f4.f0)) ∧ cA w' (Ab.add ((Aa).toNat * 10)) 5 (.slice Aq ((rd_T42 l0 Aa).f4.f1).length c281_5) ∧ cA w' (Ab.add ((Aa).toNat * 10)) 6 (.int .i64 ((rd_T42 l0 Aa).f4.f2.f0)) ∧ cA w' (Ab.add ((Aa).toNat * 10)) 7 (.int .i64 ((rd_T42 l0 Aa).f4.f2.f1)) ∧ cA w' (Ab.add ((Aa).toNat * 10)) 8 (.int .i64 ((rd_T42 l0 Aa).f4.f2.f2)) ∧ cA w' (Ab.add ((Aa).toNat * 10)) 9 (.int .u32 ((rd_T42 l0 Aa).f4.f2.f3)) ∧ w'.cell? (Ab.add (((ji7)).toNat * 10)) = some (.int .i64 ((rd_T42 l0 (ji7)).f0)) ∧ w'.cell? ⟨(Ab.add (((ji7)).toNat * 10)).block, (Ab.add (((ji7)).toNat * 10)).off + 1, none⟩ = some (.int .i64 ((rd_T42 l0 (ji7)).f1)) ∧ w'.cell? ⟨(Ab.add (((ji7)).toNat * 10)).block, (Ab.add (((ji7)).toNat * 10)).off + 2, none⟩ = some (.int .i64 ((rd_T42 l0 (ji7)).f2)) ∧ w'.cell? ⟨(Ab.add (((ji7)).toNat * 10)).block, (Ab.add (((ji7)).toNat * 10)).off + 3, none⟩ = some (.string ((rd_T42 l0 (ji7)).f3)) ∧ w'.cell? ⟨(Ab.add (((ji7)).toNat * 10)).block, (Ab.add (((ji7)).toNat * 10)).off + 4, none⟩ = some (.bool ((rd_T42 l0 (ji7)).f4.f0)) ∧ w'.cell? ⟨(Ab.add (((ji7)).toNat * 10)).block, (Ab.add (((ji7)).toNat * 10)).off + 5, none⟩ = some (.slice Bw ((rd_T42 l0 (ji7)).f4.f1).length c284_5) ∧ w'.cell? ⟨(Ab.add (((ji7)).toNat * 10)).block, (Ab.add (((ji7)).toNat * 10)).off + 6, none⟩ = some (.int .i64 ((rd_T42 l0 (ji7)).f4.f2.f0)) ∧ w'.cell? ⟨(Ab.add (((ji7)).toNat * 10)).block, (Ab.add (((ji7)).toNat * 10)).off + 7, none⟩ = some (.int .i64 ((rd_T42 l0 (ji7)).f4.f2.f1)) ∧ w'.cell? ⟨(Ab.add (((ji7)).toNat * 10)).block, (Ab.add (((ji7)).toNat * 10)).off + 8, none⟩ = some (.int .i64 ((rd_T42 l0 (ji7)).f4.f2.f2)) ∧ w'.cell? ⟨(Ab.add (((ji7)).toNat * 10)).block, (Ab.add (((ji7)).toNat * 10)).off + 9, none⟩ = some (.int .u32 ((rd_T42 l0 (ji7)).f4.f2.f3))) (ds := []) #[false, false, false, false, false, false, false, false, false, false, false, false, false, false, false, false, false, false, false, false, false, false, false, false, false, false, false, false, false, false, false, false, false, false, false, false, false, false, false] (by kernel_rfl) rfl rfl ⟨(cT HB.out Ae), (cT HB.out Af), (cT HB.out Ag), (cT HB.out Ah), (cT HB.out Ai), (cT HB.out Aj), (cT HB.out Ak), (cT HB.out Al), (cT HB.out An), (cT HB.out Ao), (cT HB.out A6), (cT HB.out A7), (cT HB.out A8), (cT HB.out A9), (cT HB.out Ba), (cT HB.out Bb), (cT HB.out Bc), (cT HB.out Bd), (cT HB.out Be), (cT HB.out Bf)⟩ (fun hHeld => ?_); refine with_tabW garnerref06_Batch.tab4 garnerref06_Batch.bits4 (fun HT_ HW_ => ?_)
   generalize wr.drew = w14 at HB Ap Bs B6 Ar As At Au Av Aw Ax Ay Az A1 Bj Bk Bl Bm Bn Bg Bo Bp Bq Br Bx By Bz B0 B1 Bt B2 B3 B4 B5 hHeld ⊢
   refine pui 0 10 39 1 HT_ ?_
   refine pui 1 11 39 3 HT_ ?_
   refine pui 2 12 39 7 HT_ ?_
   refine tki 3 13 39 15 HT_ HW_ hHeld ?_
   refine onei 4 14 39 31 HT_ (fun K hK => ?_)
   refine goes_ Try.func20 (by kernel_rfl) rfl #[.agg #[.int .i64 ((rd_T42 l0 Aa).f0), .int .i64 ((rd_T42 l0 Aa).f1), .int .i64 ((rd_T42 l0 Aa).f2), .string ((rd_T42 l0 Aa).f3), .bool ((rd_T42 l0 Aa).f4.f0), .slice Aq ((rd_T42 l0 Aa).f4.f1).length c281_5, .int .i64 ((rd_T42 l0 Aa).f4.f2.f0), .int .i64 ((rd_T42 l0 Aa).f4.f2.f1), .int .i64 ((rd_T42 l0 Aa).f4.f2.f2), .int .u32 ((rd_T42 l0 Aa).f4.f2.f3)]] (by rfl) rfl rfl pL ?_
   with_reducible refine (garnerref06_May.calls k1 ((rd_T42 l0 Aa).f0) ((rd_T42 l0 Aa).f1) ((rd_T42 l0 Aa).f2) ((rd_T42 l0 Aa).f3) ((rd_T42 l0 Aa).f4.f0) _ _ ((rd_T42 l0 Aa).f4.f1) ((rd_T42 l0 Aa).f4.f2.f0) ((rd_T42 l0 Aa).f4.f2.f1) ((rd_T42 l0 Aa).f4.f2.f2) ((rd_T42 l0 Aa).f4.f2.f3) true _ ?Bh ?Bi A4.out).mono ?_
   (case Bh => exact pC (Kd.C_below Ap.out HB.out))
   (case Bi => exact A2.out)
   rintro e w15 ⟨rfl, hb⟩
   refine ⟨_, rfl, ?_⟩
   replace HB := Am (below_step (pB HB.out) hb)
   (try clear hb)
   (try clear hb2)
   (try clear hk)
   (try clear hi)
   refine hK.out _ _ ⟨(cT HB.out Ae), (cT HB.out Af), (cT HB.out Ag), (cT HB.out Ah), (cT HB.out Ai), (cT HB.out Aj), (cT HB.out Ak), (cT HB.out Al), (cT HB.out An), (cT HB.out Ao), (cT HB.out A6), (cT HB.out A7), (cT HB.out A8), (cT HB.out A9), (cT HB.out Ba), (cT HB.out Bb), (cT HB.out Bc), (cT HB.out Bd), (cT HB.out Be), (cT HB.out Bf)⟩ (fun hHeld => ?_)
   clear hK K
   refine norm_ (a' := ?_) ?_ ?_
   rotate_left
   ·show Act.put _ (some 14) _ = _
    simp only [Act.put, List.setIfInBounds_toArray, List.set_cons_zero, List.set_cons_succ, i64_w, i32_w]
    rfl
   refine pui 5 15 39 63 HT_ ?_
   refine pui 6 16 39 127 HT_ ?_
   refine pui 7 17 39 255 HT_ ?_
   refine pui 8 18 39 511 HT_ ?_
   refine pui 9 19 39 1023 HT_ ?_
   refine pui 10 20 39 2047 HT_ ?_
   refine pui 11 21 39 4095 HT_ ?_
   refine pui 12 22 39 8191 HT_ ?_
   refine pui 13 23 39 16383 HT_ ?_
   refine pui 16 26 39 81919 HT_ ?_
   refine pui 17 27 39 212991 HT_ ?_
   refine pui 18 28 39 475135 HT_ ?_
   refine pui 19 29 39 999423 HT_ ?_
   refine pui 20 30 39 2047999 HT_ ?_
   refine tki 14 24 39 2064383 HT_ HW_ hHeld ?_
   refine pui 15 25 39 2097151 HT_ ?_
   refine tki 21 31 39 4194303 HT_ HW_ hHeld ?_
   refine pui 22 32 39 8388607 HT_ ?_
   refine pui 23 33 39 16777215 HT_ ?_
   refine pui 24 34 39 33554431 HT_ ?_
   refine pui 25 35 39 67108863 HT_ ?_
   refine pui 26 36 39 134217727 HT_ ?_
   refine pui 27 37 39 268435455 HT_ ?_
   refine pui 29 39 39 805306367 HT_ ?_
   refine pui 30 40 39 1879048191 HT_ ?_
   refine pui 31 41 39 4026531839 HT_ ?_
   refine pui 32 42 39 8321499135 HT_ ?_
   refine pui 33 43 39 16911433727 HT_ ?_
   refine tki 28 38 39 17179869183 HT_ HW_ hHeld ?_
   refine tki 34 44 39 34359738367 HT_ HW_ hHeld ?_
   refine pui 35 45 39 68719476735 HT_ ?_
   refine pui 36 46 39 137438953471 HT_ ?_
   refine pui 37 47 39 274877906943 HT_ ?_
   refine pui 38 48 39 549755813887 HT_ ?_
   refine done_ (done_of HT_.out (by kernel_rfl)) ?_
   try go_wp2
   go_roundg k1
   case measure => have := HK1.out; omega
   case rel => exact ⟨(wrap64 (Aa + 1)), (by first | rfl | (simp; done) | (simp [*]; done)), H', ⟨by have := HK1.out; omega⟩, ⟨pB HB.out⟩⟩
end Go.Proofs.Ytpplclcgkcjmpaa.PEntryGets
