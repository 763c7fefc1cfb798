/- What the law reaches, as plain Lean functions, and that the machine's calls answer just that. -/
import Derived.Test.YtdanmjfkocjgjaaPWalPutsx0
import Derived.Test.YtdanmjfkocjgjaaPWalPutsx5
namespace Go.Proofs.Ytdanmjfkocjgjaa.PWalPuts
open Go.RowKit Go.Proofs.YtdanmjfkocjgjaaW.PrintWords Go.Proofs.YtdanmjfkocjgjaaW.PrintLast Go.Proofs.YtdanmjfkocjgjaaW.PrintMore
set_option linter.unusedVariables false
set_option linter.unusedSimpArgs false
section
attribute [local go_sem] max2_int min2_int max_two min_two max_three min_three max_four min_four
set_option maxHeartbeats 8000000
attribute [local go_sem] wrap64_l1 wrap64_l2 wrap64_l3 wrap64_l4 wrap64_l5
def slices_IndexFunc_api_Rec.l0 : Nat → List (S30) → Int → Int → Option (Int)
 | 0, _, _, _ => none
 | k + 1, x0, x7, x8 => if x8 < x7 then (if 0 ≤ x8 then (if x8 < (x0.length : Int) then ((wal_Make_1.f k ((rd_T30 x0 x8).f0) ((rd_T30 x0 x8).f1) ((rd_T30 x0 x8).f2.f0) ((rd_T30 x0 x8).f2.f1) ((rd_T30 x0 x8).f2.f2) ((rd_T30 x0 x8).f3)).bind fun t139 => (if t139 = true then (some x8) else (slices_IndexFunc_api_Rec.l0 k x0 x7 (wrap64 (x8 + 1))))) else (none)) else (none)) else (some (-1))
def slices_IndexFunc_api_Rec.f (k : Nat) (l0 : List (S30))  : Option (Int) := slices_IndexFunc_api_Rec.l0 k l0 (l0.length : Int) 0
theorem slices_IndexFunc_api_Rec.mono_l : ∀ k, (∀ y0 y1 y2, LeO (slices_IndexFunc_api_Rec.l0 k y0 y1 y2) (slices_IndexFunc_api_Rec.l0 (k + 1) y0 y1 y2))
 | 0 => fun _ _ _ r h => by simp [slices_IndexFunc_api_Rec.l0] at h
 | k + 1 => by
  have ih0 := slices_IndexFunc_api_Rec.mono_l k
  ·intro y0 y1 y2
   unfold slices_IndexFunc_api_Rec.l0
   repeat' (with_reducible first | exact ih0 .. | exact wal_Make_1.mono .. | exact LeO.refl .. | exact LeO.none .. | refine LeO.ite ?_ ?_ | refine LeO.bind ?_ (fun _ => ?_))
theorem slices_IndexFunc_api_Rec.mono : ∀ a0 k, LeO (slices_IndexFunc_api_Rec.f k a0) (slices_IndexFunc_api_Rec.f (k + 1) a0) := by
 intro a0 k
 have ih0 := slices_IndexFunc_api_Rec.mono_l k
 unfold slices_IndexFunc_api_Rec.f
 repeat' (with_reducible first | exact ih0 .. | exact wal_Make_1.mono .. | exact LeO.refl .. | exact LeO.none .. | refine LeO.ite ?_ ?_ | refine LeO.bind ?_ (fun _ => ?_))
set_option maxRecDepth 100000 in
theorem slices_IndexFunc_api_Rec.calls (k : Nat) (A0 : Option Addr) (c0 : Nat) (l0 : List (S30))  (r : Int) (w : World) (hr0 : Kd.C k30 w A0 l0.length l0) (hc0 : l0.length ≤ c0) (h : slices_IndexFunc_api_Rec.f k l0 = some r) :
 Calls Try.prog 61 #[.slice A0 l0.length c0, .func (.func 39) #[] #[]] w fun e w' => e = .returned (.int .i64 r) ∧ Below w.heap.size w w' := by
 have hu30 := Try.underlying30
 have HR0 := Am hr0
 have HC0 := Am hc0
 clear hr0 hc0
 have HB := Am (Below.refl w.heap.size w)
 unfold slices_IndexFunc_api_Rec.f at h
 have H := h
 clear h
 have H' := Am H
 clear H
 go_enter Try.func61, Try.ntmps61
 go_wp2
 go_loopg [8] k (fun kq v8 w' => ∃ (Aa : Int), v8 = .int .i64 Aa ∧ Aside0 (slices_IndexFunc_api_Rec.l0 kq l0 (l0.length : Int) Aa = some r) ∧ Aside0 (kq ≤ k) ∧ Aside0 (Below w.heap.size w w'))
 case atStart => exact ⟨(0), zr, H', ⟨Nat.le_refl _⟩, ⟨pB HB.out⟩⟩
 case round =>
  clear H'
  try clear p2
  obtain ⟨Aa, rfl, HA, HK1, HB⟩ := hrel
  cases gk with
  | zero => exact absurd HA.out (by simp [slices_IndexFunc_api_Rec.l0])
  | succ k1 =>
   have H := HA.out
   clear HA
   simp only [slices_IndexFunc_api_Rec.l0] at H
   by_cases c3 : Aa < (l0.length : Int)
   rotate_left
   ·rw [if_neg c3] at H
    have c3b0 := decide_eq_false c3
    clear c3
    obtain rfl := Option.some.inj H
    go_wp2
    go_ret
    exact ⟨pX, pB HB.out⟩
   rw [if_pos c3] at H
   have c3b0 := decide_eq_true c3
   clear c3
   obtain ⟨c4, H⟩ := zI H
   have c4b0 := decide_eq_true c4
   clear c4
   obtain ⟨c5, H⟩ := zI H
   have c5b0 := decide_eq_true c5
   clear c5
   obtain ⟨t139, A6, H⟩ := zb H
   by_cases c7 : t139 = true
   ·subst c7
    rw [if_pos rfl] at H
    obtain rfl := Option.some.inj H
    have p138 : 0 ≤ (Aa : Int) := of_decide_eq_true pS
    have q138 : Aa < (l0.length : Int) := of_decide_eq_true pS
    obtain ⟨Ap, Ao, c138_1, e138, Ah, Ai, Aj, Ak, Al, An, Ab, Ac⟩ := at_T30u HR0.out Aa p138 q138 HB.out
    cases e138
    have Ad := Am Ac
    have Ae := Am Ab
    clear Ac Ab
    replace p138 := eq_true p138
    replace q138 := eq_true q138
    go_wp2_with (first | (go_at_call 39; (with_reducible refine (wal_Make_1.calls k1 ((rd_T30 l0 Aa).f0) _ _ ((rd_T30 l0 Aa).f1) ((rd_T30 l0 Aa).f2.f0) ((rd_T30 l0 Aa).f2.f1) ((rd_T30 l0 Aa).f2.f2) ((rd_T30 l0 Aa).f3) true _ ?Af ?Ag A6.out).mono ?_); (case Af => exact pC (Kd.C_below Ad.out HB.out)); (case Ag => exact Ae.out); rintro e w8 ⟨rfl, hb⟩; replace HB := zB HB hb; (try clear hb)))
    go_ret
    exact ⟨pX, pB HB.out⟩
   replace c7 := Bool.eq_false_iff.mpr c7
   subst c7
   rw [if_neg zF] at H
   have H' := Am H
   clear H
   have p138 : 0 ≤ (Aa : Int) := of_decide_eq_true pS
   have q138 : Aa < (l0.length : Int) := of_decide_eq_true pS
   obtain ⟨Ap, Ao, c138_1, e138, Ah, Ai, Aj, Ak, Al, An, Ab, Ac⟩ := at_T30u HR0.out Aa p138 q138 HB.out
   cases e138
   have Ad := Am Ac
   have Ae := Am Ab
   clear Ac Ab
   replace p138 := eq_true p138
   replace q138 := eq_true q138
   go_wp2_with (first | (go_at_call 39; (with_reducible refine (wal_Make_1.calls k1 ((rd_T30 l0 Aa).f0) _ _ ((rd_T30 l0 Aa).f1) ((rd_T30 l0 Aa).f2.f0) ((rd_T30 l0 Aa).f2.f1) ((rd_T30 l0 Aa).f2.f2) ((rd_T30 l0 Aa).f3) false _ ?Af ?Ag A6.out).mono ?_); (case Af => exact pC (Kd.C_below Ad.out HB.out)); (case Ag => exact Ae.out); rintro e w9 ⟨rfl, hb⟩; replace HB := zB HB hb; (try clear hb)))
   go_roundg k1
   case measure => have := HK1.out; omega
   case rel => exact ⟨(wrap64 (Aa + 1)), zr, H', ⟨by have := HK1.out; omega⟩, ⟨pB HB.out⟩⟩
def slices_ContainsFunc_api_Rec.f (k : Nat) (l0 : List (S30))  : Option (Bool) := (slices_IndexFunc_api_Rec.f k l0).bind fun t140 => (some (decide (t140 ≥ 0)))
theorem slices_ContainsFunc_api_Rec.mono : ∀ a0 k, LeO (slices_ContainsFunc_api_Rec.f k a0) (slices_ContainsFunc_api_Rec.f (k + 1) a0) := by
 intro a0 k
 unfold slices_ContainsFunc_api_Rec.f
 repeat' (with_reducible first | exact slices_IndexFunc_api_Rec.mono .. | exact LeO.refl .. | exact LeO.none .. | refine LeO.ite ?_ ?_ | refine LeO.bind ?_ (fun _ => ?_))
set_option maxRecDepth 100000 in
theorem slices_ContainsFunc_api_Rec.calls (k : Nat) (A0 : Option Addr) (c0 : Nat) (l0 : List (S30))  (r : Bool) (w : World) (hr0 : Kd.C k30 w A0 l0.length l0) (hc0 : l0.length ≤ c0) (h : slices_ContainsFunc_api_Rec.f k l0 = some r) :
 Calls Try.prog 38 #[.slice A0 l0.length c0, .func (.func 39) #[] #[]] w fun e w' => e = .returned (.bool r) ∧ Below w.heap.size w w' := by
 have HR0 := Am hr0
 have HC0 := Am hc0
 clear hr0 hc0
 have HB := Am (Below.refl w.heap.size w)
 unfold slices_ContainsFunc_api_Rec.f at h
 have H := h
 clear h
 obtain ⟨t140, A3, H⟩ := zb H
 obtain rfl := Option.some.inj H
 go_enter Try.func38, Try.ntmps38
 go_wp2_with (first | ((with_reducible refine zC 61 rfl ?_); refine zL (some 7) Try.func61 #[.slice A0 l0.length c0, .func (.func 39) #[] #[]] ?_; (with_reducible refine (slices_IndexFunc_api_Rec.calls k _ _ l0 t140 _ ?side1 ?side2 A3.out).mono ?_); (case side1 => repeat (first | exact HR0.out | (with_reducible refine Kd.C_alloc ?_ _) | (with_reducible refine Kd.C_drewN ?_ _) | (with_reducible refine Kd.C_drew ?_))); (case side2 => exact HC0.out); rintro e w4 ⟨rfl, hb⟩; refine ⟨_, rfl, ?_⟩; replace HB := zB HB hb; (try clear hb)))
 go_ret
 exact ⟨pX, pB HB.out⟩
def raft_Last.f (k : Nat) (a0_0 : Int) (a0_1 : Int) (l0_2 : List (S52)) (a0_3 : Int) (a0_4 : Int) (a0_5 : Int) (a0_6 : Int) : Option (Int × Int) := (raft_Check.f k a0_0 a0_1 l0_2 a0_3 a0_4 a0_5 a0_6).bind fun t142 => (if t142 = 0 then (if (l0_2.length : Int) > 0 then (if 0 ≤ (wrap64 ((l0_2.length : Int) - 1)) then (if (wrap64 ((l0_2.length : Int) - 1)) < (l0_2.length : Int) then (some ((rd_T52 l0_2 (wrap64 ((l0_2.length : Int) - 1))).f0, (rd_T52 l0_2 (wrap64 ((l0_2.length : Int) - 1))).f1)) else (none)) else (none)) else (some (a0_0, a0_1))) else (none))
theorem raft_Last.mono : ∀ a0 a1 a2 a3 a4 a5 a6 k, LeO (raft_Last.f k a0 a1 a2 a3 a4 a5 a6) (raft_Last.f (k + 1) a0 a1 a2 a3 a4 a5 a6) := by
 intro a0 a1 a2 a3 a4 a5 a6 k
 unfold raft_Last.f
 repeat' (with_reducible first | exact raft_Check.mono .. | exact LeO.refl .. | exact LeO.none .. | refine LeO.ite ?_ ?_ | refine LeO.bind ?_ (fun _ => ?_))
set_option maxRecDepth 100000 in
theorem raft_Last.calls (k : Nat) (a0_0 : Int) (a0_1 : Int) (A0_2 : Option Addr) (c0_2 : Nat) (l0_2 : List (S52)) (a0_3 : Int) (a0_4 : Int) (a0_5 : Int) (a0_6 : Int) (r1 : Int) (r2 : Int) (w : World) (hr0_2 : Kd.C k52 w A0_2 l0_2.length l0_2) (hc0_2 : l0_2.length ≤ c0_2) (h : raft_Last.f k a0_0 a0_1 l0_2 a0_3 a0_4 a0_5 a0_6 = some (r1, r2)) :
 Calls Try.prog 74 #[.agg #[.int .i64 a0_0, .int .i64 a0_1, .slice A0_2 l0_2.length c0_2, .int .i64 a0_3, .int .i64 a0_4, .int .i64 a0_5, .int .i64 a0_6]] w fun e w' => e = .returned (.tuple #[.int .i64 r1, .int .i64 r2]) ∧ Below w.heap.size w w' := by
 have hu54 := Try.underlying54
 have A1 := Am hr0_2
 have A7 := Am hc0_2
 clear hr0_2 hc0_2
 have HB := Am (Below.refl w.heap.size w)
 unfold raft_Last.f at h
 have H := h
 clear h
 obtain ⟨t142, A2, H⟩ := zb H
 obtain ⟨c3, H⟩ := zI H
 obtain ⟨c3b0, c3b1⟩ := zc c3
 clear c3
 by_cases c4 : (l0_2.length : Int) > 0
 rotate_left
 ·rw [if_neg c4] at H
  have c4b0 : decide (0 < (l0_2.length : Int)) = false := decide_eq_false c4
  have c4b1 : decide (0 < l0_2.length) = false := decide_eq_false (by omega)
  clear c4
  simp only [Option.some.injEq, Prod.mk.injEq] at H
  obtain ⟨rfl, rfl⟩ := H
  go_enter Try.func74, Try.ntmps74
  go_wp2_with (first | ((with_reducible refine zD 1 rfl ?_); refine zE 1 #[.int .i64 a0_0, .int .i64 a0_1, .slice A0_2 l0_2.length c0_2, .int .i64 a0_3, .int .i64 a0_4, .int .i64 a0_5, .int .i64 a0_6] 54 ?_; intro A3 hg w12 hbox hb; have Aa := Am (hbox); have A4 := zA hg HB; replace HB := zB HB hb; have A0 := A4; clear hb hbox hg; obtain ⟨Bs, Bt, Bu, Bv, Bw, Bx, By⟩ := bc7 Aa.out; obtain ⟨Bz, B0, B1, B2, B3, B4, B5⟩ := bf7 Aa.out) | (go_at_call 37; (with_reducible refine (raft_Check.calls k a0_0 a0_1 _ _ l0_2 a0_3 a0_4 a0_5 a0_6 t142 _ ?A5 ?A6 A2.out).mono ?_); (case A5 => exact pC (Kd.C_below A1.out HB.out)); (case A6 => exact A7.out); rintro e w14 ⟨rfl, hb⟩; replace Aa := kBa Aa hb; replace HB := zX1 HB A0.out hb; (try clear hb); obtain ⟨B6, B7, B8, B9, Ca, Cb, Cc⟩ := bc7 Aa.out; obtain ⟨Cd, Ce, Cf, Cg, Ch, Ci, Cj⟩ := bf7 Aa.out))
  repeat (go_quiet (first | ((with_reducible refine zD 1 rfl ?_); refine zE 1 #[.int .i64 a0_0, .int .i64 a0_1, .slice A0_2 l0_2.length c0_2, .int .i64 a0_3, .int .i64 a0_4, .int .i64 a0_5, .int .i64 a0_6] 54 ?_; intro A3 hg w12 hbox hb; have Aa := Am (hbox); have A4 := zA hg HB; replace HB := zB HB hb; have A0 := A4; clear hb hbox hg; obtain ⟨Bs, Bt, Bu, Bv, Bw, Bx, By⟩ := bc7 Aa.out; obtain ⟨Bz, B0, B1, B2, B3, B4, B5⟩ := bf7 Aa.out) | (go_at_call 37; (with_reducible refine (raft_Check.calls k a0_0 a0_1 _ _ l0_2 a0_3 a0_4 a0_5 a0_6 t142 _ ?A5 ?A6 A2.out).mono ?_); (case A5 => exact pC (Kd.C_below A1.out HB.out)); (case A6 => exact A7.out); rintro e w14 ⟨rfl, hb⟩; replace Aa := kBa Aa hb; replace HB := zX1 HB A0.out hb; (try clear hb); obtain ⟨B6, B7, B8, B9, Ca, Cb, Cc⟩ := bc7 Aa.out; obtain ⟨Cd, Ce, Cf, Cg, Ch, Ci, Cj⟩ := bf7 Aa.out)); try go_wp2_with (first | ((with_reducible refine zD 1 rfl ?_); refine zE 1 #[.int .i64 a0_0, .int .i64 a0_1, .slice A0_2 l0_2.length c0_2, .int .i64 a0_3, .int .i64 a0_4, .int .i64 a0_5, .int .i64 a0_6] 54 ?_; intro A3 hg w12 hbox hb; have Aa := Am (hbox); have A4 := zA hg HB; replace HB := zB HB hb; have A0 := A4; clear hb hbox hg; obtain ⟨Bs, Bt, Bu, Bv, Bw, Bx, By⟩ := bc7 Aa.out; obtain ⟨Bz, B0, B1, B2, B3, B4, B5⟩ := bf7 Aa.out) | (go_at_call 37; (with_reducible refine (raft_Check.calls k a0_0 a0_1 _ _ l0_2 a0_3 a0_4 a0_5 a0_6 t142 _ ?A5 ?A6 A2.out).mono ?_); (case A5 => exact pC (Kd.C_below A1.out HB.out)); (case A6 => exact A7.out); rintro e w14 ⟨rfl, hb⟩; replace Aa := kBa Aa hb; replace HB := zX1 HB A0.out hb; (try clear hb); obtain ⟨B6, B7, B8, B9, Ca, Cb, Cc⟩ := bc7 Aa.out; obtain ⟨Cd, Ce, Cf, Cg, Ch, Ci, Cj⟩ := bf7 Aa.out)))
  go_ret2
  exact ⟨pX, pE HB.out A0.out⟩
 rw [if_pos c4] at H
 have c4b0 : decide (0 < (l0_2.length : Int)) = true := decide_eq_true c4
 have c4b1 : decide (0 < l0_2.length) = true := decide_eq_true (by omega)
 clear c4
 obtain ⟨ji5, hji5⟩ : ∃ j_ : Int, (wrap64 ((l0_2.length : Int) - 1)) = j_ := ⟨_, rfl⟩
 replace H : (if 0 ≤ (ji5) then (if (ji5) < (l0_2.length : Int) then (some ((rd_T52 l0_2 (ji5)).f0, (rd_T52 l0_2 (ji5)).f1)) else (none)) else (none)) = some (r1, r2) := by first | (rw [hji5] at H; exact H) | (simp only [hji5] at H ⊢; exact H)
 (try rw [hji5] at A2)
 have hji5w : (IntKind.i64.wrap ((l0_2.length : Int) - 1)) = ji5 := (i64_w _).trans hji5
 obtain ⟨c6, H⟩ := zI H
 have c6b0 := decide_eq_true c6
 clear c6
 obtain ⟨c7, H⟩ := zI H
 have c7b0 := decide_eq_true c7
 clear c7
 simp only [Option.some.injEq, Prod.mk.injEq] at H
 obtain ⟨rfl, rfl⟩ := H
 go_enter Try.func74, Try.ntmps74
 go_wp2_with (first | ((with_reducible refine zD 1 rfl ?_); refine zE 1 #[.int .i64 a0_0, .int .i64 a0_1, .slice A0_2 l0_2.length c0_2, .int .i64 a0_3, .int .i64 a0_4, .int .i64 a0_5, .int .i64 a0_6] 54 ?_; intro A3 hg w8 hbox hb; have Aa := Am (hbox); have A4 := zA hg HB; replace HB := zB HB hb; have A0 := A4; clear hb hbox hg; obtain ⟨Ck, Cl, Cm, Cn, Co, Cp, Cq⟩ := bc7 Aa.out; obtain ⟨Cr, Cs, Ct, Cu, Cv, Cw, Cx⟩ := bf7 Aa.out) | (go_at_call 37; (with_reducible refine (raft_Check.calls k a0_0 a0_1 _ _ l0_2 a0_3 a0_4 a0_5 a0_6 t142 _ ?A5 ?A6 A2.out).mono ?_); (case A5 => exact pC (Kd.C_below A1.out HB.out)); (case A6 => exact A7.out); rintro e w10 ⟨rfl, hb⟩; replace Aa := kBa Aa hb; replace HB := zX1 HB A0.out hb; (try clear hb); obtain ⟨Ba, Bb, Bc, Bd, Be, Bf, Bg⟩ := bc7 Aa.out; obtain ⟨Bh, Bi, Bj, Bk, Bl, Bm, Bn⟩ := bf7 Aa.out; have p143 : 0 ≤ ((ji5) : Int) := of_decide_eq_true pS; have q143 : (ji5) < (l0_2.length : Int) := of_decide_eq_true pS; obtain ⟨A8, Cy, c143_5, e143, Ad, Ae, Af, Ag, Ah, Ab, Ai, Aj, Ak, Al, An, Ao⟩ := at_T52 A1.out (ji5) p143 q143; cases e143; replace Ad := cU HB.out Ad; replace Ae := cU HB.out Ae; replace Af := cU HB.out Af; replace Ag := cU HB.out Ag; replace Ah := cU HB.out Ah; replace Ab := cU HB.out Ab; replace Ai := cU HB.out Ai; replace Aj := cU HB.out Aj; replace Ak := cU HB.out Ak; replace Al := cU HB.out Al; have Bo := Am Ao; have Bp := Am An; clear Ao An; replace p143 := eq_true p143; replace q143 := eq_true q143; have p144 : 0 ≤ ((ji5) : Int) := of_decide_eq_true pS; have q144 : (ji5) < (l0_2.length : Int) := of_decide_eq_true pS; obtain ⟨A9, Cz, c144_5, e144, Ap, Aq, Ar, As, At, Ac, Au, Av, Aw, Ax, Ay, Az⟩ := at_T52 A1.out (ji5) p144 q144; obtain rfl : A8 = A9 := (by injection e144); replace Ap := cU HB.out Ap; replace Aq := cU HB.out Aq; replace Ar := cU HB.out Ar; replace As := cU HB.out As; replace At := cU HB.out At; replace Ac := cU HB.out Ac; replace Au := cU HB.out Au; replace Av := cU HB.out Av; replace Aw := cU HB.out Aw; replace Ax := cU HB.out Ax; have Bq := Am Az; have Br := Am Ay; clear Az Ay; replace p144 := eq_true p144; replace q144 := eq_true q144; have ea_ := Option.some.inj (Ab.symm.trans Ac); injection ea_ with ea_ en_ ec_; subst ea_; subst ec_; clear en_))
 repeat (go_quiet (first | ((with_reducible refine zD 1 rfl ?_); refine zE 1 #[.int .i64 a0_0, .int .i64 a0_1, .slice A0_2 l0_2.length c0_2, .int .i64 a0_3, .int .i64 a0_4, .int .i64 a0_5, .int .i64 a0_6] 54 ?_; intro A3 hg w8 hbox hb; have Aa := Am (hbox); have A4 := zA hg HB; replace HB := zB HB hb; have A0 := A4; clear hb hbox hg; obtain ⟨Ck, Cl, Cm, Cn, Co, Cp, Cq⟩ := bc7 Aa.out; obtain ⟨Cr, Cs, Ct, Cu, Cv, Cw, Cx⟩ := bf7 Aa.out) | (go_at_call 37; (with_reducible refine (raft_Check.calls k a0_0 a0_1 _ _ l0_2 a0_3 a0_4 a0_5 a0_6 t142 _ ?A5 ?A6 A2.out).mono ?_); (case A5 => exact pC (Kd.C_below A1.out HB.out)); (case A6 => exact A7.out); rintro e w10 ⟨rfl, hb⟩; replace Aa := kBa Aa hb; replace HB := zX1 HB A0.out hb; (try clear hb); obtain ⟨Ba, Bb, Bc, Bd, Be, Bf, Bg⟩ := bc7 Aa.out; obtain ⟨Bh, Bi, Bj, Bk, Bl, Bm, Bn⟩ := bf7 Aa.out; have p143 : 0 ≤ ((ji5) : Int) := of_decide_eq_true pS; have q143 : (ji5) < (l0_2.length : Int) := of_decide_eq_true pS; obtain ⟨A8, Cy, c143_5, e143, Ad, Ae, Af, Ag, Ah, Ab, Ai, Aj, Ak, Al, An, Ao⟩ := at_T52 A1.out (ji5) p143 q143; cases e143; replace Ad := cU HB.out Ad; replace Ae := cU HB.out Ae; replace Af := cU HB.out Af; replace Ag := cU HB.out Ag; replace Ah := cU HB.out Ah; replace Ab := cU HB.out Ab; replace Ai := cU HB.out Ai; replace Aj := cU HB.out Aj; replace Ak := cU HB.out Ak; replace Al := cU HB.out Al; have Bo := Am Ao; have Bp := Am An; clear Ao An; replace p143 := eq_true p143; replace q143 := eq_true q143; have p144 : 0 ≤ ((ji5) : Int) := of_decide_eq_true pS; have q144 : (ji5) < (l0_2.length : Int) := of_decide_eq_true pS; obtain ⟨A9, Cz, c144_5, e144, Ap, Aq, Ar, As, At, Ac, Au, Av, Aw, Ax, Ay, Az⟩ := at_T52 A1.out (ji5) p144 q144; obtain rfl : A8 = A9 := (by injection e144); replace Ap := cU HB.out Ap; replace Aq := cU HB.out Aq; replace Ar := cU HB.out Ar; replace As := cU HB.out As; replace At := cU HB.out At; replace Ac := cU HB.out Ac; replace Au := cU HB.out Au; replace Av := cU HB.out Av; replace Aw := cU HB.out Aw; replace Ax := cU HB.out Ax; have Bq := Am Az; have Br := Am Ay; clear Az Ay; replace p144 := eq_true p144; replace q144 := eq_true q144; have ea_ := Option.some.inj (Ab.symm.trans Ac); injection ea_ with ea_ en_ ec_; subst ea_; subst ec_; clear en_)); try go_wp2_with (first | ((with_reducible refine zD 1 rfl ?_); refine zE 1 #[.int .i64 a0_0, .int .i64 a0_1, .slice A0_2 l0_2.length c0_2, .int .i64 a0_3, .int .i64 a0_4, .int .i64 a0_5, .int .i64 a0_6] 54 ?_; intro A3 hg w8 hbox hb; have Aa := Am (hbox); have A4 := zA hg HB; replace HB := zB HB hb; have A0 := A4; clear hb hbox hg; obtain ⟨Ck, Cl, Cm, Cn, Co, Cp, Cq⟩ := bc7 Aa.out; obtain ⟨Cr, Cs, Ct, Cu, Cv, Cw, Cx⟩ := bf7 Aa.out) | (go_at_call 37; (with_reducible refine (raft_Check.calls k a0_0 a0_1 _ _ l0_2 a0_3 a0_4 a0_5 a0_6 t142 _ ?A5 ?A6 A2.out).mono ?_); (case A5 => exact pC (Kd.C_below A1.out HB.out)); (case A6 => exact A7.out); rintro e w10 ⟨rfl, hb⟩; replace Aa := kBa Aa hb; replace HB := zX1 HB A0.out hb; (try clear hb); obtain ⟨Ba, Bb, Bc, Bd, Be, Bf, Bg⟩ := bc7 Aa.out; obtain ⟨Bh, Bi, Bj, Bk, Bl, Bm, Bn⟩ := bf7 Aa.out; have p143 : 0 ≤ ((ji5) : Int) := of_decide_eq_true pS; have q143 : (ji5) < (l0_2.length : Int) := of_decide_eq_true pS; obtain ⟨A8, Cy, c143_5, e143, Ad, Ae, Af, Ag, Ah, Ab, Ai, Aj, Ak, Al, An, Ao⟩ := at_T52 A1.out (ji5) p143 q143; cases e143; replace Ad := cU HB.out Ad; replace Ae := cU HB.out Ae; replace Af := cU HB.out Af; replace Ag := cU HB.out Ag; replace Ah := cU HB.out Ah; replace Ab := cU HB.out Ab; replace Ai := cU HB.out Ai; replace Aj := cU HB.out Aj; replace Ak := cU HB.out Ak; replace Al := cU HB.out Al; have Bo := Am Ao; have Bp := Am An; clear Ao An; replace p143 := eq_true p143; replace q143 := eq_true q143; have p144 : 0 ≤ ((ji5) : Int) := of_decide_eq_true pS; have q144 : (ji5) < (l0_2.length : Int) := of_decide_eq_true pS; obtain ⟨A9, Cz, c144_5, e144, Ap, Aq, Ar, As, At, Ac, Au, Av, Aw, Ax, Ay, Az⟩ := at_T52 A1.out (ji5) p144 q144; obtain rfl : A8 = A9 := (by injection e144); replace Ap := cU HB.out Ap; replace Aq := cU HB.out Aq; replace Ar := cU HB.out Ar; replace As := cU HB.out As; replace At := cU HB.out At; replace Ac := cU HB.out Ac; replace Au := cU HB.out Au; replace Av := cU HB.out Av; replace Aw := cU HB.out Aw; replace Ax := cU HB.out Ax; have Bq := Am Az; have Br := Am Ay; clear Az Ay; replace p144 := eq_true p144; replace q144 := eq_true q144; have ea_ := Option.some.inj (Ab.symm.trans Ac); injection ea_ with ea_ en_ ec_; subst ea_; subst ec_; clear en_)))
 go_ret2
 exact ⟨by first | rfl | (simp [errW_none, errW_some] <;> rfl) | (simp only [← hji5]; first | rfl | (simp [errW_none, errW_some] <;> rfl)) | (simp [*, errW_none, errW_some] <;> rfl), pE HB.out A0.out⟩
def raft_Term.f (k : Nat) (a0_0 : Int) (a0_1 : Int) (l0_2 : List (S52)) (a0_3 : Int) (a0_4 : Int) (a0_5 : Int) (a0_6 : Int) (a1 : Int) : Option (Int × Int) := (raft_Last.f k a0_0 a0_1 l0_2 a0_3 a0_4 a0_5 a0_6).bind fun bt146 => ((raft_Check.f k a0_0 a0_1 l0_2 a0_3 a0_4 a0_5 a0_6).bind fun t148 => (if t148 = 0 then (if a1 < a0_0 then (none) else (if a1 > bt146.1 then (none) else (if a1 = a0_0 then (some (a0_1, 0)) else (none)))) else (none)))
theorem raft_Term.mono : ∀ a0 a1 a2 a3 a4 a5 a6 a7 k, LeO (raft_Term.f k a0 a1 a2 a3 a4 a5 a6 a7) (raft_Term.f (k + 1) a0 a1 a2 a3 a4 a5 a6 a7) := by
 intro a0 a1 a2 a3 a4 a5 a6 a7 k
 unfold raft_Term.f
 repeat' (with_reducible first | exact raft_Check.mono .. | exact raft_Last.mono .. | exact LeO.refl .. | exact LeO.none .. | refine LeO.ite ?_ ?_ | refine LeO.bind ?_ (fun _ => ?_))
set_option maxRecDepth 100000 in
theorem raft_Term.calls (k : Nat) (a0_0 : Int) (a0_1 : Int) (A0_2 : Option Addr) (c0_2 : Nat) (l0_2 : List (S52)) (a0_3 : Int) (a0_4 : Int) (a0_5 : Int) (a0_6 : Int) (a1 : Int) (r1 : Int) (r2 : Int) (w : World) (hr0_2 : Kd.C k52 w A0_2 l0_2.length l0_2) (hc0_2 : l0_2.length ≤ c0_2) (h : raft_Term.f k a0_0 a0_1 l0_2 a0_3 a0_4 a0_5 a0_6 a1 = some (r1, r2)) :
 Calls Try.prog 75 #[.agg #[.int .i64 a0_0, .int .i64 a0_1, .slice A0_2 l0_2.length c0_2, .int .i64 a0_3, .int .i64 a0_4, .int .i64 a0_5, .int .i64 a0_6], .int .i64 a1] w fun e w' => e = .returned (.tuple #[.int .i64 r1, .int .i64 r2]) ∧ Below w.heap.size w w' := by
 have hu54 := Try.underlying54
 have Ae := Am hr0_2
 have Af := Am hc0_2
 clear hr0_2 hc0_2
 have HB := Am (Below.refl w.heap.size w)
 unfold raft_Term.f at h
 have H := h
 clear h
 obtain ⟨⟨t146, t147⟩, A3, H⟩ := zb H
 dsimp only at H
 obtain ⟨t148, A4, H⟩ := zb H
 obtain ⟨c5, H⟩ := zI H
 obtain ⟨c5b0, c5b1⟩ := zc c5
 clear c5
 obtain ⟨c6, H⟩ := zJ H
 have c6b0 := decide_eq_false c6
 clear c6
 obtain ⟨c7, H⟩ := zJ H
 have c7b0 : decide (t146 < a1) = false := decide_eq_false c7
 clear c7
 obtain ⟨c8, H⟩ := zI H
 obtain ⟨c8b0, c8b1⟩ := zc c8
 clear c8
 simp only [Option.some.injEq, Prod.mk.injEq] at H
 obtain ⟨rfl, rfl⟩ := H
 go_enter Try.func75, Try.ntmps75
 go_wp2_with (first | ((with_reducible refine zD 2 rfl ?_); refine zE 2 #[.int .i64 a0_0, .int .i64 a0_1, .slice A0_2 l0_2.length c0_2, .int .i64 a0_3, .int .i64 a0_4, .int .i64 a0_5, .int .i64 a0_6] 54 ?_; intro Ag hg w9 hbox hb; have Aa := Am (hbox); have Ah := zA hg HB; replace HB := zB HB hb; have Ab := Ah; clear hb hbox hg; obtain ⟨_, _, _, _, _, _, _⟩ := bc7 Aa.out; obtain ⟨_, _, _, _, _, _, _⟩ := bf7 Aa.out) | ((with_reducible refine zC 74 rfl ?_); refine zL (some 10) Try.func74 #[.agg #[.int .i64 a0_0, .int .i64 a0_1, .slice A0_2 l0_2.length c0_2, .int .i64 a0_3, .int .i64 a0_4, .int .i64 a0_5, .int .i64 a0_6]] ?_; (with_reducible refine (raft_Last.calls k a0_0 a0_1 _ _ l0_2 a0_3 a0_4 a0_5 a0_6 t146 t147 _ ?Ac ?Ad A3.out).mono ?_); (case Ac => exact pC (Kd.C_below Ae.out HB.out)); (case Ad => exact Af.out); rintro e w11 ⟨rfl, hb⟩; refine ⟨_, rfl, ?_⟩; replace Aa := kBa Aa hb; replace HB := zX1 HB Ab.out hb; (try clear hb); obtain ⟨_, _, _, _, _, _, _⟩ := bc7 Aa.out; obtain ⟨_, _, _, _, _, _, _⟩ := bf7 Aa.out) | ((with_reducible refine zC 37 rfl ?_); refine zL (some 15) Try.func37 #[.agg #[.int .i64 a0_0, .int .i64 a0_1, .slice A0_2 l0_2.length c0_2, .int .i64 a0_3, .int .i64 a0_4, .int .i64 a0_5, .int .i64 a0_6]] ?_; (with_reducible refine (raft_Check.calls k a0_0 a0_1 _ _ l0_2 a0_3 a0_4 a0_5 a0_6 t148 _ ?Ac ?Ad A4.out).mono ?_); (case Ac => exact pC (Kd.C_below Ae.out HB.out)); (case Ad => exact Af.out); rintro e w13 ⟨rfl, hb⟩; refine ⟨_, rfl, ?_⟩; replace Aa := kBa Aa hb; replace HB := zX1 HB Ab.out hb; (try clear hb); obtain ⟨_, _, _, _, _, _, _⟩ := bc7 Aa.out; obtain ⟨_, _, _, _, _, _, _⟩ := bf7 Aa.out))
 go_ret2
 exact ⟨pX, pE HB.out Ab.out⟩
def slices_Clone_byte_byte.f (l0 : List Int) : Option (List Int) := if l0.length < 140737488355328 then some l0 else none
set_option maxHeartbeats 4000000 in
set_option maxRecDepth 100000 in
theorem slices_Clone_byte_byte.calls (A0 : Option Addr) (c0 : Nat) (l0 : List Int) (r : List Int) (w : World) (hr0 : Kd.C (Kd.int .u8) w A0 l0.length l0) (hc0 : l0.length ≤ c0) (h : slices_Clone_byte_byte.f l0 = some r) :
 Calls Try.prog 86 #[.slice A0 l0.length c0] w fun e w' => ∃ v0_ : Value, e = .returned (v0_) ∧ Kd.R (Kd.int .u8) 5 w' w.heap.size (fun _ => True) v0_ r ∧ Below w.heap.size w w' := by
 unfold slices_Clone_byte_byte.f at h
 by_cases hl : l0.length < 140737488355328
 ·rw [if_pos hl] at h
  obtain rfl := Option.some.inj h
  have HR0 := Aside0.mk hr0
  have HC0 := Aside0.mk hc0
  have LM := Aside0.mk hl
  clear hr0 hc0 hl h
  have HB := Aside0.mk (Below.refl w.heap.size w)
  have heq := fun (W : World) (a : Option Addr) (n c : Nat) => Lib.run_eql_slice_nil (P := Try.prog) W 22 5 a n c 0 0 Try.underlying22
  cases A0 with
  | none =>
   have e0 : l0 = [] := by
    cases l0 with
    | nil => rfl
    | cons x y =>
     obtain ⟨ad, had, _⟩ := HR0.out.2.2 (by simp)
     cases had
   subst e0
   go_enter Try.func86, Try.ntmps86
   go_wp2
   go_ret
   exact ⟨_, rfl, Kd.R_nil _ _ _ _ _, HB.out⟩
  | some ad =>
   go_enter Try.func86, Try.ntmps86
   go_wp2_with (first | ((with_reducible refine zD 5 rfl ?_); refine Kd.R_lit (Kd.int .u8) _ 5 ?hg (N := 5) ?hd (xs := ([] : List Int)) (inner := []) (ok := fun _ => True) (okp := fun _ => True) ?hr ?hp (fun _ hk => hk) trivial (Below.refl _ _) (Nat.le_refl _) (by simp) ?_; (case hd => rfl); (case hg => rfl); (case hr => first | (go_simp; done) | (go_simp; rfl)); (case hp => exact (Reps.none _ _)); intro v182 w12 ho13 hb hg_ hnew_; clear hg_ hnew_; have n0_ := Aside0.mk (Kd.R_lower ho13 (below_size (by repeat (first | (with_reducible first | exact HB.out | apply below_alloc | apply pw_below_drewN | apply below_drew1) | exact HB.out)))); have n1_ := Aside0.mk (below_step (by repeat (first | (with_reducible first | exact HB.out | apply below_alloc | apply pw_below_drewN | apply below_drew1) | exact HB.out)) hb); clear HB; have HO183 := n0_; have HB := n1_; clear n0_ n1_; clear hb ho13) | ((with_reducible refine gate_builtin (b := .append) (xs := #[.tmp 5, .tmp 6]) rfl ?_); at_builtin; refine Kd.R_append_rows (Kd.int .u8) (w0 := w) w.heap.size rfl (.tmp 5) (.tmp 6) 22 5 (.int .u8 0) 1 rfl Try.underlying22 info5 rfl (by decide) (by omega) v182 [] l0 _ _ _ (fun _ => True) (fun _ => False) rfl rfl ?aO ?aR (fun _ _ h => h) (fun _ h => h.elim) ?aF ?aB ?aS ?aL ?_; (case aR => repeat (first | exact (Kd.C_below HR0.out HB.out) | (with_reducible refine Kd.C_alloc ?_ _) | (with_reducible refine Kd.C_drewN ?_ _) | (with_reducible refine Kd.C_drew ?_))); (case aB => exact (by repeat (first | (with_reducible first | exact HB.out | apply below_alloc | apply pw_below_drewN | apply below_drew1) | exact HB.out))); (case aF => exact (fun _ _ => trivial)); (case aO => exact (zR HO183.out)); (case aS => exact (below_size (by repeat (first | (with_reducible first | exact HB.out | apply below_alloc | apply pw_below_drewN | apply below_drew1) | exact HB.out)))); (case aL => have := LM.out; simp only [List.length_nil]; omega); intro v185 w14 ho hb hg hat; have n0_ := Aside0.mk (hb); have n1_ := Aside0.mk (ho); clear HB; clear HO183; have HB := n0_; have HO186 := n1_; clear n0_ n1_; clear ho hb hg hat))
   go_ret
   exact ⟨_, rfl, HO186.out, HB.out⟩
 ·rw [if_neg hl] at h
  cases h
def raft_own.f (a0_0 : Int) (a0_1 : Int) (a0_2 : Int) (a0_3 : ByteArray) (a0_4 : Bool) (l0_5 : List Int) (a0_6 : Int) (a0_7 : Int) (a0_8 : Int) (a0_9 : Int) : Option (Int × Int × Int × ByteArray × Bool × List Int × Int × Int × Int × Int) := (slices_Clone_byte_byte.f l0_5).bind fun t151 => (some (a0_0, a0_1, a0_2, a0_3, a0_4, t151, a0_6, a0_7, a0_8, a0_9))
set_option maxRecDepth 100000 in
theorem raft_own.calls (a0_0 : Int) (a0_1 : Int) (a0_2 : Int) (a0_3 : ByteArray) (a0_4 : Bool) (A0_5 : Option Addr) (c0_5 : Nat) (l0_5 : List Int) (a0_6 : Int) (a0_7 : Int) (a0_8 : Int) (a0_9 : Int) (r1 : Int) (r2 : Int) (r3 : Int) (r4 : ByteArray) (r5 : Bool) (r6 : List Int) (r7 : Int) (r8 : Int) (r9 : Int) (r10 : Int) (w : World) (hr0_5 : Kd.C (Kd.int .u8) w A0_5 l0_5.length l0_5) (hc0_5 : l0_5.length ≤ c0_5) (h : raft_own.f a0_0 a0_1 a0_2 a0_3 a0_4 l0_5 a0_6 a0_7 a0_8 a0_9 = some (r1, r2, r3, r4, r5, r6, r7, r8, r9, r10)) :
 Calls Try.prog 83 #[.agg #[.int .i64 a0_0, .int .i64 a0_1, .int .i64 a0_2, .string a0_3, .bool a0_4, .slice A0_5 l0_5.length c0_5, .int .i64 a0_6, .int .i64 a0_7, .int .i64 a0_8, .int .u32 a0_9]] w fun e w' => ∃ v5_ : Value, e = .returned (.agg #[.int .i64 r1, .int .i64 r2, .int .i64 r3, .string r4, .bool r5, v5_, .int .i64 r7, .int .i64 r8, .int .i64 r9, .int .u32 r10]) ∧ Kd.R (Kd.int .u8) 5 w' w.heap.size (fun _ => True) v5_ r6 ∧ Below w.heap.size w w' := by
 have hu52 := Try.underlying52
 have Aj := Am hr0_5
 have Ak := Am hc0_5
 clear hr0_5 hc0_5
 have HB := Am (Below.refl w.heap.size w)
 unfold raft_own.f at h
 have H := h
 clear h
 obtain ⟨t151, A2, H⟩ := zb H
 simp only [Option.some.injEq, Prod.mk.injEq] at H
 obtain ⟨rfl, rfl, rfl, rfl, rfl, rfl, rfl, rfl, rfl, rfl⟩ := H
 go_enter Try.func83, Try.ntmps83
 go_wp2_with (first | ((with_reducible refine zD 1 rfl ?_); refine zE 1 #[.int .i64 a0_0, .int .i64 a0_1, .int .i64 a0_2, .string a0_3, .bool a0_4, .slice A0_5 l0_5.length c0_5, .int .i64 a0_6, .int .i64 a0_7, .int .i64 a0_8, .int .u32 a0_9] 52 ?_; intro Af hg w3 hbox hb; have Aa := Am (hbox); have Al := zA hg HB; replace HB := zB HB hb; have Ad := Al; clear hb hbox hg) | ((with_reducible refine zD 2 rfl ?_); refine zE 2 #[.int .i64 0, .int .i64 0, .int .i64 0, .string (⟨#[]⟩ : ByteArray), .bool false, .slice none 0 0, .int .i64 0, .int .i64 0, .int .i64 0, .int .u32 0] 52 ?_; intro Ae hg w4 hbox hb; have Ab := Am (hbox); have An := zY1 hg HB Ad.out; replace HB := zX1 HB Ad.out hb; have Ah := An; have Ag := Am (zN hg (kL Aa.out)); have Ac := Am (zM hg (kL Aa.out)); replace Aa := kBa Aa hb; clear hb hbox hg; have hnb5 := Ag.out; have hnc5 := Ac.out; obtain ⟨_, _, _, _, _, _, _, _, _, _⟩ := bc10 Aa.out; obtain ⟨_, _, _, _, _, _, _, _, _, _⟩ := bf10 Aa.out) | ((with_reducible refine zC 86 rfl ?_); refine zL (some 6) Try.func86 #[.slice A0_5 l0_5.length c0_5] ?_; (with_reducible refine (slices_Clone_byte_byte.calls _ _ l0_5 t151 _ ?Ao ?Ap A2.out).mono ?_); (case Ao => exact pC (Kd.C_below Aj.out HB.out)); (case Ap => exact Ak.out); rintro e w7 ⟨v152, rfl, ho0, hb⟩; refine ⟨_, rfl, ?_⟩; have Ai := Am (Kd.R_lower ho0 (below_size (pE2 HB.out Ad.out Ah.out))); replace Aa := kBa Aa hb; replace Ab := kBa Ab hb; replace HB := zX2 HB Ad.out Ah.out hb; (try clear hb); (try clear ho0); obtain ⟨Aq, Ar, As⟩ := Kd.R_slice Ai.out; subst As; obtain ⟨_, _, _, _, _, _, _, _, _, _⟩ := bc10 Aa.out; obtain ⟨_, _, _, _, _, _, _, _, _, _⟩ := bf10 Aa.out; obtain ⟨_, _, _, _, _, _, _, _, _, _⟩ := bc10 Ab.out; obtain ⟨_, _, _, _, _, _, _, _, _, _⟩ := bf10 Ab.out))
 refine bodyPost_ret (results_cell_row rfl _ _ Ae 52 #[.int .i64 a0_0, .int .i64 a0_1, .int .i64 a0_2, .string a0_3, .bool a0_4, .slice Aq t151.length Ar, .int .i64 a0_6, .int .i64 a0_7, .int .i64 a0_8, .int .u32 a0_9] (0, 0) _ rfl (kX1 Ab.out Ac.out) Try.underlying52 rfl (by kernel_rfl)) rfl ?_
 exact ⟨_, pX, by (with_reducible repeat (first | apply Kd.R_alloc | apply Kd.R_drewN | apply Kd.R_drew)); exact Kd.R_mono (Rf10 (g := Ae) (Kd.R_far (p := ⟨Af, 5, none⟩) (Kd.R_types (Kd.R_types Ai.out Aa.out (by decide)) Ab.out (by decide)) (fun _ hk => hk.1.2) (.slice Aq t151.length Ar)) (fun _ hk => hk.2)) (fun _ hk => trivial), pE2 HB.out Ad.out Ah.out⟩
def raft_owns.l0 : Nat → List (S52) → List (S52) → Int → Int → Option ((List (S52)))
 | 0, _, _, _, _ => none
 | k + 1, x3, x6, x7, x8 => if x8 < x7 then (if 0 ≤ x8 then (if x8 < (x6.length : Int) then ((raft_own.f ((rd_T52 x6 x8).f0) ((rd_T52 x6 x8).f1) ((rd_T52 x6 x8).f2) ((rd_T52 x6 x8).f3) ((rd_T52 x6 x8).f4.f0) ((rd_T52 x6 x8).f4.f1) ((rd_T52 x6 x8).f4.f2.f0) ((rd_T52 x6 x8).f4.f2.f1) ((rd_T52 x6 x8).f4.f2.f2) ((rd_T52 x6 x8).f4.f2.f3)).bind fun bt156 => (if x3.length < 1353245080339 then (raft_owns.l0 k (x3 ++ [(⟨bt156.1, bt156.2.1, bt156.2.2.1, bt156.2.2.2.1, (⟨bt156.2.2.2.2.1, bt156.2.2.2.2.2.1, (⟨bt156.2.2.2.2.2.2.1, bt156.2.2.2.2.2.2.2.1, bt156.2.2.2.2.2.2.2.2.1, bt156.2.2.2.2.2.2.2.2.2⟩ : S48)⟩ : S50)⟩ : S52)]) x6 x7 (wrap64 (x8 + 1))) else (none))) else (none)) else (none)) else (some x3)
def raft_owns.f (k : Nat) (l0 : List (S52)) : Option ((List (S52))) := raft_owns.l0 k ([] : List (S52)) l0 (l0.length : Int) 0
theorem raft_owns.mono_l : ∀ k, (∀ y0 y1 y2 y3, LeO (raft_owns.l0 k y0 y1 y2 y3) (raft_owns.l0 (k + 1) y0 y1 y2 y3))
 | 0 => fun _ _ _ _ r h => by simp [raft_owns.l0] at h
 | k + 1 => by
  have ih0 := raft_owns.mono_l k
  ·intro y0 y1 y2 y3
   unfold raft_owns.l0
   repeat' (with_reducible first | exact ih0 .. | exact LeO.refl .. | exact LeO.none .. | refine LeO.ite ?_ ?_ | refine LeO.bind ?_ (fun _ => ?_))
theorem raft_owns.mono : ∀ a0 k, LeO (raft_owns.f k a0) (raft_owns.f (k + 1) a0) := by
 intro a0 k
 have ih0 := raft_owns.mono_l k
 unfold raft_owns.f
 repeat' (with_reducible first | exact ih0 .. | exact LeO.refl .. | exact LeO.none .. | refine LeO.ite ?_ ?_ | refine LeO.bind ?_ (fun _ => ?_))
set_option maxRecDepth 100000 in
theorem raft_owns.calls (k : Nat) (A0 : Option Addr) (c0 : Nat) (l0 : List (S52)) (r : List (S52)) (w : World) (hr0 : Kd.C k52 w A0 l0.length l0) (hc0 : l0.length ≤ c0) (h : raft_owns.f k l0 = some r) :
 Calls Try.prog 76 #[.slice A0 l0.length c0] w fun e w' => ∃ v0_ : Value, e = .returned (v0_) ∧ Kd.S k52 52 w' w.heap.size (fun _ => True) v0_ r ∧ Below w.heap.size w w' := by
 have hu52 := Try.underlying52
 have HR0 := Am hr0
 have HC0 := Am hc0
 clear hr0 hc0
 have HB := Am (Below.refl w.heap.size w)
 unfold raft_owns.f at h
 have H := h
 clear h
 have H' := Am H
 clear H
 go_enter Try.func76, Try.ntmps76
 go_wp2
 go_loopg [3, 8] k (fun kq v3 v8 w' => ∃ (Af : List (S52)) (Aa : Int), v8 = .int .i64 Aa ∧ Aside0 (raft_owns.l0 kq Af l0 (l0.length : Int) Aa = some r) ∧ Aside0 (kq ≤ k) ∧ Aside0 (Kd.S k52 52 w' w.heap.size (fun _ => True) v3 Af) ∧ Aside0 (Below w.heap.size w w'))
 case atStart => exact ⟨(([] : List (S52))), (0), zr, H', ⟨Nat.le_refl _⟩, ⟨zn⟩, ⟨pB HB.out⟩⟩
 case round =>
  clear H'
  obtain ⟨Af, Aa, rfl, HA, HK1, Ad, HB⟩ := hrel
  cases gk with
  | zero => exact absurd HA.out (by simp [raft_owns.l0])
  | succ k1 =>
   have H := HA.out
   clear HA
   simp only [raft_owns.l0] at H
   by_cases c2 : Aa < (l0.length : Int)
   rotate_left
   ·rw [if_neg c2] at H
    have c2b0 := decide_eq_false c2
    clear c2
    obtain rfl := Option.some.inj H
    go_wp2
    go_ret
    exact ⟨_, pX, by (with_reducible repeat (first | apply Kd.S_alloc | apply Kd.S_drewN | apply Kd.S_drew)); exact Ad.out, pB HB.out⟩
   rw [if_pos c2] at H
   have c2b0 := decide_eq_true c2
   clear c2
   obtain ⟨c3, H⟩ := zI H
   have c3b0 := decide_eq_true c3
   clear c3
   obtain ⟨c4, H⟩ := zI H
   have c4b0 := decide_eq_true c4
   clear c4
   obtain ⟨⟨t156, t157, t158, t159, t160, t161, t164, t165, t166, t167⟩, A5, H⟩ := zb H
   dsimp only at H
   obtain ⟨c6, H⟩ := zI H
   have LMc6 := Am c6
   clear c6
   obtain ⟨y168, hy168⟩ : ∃ y_ : List (S52), y_ = (Af ++ [(⟨t156, t157, t158, t159, (⟨t160, t161, (⟨t164, t165, t166, t167⟩ : S48)⟩ : S50)⟩ : S52)]) := ⟨_, rfl⟩
   replace H : (raft_owns.l0 k1 y168 l0 (l0.length : Int) (wrap64 (Aa + 1))) = some r := zy hy168 H
   have Ny168 := Am hy168
   clear hy168
   have H' := Am H
   clear H
   have p154 : 0 ≤ (Aa : Int) := of_decide_eq_true pS
   have q154 : Aa < (l0.length : Int) := of_decide_eq_true pS
   obtain ⟨ad154, Aj, c154_5, e154, hx154_0, hx154_1, hx154_2, hx154_3, hx154_4, hx154_5, hx154_6, hx154_7, hx154_8, hx154_9, Ah, Ai⟩ := at_T52u HR0.out Aa p154 q154 HB.out
   cases e154
   have Ak := Am Ai
   have Al := Am Ah
   clear Ai Ah
   replace p154 := eq_true p154
   replace q154 := eq_true q154
   go_wp2_with (first | ((with_reducible refine zD 5 rfl ?_); refine zE 5 #[.int .i64 0, .int .i64 0, .int .i64 0, .string (⟨#[]⟩ : ByteArray), .bool false, .slice none 0 0, .int .i64 0, .int .i64 0, .int .i64 0, .int .u32 0] 52 ?_; intro Ab hg w7 hbox hb; replace Ad := Am (Kd.S_below (Kd.S_elderB (zS Ad.out) Ab (Nat.le_of_eq hg.symm)) hb); have Ac := Am (hbox); have Ap := zA hg HB; replace HB := zB HB hb; have Ae := Ap; clear hb hbox hg; obtain ⟨_, _, _, _, _, _, _, _, _, _⟩ := bc10 Ac.out; obtain ⟨_, _, _, _, _, _, _, _, _, _⟩ := bf10 Ac.out) | ((with_reducible refine zC 83 rfl ?_); refine zL (some 14) Try.func83 #[.agg #[.int .i64 ((rd_T52 l0 Aa).f0), .int .i64 ((rd_T52 l0 Aa).f1), .int .i64 ((rd_T52 l0 Aa).f2), .string ((rd_T52 l0 Aa).f3), .bool ((rd_T52 l0 Aa).f4.f0), .slice Aj ((rd_T52 l0 Aa).f4.f1).length c154_5, .int .i64 ((rd_T52 l0 Aa).f4.f2.f0), .int .i64 ((rd_T52 l0 Aa).f4.f2.f1), .int .i64 ((rd_T52 l0 Aa).f4.f2.f2), .int .u32 ((rd_T52 l0 Aa).f4.f2.f3)]] ?_; (with_reducible refine (raft_own.calls ((rd_T52 l0 Aa).f0) ((rd_T52 l0 Aa).f1) ((rd_T52 l0 Aa).f2) ((rd_T52 l0 Aa).f3) ((rd_T52 l0 Aa).f4.f0) _ _ ((rd_T52 l0 Aa).f4.f1) ((rd_T52 l0 Aa).f4.f2.f0) ((rd_T52 l0 Aa).f4.f2.f1) ((rd_T52 l0 Aa).f4.f2.f2) ((rd_T52 l0 Aa).f4.f2.f3) t156 t157 t158 t159 t160 t161 t164 t165 t166 t167 _ ?Aq ?Ar A5.out).mono ?_); (case Aq => exact Kd.C_below Ak.out (pE HB.out Ae.out)); (case Ar => exact Al.out); rintro e w9 ⟨v162, rfl, ho0, hb⟩; refine ⟨_, rfl, ?_⟩; replace Ad := Am (Kd.S_elder' (by (with_reducible repeat (first | apply Kd.S_alloc | apply Kd.S_drewN | apply Kd.S_drew)); exact (Kd.S_mono (Sf10 (g := Ab) (Kd.S_mono Ad.out (fun k_ hk => (⟨hk, hk.2⟩ : _ ∧ k_ ≠ Ab))) (fun _ hk => hk.2)) (fun _ h_ => h_.1))) (Kd.R_base ho0) hb); have Ag := Am (Kd.R_lower ho0 (below_size (pE HB.out Ae.out))); replace Ac := Am (blk_below (g := Ab) (kX0 Ac.out) hb); replace HB := zX1 HB Ae.out hb; (try clear hb); (try clear hk); (try clear ho0); obtain ⟨An, Ao, At⟩ := Kd.R_slice Ag.out; subst At) | ((with_reducible refine gate_builtin (b := .append) (xs := #[.tmp 12, .tmp 15]) rfl ?_); at_builtin; refine Kd.S_append k52 (w0 := w) w.heap.size rfl (.tmp 12) (.tmp 15) 26 52 (.agg #[(.int .i64 0), (.int .i64 0), (.int .i64 0), (.string ⟨#[]⟩), (.bool false), (.slice none 0 0), (.int .i64 0), (.int .i64 0), (.int .i64 0), (.int .u32 0)]) 104 rfl Try.underlying26 info52 rfl (by decide) (by omega) u3 Af (⟨t156, t157, t158, t159, (⟨t160, t161, (⟨t164, t165, t166, t167⟩ : S48)⟩ : S50)⟩ : S52) [.int .i64 t156, .int .i64 t157, .int .i64 t158, .string t159, .bool t160, .slice An t161.length Ao, .int .i64 t164, .int .i64 t165, .int .i64 t166, .int .u32 t167] (fun k_ => k_ ≠ Ab) (fun k_ => some k_ = (.slice An t161.length Ao : Value).ownBlock) rfl rfl ?aP (fun k_ hk_ => ((Kd.R_mono (ok' := fun k_ => ((fun k_ => k_ ≠ Ab)) k_ ∧ some k_ ≠ (u3 : Value).ownBlock) (Kd.R_types (Kd.R_apart' (Ag.out) (Kd.S_typed Ad.out) (by decide)) Ac.out (by decide)) (fun k_ hk => ⟨hk.2, hk.1.2⟩))).1 k_ hk_.symm) ?aF ?aO ?aB ?aS ?aL ?_; (case aP => exact k52_mkM _ _ _ (⟨t156, t157, t158, t159, (⟨t160, t161, (⟨t164, t165, t166, t167⟩ : S48)⟩ : S50)⟩ : S52) (Kd.R_mono (Kd.R_tight rfl (Kd.R_mono (ok' := fun k_ => ((fun k_ => k_ ≠ Ab)) k_ ∧ some k_ ≠ (u3 : Value).ownBlock) (Kd.R_types (Kd.R_apart' (Ag.out) (Kd.S_typed Ad.out) (by decide)) Ac.out (by decide)) (fun k_ hk => ⟨hk.2, hk.1.2⟩))) (fun _ h_ => h_))); (case aB => exact (pE HB.out Ae.out)); (case aF => exact (fun k_ hk => kF Ac.out k_ hk)); (case aO => exact (by (with_reducible repeat (first | apply Kd.S_alloc | apply Kd.S_drewN | apply Kd.S_drew)); exact Kd.S_mono Ad.out (fun k_ hk => ⟨hk.1.2, fun e_ => hk.2 e_⟩))); (case aS => exact (below_size (pE HB.out Ae.out))); (case aL => have := LMc6.out; omega); intro v169 w10 ho hb hg hat; rw [← Ny168.out] at ho; replace Ac := Am (blk_grown (g := Ab) (o := .cells #[.int .i64 ((rd_T52 l0 Aa).f0), .int .i64 ((rd_T52 l0 Aa).f1), .int .i64 ((rd_T52 l0 Aa).f2), .string ((rd_T52 l0 Aa).f3), .bool ((rd_T52 l0 Aa).f4.f0), .slice Aj ((rd_T52 l0 Aa).f4.f1).length c154_5, .int .i64 ((rd_T52 l0 Aa).f4.f2.f0), .int .i64 ((rd_T52 l0 Aa).f4.f2.f1), .int .i64 ((rd_T52 l0 Aa).f4.f2.f2), .int .u32 ((rd_T52 l0 Aa).f4.f2.f3)] 52 (0, 0)) (pK Ac.out) hg (Kd.S_away Ad.out (fun _ hk => hk.1.2))); replace HB := Am (hb); have As := Am (ho); clear Ad Ag ho hb hg hat))
   go_roundg k1
   case measure => have := HK1.out; omega
   case rel => exact ⟨(y168), (wrap64 (Aa + 1)), zr, H', ⟨by have := HK1.out; omega⟩, ⟨by (with_reducible repeat (first | apply Kd.S_alloc | apply Kd.S_drewN | apply Kd.S_drew)); exact Kd.S_mono As.out (fun _ hk => trivial)⟩, ⟨pE HB.out Ae.out⟩⟩
end
section
attribute [local go_sem] max2_int min2_int max_two min_two max_three min_three max_four min_four
attribute [local go_sem] wrap64_l1 wrap64_l2 wrap64_l3 wrap64_l4 wrap64_l5
def raft_Put.l0 : Nat → List (S52) → Int → Int → Int → Int → List (S52) → Int → Int → Int → Int → Option (Int × Int × (List (S52)) × Int × Int × Int × Int × Int)
 | 0, _, _, _, _, _, _, _, _, _, _ => none
 | k + 1, x1, x6, x10, x172000, x172001, x172002, x172003, x172004, x172005, x172006 => if x10 < (x1.length : Int) then (if 0 ≤ x10 then (if ((rd_T52 x1 x10).f0) ≤ x6 then (none) else (if x10 = (x1.length : Int) then (none) else (if ((rd_T52 x1 x10).f0) ≤ x172005 then (none) else (if (wrap64 ((wrap64 ((wrap64 ((wrap64 (((rd_T52 x1 x10).f0) - x172000)) - 1)) + (x1.length : Int))) - x10)) > 1000 then (none) else (if 0 ≤ (wrap64 ((wrap64 (((rd_T52 x1 x10).f0) - x172000)) - 1)) then (if (wrap64 ((wrap64 (((rd_T52 x1 x10).f0) - x172000)) - 1)) ≤ (x172002.length : Int) then ((some (x172002.take ((wrap64 ((wrap64 (((rd_T52 x1 x10).f0) - x172000)) - 1)) : Int).toNat : List (S52))).bind fun y189 => (if x10 ≤ (x1.length : Int) then ((raft_owns.f k (x1.drop (x10 : Int).toNat)).bind fun t196 => (if y189.length + t196.length < 1353245080339 then (some (x172000, x172001, (y189 ++ t196), x172003, x172004, x172005, x172006, 0)) else (none))) else (none))) else (none)) else (none)))))) else (none)) else (none)
def raft_Put.f (k : Nat) (a0_0 : Int) (a0_1 : Int) (l0_2 : List (S52)) (a0_3 : Int) (a0_4 : Int) (a0_5 : Int) (a0_6 : Int) (l1 : List (S52)) : Option (Int × Int × (List (S52)) × Int × Int × Int × Int × Int) := (raft_Last.f k a0_0 a0_1 l0_2 a0_3 a0_4 a0_5 a0_6).bind fun bt173 => ((raft_Check.f k a0_0 a0_1 l0_2 a0_3 a0_4 a0_5 a0_6).bind fun t175 => (if t175 = 0 then (if (l1.length : Int) = 0 then (none) else ((raft_rows.f k l1).bind fun t176 => (if t176 = true then (if 0 < (l1.length : Int) then (if ((rd_T52 l1 0).f0) ≤ a0_0 then (none) else (if ((rd_T52 l1 0).f0) > (wrap64 (bt173.1 + 1)) then (none) else ((raft_Term.f k a0_0 a0_1 l0_2 a0_3 a0_4 a0_5 a0_6 (wrap64 (((rd_T52 l1 0).f0) - 1))).bind fun bt180 => (if ((rd_T52 l1 0).f1) < bt180.1 then (none) else ((raft_owns.f k l0_2).bind fun t183 => (raft_Put.l0 k l1 bt173.1 0 a0_0 a0_1 t183 a0_3 a0_4 a0_5 a0_6)))))) else (none)) else (none)))) else (none)))
theorem raft_Put.mono_l : ∀ k, (∀ y0 y1 y2 y3 y4 y5 y6 y7 y8 y9, LeO (raft_Put.l0 k y0 y1 y2 y3 y4 y5 y6 y7 y8 y9) (raft_Put.l0 (k + 1) y0 y1 y2 y3 y4 y5 y6 y7 y8 y9))
 | 0 => fun _ _ _ _ _ _ _ _ _ _ r h => by simp [raft_Put.l0] at h
 | k + 1 => by
  have ih0 := raft_Put.mono_l k
  ·intro y0 y1 y2 y3 y4 y5 y6 y7 y8 y9
   unfold raft_Put.l0
   repeat' (with_reducible first | exact ih0 .. | exact raft_Check.mono .. | exact raft_Last.mono .. | exact raft_Term.mono .. | exact raft_owns.mono .. | exact raft_rows.mono .. | exact LeO.refl .. | exact LeO.none .. | refine LeO.ite ?_ ?_ | refine LeO.bind ?_ (fun _ => ?_))
theorem raft_Put.mono : ∀ a0 a1 a2 a3 a4 a5 a6 a7 k, LeO (raft_Put.f k a0 a1 a2 a3 a4 a5 a6 a7) (raft_Put.f (k + 1) a0 a1 a2 a3 a4 a5 a6 a7) := by
 intro a0 a1 a2 a3 a4 a5 a6 a7 k
 have ih0 := raft_Put.mono_l k
 unfold raft_Put.f
 repeat' (with_reducible first | exact ih0 .. | exact raft_Check.mono .. | exact raft_Last.mono .. | exact raft_Term.mono .. | exact raft_owns.mono .. | exact raft_rows.mono .. | exact LeO.refl .. | exact LeO.none .. | refine LeO.ite ?_ ?_ | refine LeO.bind ?_ (fun _ => ?_))
def raft_Put.T4 : Bool × List (List Nat × List Nat) := (true, [([], []), ([0], [0]), ([1], [1]), ([2], [2]), ([], []), ([4], [4]), ([3, 5], [3, 5]), ([6], [6])])
def raft_Put.B4 : List Nat := [0, 1, 3, 7, 0, 16, 63, 127]
theorem raft_Put.tab4 : rtab .any (opsOf Try.f62 4) = raft_Put.T4 := by kernel_rfl
theorem raft_Put.bits4 : waitsOk raft_Put.T4.2 raft_Put.B4 = true := by kernel_rfl
def raft_Put.T8 : Bool × List (List Nat × List Nat) := (true, [([], []), ([], []), ([1], [1]), ([2], [2]), ([3], [3]), ([4], [4]), ([0, 5], [0, 5]), ([6], [6]), ([7], [7]), ([7], [7]), ([8, 6, 0, 1, 2, 3, 4, 5, 6, 7, 8], [8]), ([9, 10, 0, 1, 2, 3, 4, 5, 6, 7, 8, 9, 10], [9])])
def raft_Put.B8 : List Nat := [0, 0, 2, 6, 14, 30, 63, 127, 255, 255, 511, 2047]
theorem raft_Put.tab8 : rtab .any (opsOf Try.f62 8) = raft_Put.T8 := by kernel_rfl
theorem raft_Put.bits8 : waitsOk raft_Put.T8.2 raft_Put.B8 = true := by kernel_rfl
def raft_Put.T13 : Bool × List (List Nat × List Nat) := (true, [([], []), ([], []), ([1], [1]), ([0, 2], [0, 2]), ([3], [3]), ([4], [4]), ([4], [4]), ([5, 6, 4], [4, 5, 6]), ([7, 4], [4, 7]), ([8, 4], [4, 8]), ([4], [4]), ([9, 10, 4], [4, 9, 10]), ([4, 11], [4, 11]), ([12, 4], [12]), ([13], [13]), ([14, 13], [13, 14]), ([13], [13]), ([13], [13]), ([16, 17, 13], [13, 16, 17]), ([18, 13], [13, 18]), ([19, 13], [13, 19]), ([13], [13]), ([21, 13], [13, 21]), ([20, 22, 13], [13, 20, 22]), ([23, 13], [13, 23]), ([15, 24, 13], [13, 15, 24]), ([25, 13], [13, 25]), ([26, 13], [13, 26]), ([13], [13]), ([13], [13]), ([28, 29, 13], [13, 28, 29]), ([30, 13], [13, 30]), ([31, 13], [13, 31]), ([27, 32, 13], [13, 27, 32]), ([13, 33], [13, 33])])
def raft_Put.B13 : List Nat := [0, 0, 2, 7, 15, 31, 31, 127, 255, 511, 31, 2047, 4095, 8191, 16383, 32767, 16383, 16383, 212991, 475135, 999423, 16383, 2113535, 8339455, 16728063, 33554431, 67108863, 134217727, 16383, 16383, 805322751, 1879064575, 4026548223, 8589934591, 17179869183]
theorem raft_Put.tab13 : rtab .any (opsOf Try.f62 13) = raft_Put.T13 := by kernel_rfl
theorem raft_Put.bits13 : waitsOk raft_Put.T13.2 raft_Put.B13 = true := by kernel_rfl
def raft_Put.T17 : Bool × List (List Nat × List Nat) := (true, [([], []), ([], []), ([0, 1], [0, 1]), ([2], [2]), ([3], [3]), ([], []), ([5], [5]), ([4, 6], [4, 6]), ([7], [7]), ([8, 0, 1, 2, 3, 4, 5, 6, 7, 8], [8])])
def raft_Put.B17 : List Nat := [0, 0, 3, 7, 15, 0, 32, 127, 255, 511]
theorem raft_Put.tab17 : rtab .any (opsOf Try.f62 17) = raft_Put.T17 := by kernel_rfl
theorem raft_Put.bits17 : waitsOk raft_Put.T17.2 raft_Put.B17 = true := by kernel_rfl
def raft_Put.T18 : Bool × List (List Nat × List Nat) := (true, [([], []), ([], []), ([0, 1], [0, 1]), ([2], [2]), ([3], [3]), ([], []), ([5], [5]), ([6], [6]), ([4, 7], [4, 7]), ([8], [8])])
def raft_Put.B18 : List Nat := [0, 0, 3, 7, 15, 0, 32, 96, 255, 511]
theorem raft_Put.tab18 : rtab .any (opsOf Try.f62 18) = raft_Put.T18 := by kernel_rfl
theorem raft_Put.bits18 : waitsOk raft_Put.T18.2 raft_Put.B18 = true := by kernel_rfl
def raft_Put.T22 : Bool × List (List Nat × List Nat) := (true, [([], []), ([0], [0]), ([], []), ([1, 2], [1, 2]), ([], []), ([], []), ([4, 5], [4, 5]), ([6], [6]), ([3, 7, 7], [3, 7]), ([0, 1, 2, 3, 4, 5, 6, 7, 8], []), ([9, 8, 8, 0, 1, 2, 3, 4, 5, 6, 7, 8], [8, 9])])
def raft_Put.B22 : List Nat := [0, 1, 0, 7, 0, 0, 48, 112, 255, 511, 1023]
theorem raft_Put.tab22 : rtab .any (opsOf Try.f62 22) = raft_Put.T22 := by kernel_rfl
theorem raft_Put.bits22 : waitsOk raft_Put.T22.2 raft_Put.B22 = true := by kernel_rfl
set_option maxHeartbeats 8000000 in
set_option maxRecDepth 100000 in
theorem raft_Put.calls (k : Nat) (a0_0 : Int) (a0_1 : Int) (A0_2 : Option Addr) (c0_2 : Nat) (l0_2 : List (S52)) (a0_3 : Int) (a0_4 : Int) (a0_5 : Int) (a0_6 : Int) (A1 : Option Addr) (c1 : Nat) (l1 : List (S52)) (r1 : Int) (r2 : Int) (r3 : List (S52)) (r4 : Int) (r5 : Int) (r6 : Int) (r7 : Int) (r8 : Int) (w : World) (hr0_2 : Kd.C k52 w A0_2 l0_2.length l0_2) (hc0_2 : l0_2.length ≤ c0_2) (hr1 : Kd.C k52 w A1 l1.length l1) (hc1 : l1.length ≤ c1) (h : raft_Put.f k a0_0 a0_1 l0_2 a0_3 a0_4 a0_5 a0_6 l1 = some (r1, r2, r3, r4, r5, r6, r7, r8)) :
 Calls Try.prog 62 #[.agg #[.int .i64 a0_0, .int .i64 a0_1, .slice A0_2 l0_2.length c0_2, .int .i64 a0_3, .int .i64 a0_4, .int .i64 a0_5, .int .i64 a0_6], .slice A1 l1.length c1] w fun e w' => ∃ v2_ : Value, e = .returned (.tuple #[.agg #[.int .i64 r1, .int .i64 r2, v2_, .int .i64 r4, .int .i64 r5, .int .i64 r6, .int .i64 r7], .int .i64 r8]) ∧ Kd.N k52 52 w' w.heap.size (fun k_ => (w.heap.size ≤ k_)) v2_ r3 ∧ Below w.heap.size w w' := by
 have hu54 := Try.underlying54
 have B0 := Am hr0_2
 have B1 := Am hc0_2
 clear hr0_2 hc0_2
 have HR1 := Am hr1
 have HC1 := Am hc1
 clear hr1 hc1
 have HB := Am (Below.refl w.heap.size w)
 unfold raft_Put.f at h
 have H := h
 clear h
 obtain ⟨⟨t173, t174⟩, A3, H⟩ := zb H
 dsimp only at H
 obtain ⟨t175, A4, H⟩ := zb H
 obtain ⟨c5, H⟩ := zI H
 obtain ⟨c5b0, c5b1⟩ := zc c5
 clear c5
 obtain ⟨c6, H⟩ := zJ H
 obtain ⟨c6b0, c6b1⟩ := zk c6
 have c6b2 : ¬ (l1 = []) := fun h_ => c6 (by rw [h_]; rfl)
 obtain ⟨t176, A7, H⟩ := zb H
 by_cases c8 : t176 = true
 rotate_left
 ·replace c8 := Bool.eq_false_iff.mpr c8
  subst c8
  rw [if_neg zF] at H
  exact absurd H (by simp)
 subst c8
 rw [if_pos rfl] at H
 obtain ⟨c9, H⟩ := zI H
 have c9b0 := decide_eq_true c9
 have c9b1 : decide (0 < l1.length) = true := decide_eq_true (by omega)
 clear c9
 obtain ⟨c10, H⟩ := zJ H
 have c10b0 := decide_eq_false c10
 clear c10
 obtain ⟨c11, H⟩ := zJ H
 have c11b0 : decide ((wrap64 (t173 + 1)) < ((rd_T52 l1 0).f0)) = false := decide_eq_false c11
 clear c11
 obtain ⟨⟨t180, t181⟩, A12, H⟩ := zb H
 dsimp only at H
 obtain ⟨c13, H⟩ := zJ H
 have c13b0 := decide_eq_false c13
 clear c13
 obtain ⟨t183, A14, H⟩ := zb H
 have H' := Am H
 clear H
 go_enter Try.func62, Try.ntmps62
 try go_wp2_with (first | ((with_reducible refine zD 2 rfl ?_); (try (refine gate_guard (by rfl) ?_; dsimp only)); refine zE 2 #[.int .i64 a0_0, .int .i64 a0_1, .slice A0_2 l0_2.length c0_2, .int .i64 a0_3, .int .i64 a0_4, .int .i64 a0_5, .int .i64 a0_6] 54 ?_; intro Ae hg w15 hbox hb; have Aa := Am (hbox); have F1 := zA hg HB; replace HB := zB HB hb; have Af := F1; clear hb hbox hg) | ((with_reducible refine zD 4 rfl ?_); (try (refine gate_guard (by rfl) ?_; dsimp only)); refine zE 4 #[.int .i64 0, .int .i64 0, .slice none 0 0, .int .i64 0, .int .i64 0, .int .i64 0, .int .i64 0] 54 ?_; intro Ah hg w16 hbox hb; have Ac := Am (hbox); have F2 := zY1 hg HB Af.out; replace HB := zX1 HB Af.out hb; have Ai := F2; have Bd := Am (zN hg (kL Aa.out)); have A8 := Am (zM hg (kL Aa.out)); replace Aa := kBa Aa hb; clear hb hbox hg; have hnb17 := Bd.out; have hnc17 := A8.out; obtain ⟨Dh, Di, Dj, Dk, Dl, Dm, Dn⟩ := bc7 Aa.out; obtain ⟨Do, Dp, Dq, Dr, Ds, Dt, Du⟩ := bf7 Aa.out) | ((with_reducible refine zC 74 rfl ?_); refine zL (some 14) Try.func74 #[.agg #[.int .i64 a0_0, .int .i64 a0_1, .slice A0_2 l0_2.length c0_2, .int .i64 a0_3, .int .i64 a0_4, .int .i64 a0_5, .int .i64 a0_6]] ?_; (with_reducible refine (raft_Last.calls k a0_0 a0_1 _ _ l0_2 a0_3 a0_4 a0_5 a0_6 t173 t174 _ ?A9 ?Ba A3.out).mono ?_); (case A9 => exact pC (Kd.C_below B0.out HB.out)); (case Ba => exact B1.out); rintro e w19 ⟨rfl, hb⟩; refine ⟨_, rfl, ?_⟩; replace Aa := kBa Aa hb; replace Ac := kBa Ac hb; replace HB := zX2 HB Af.out Ai.out hb; (try clear hb); obtain ⟨Dv, Dw, Dx, Dy, Dz, D0, D1⟩ := bc7 Aa.out; obtain ⟨D2, D3, D4, D5, D6, D7, D8⟩ := bf7 Aa.out) | ((with_reducible refine zC 37 rfl ?_); refine zL (some 19) Try.func37 #[.agg #[.int .i64 a0_0, .int .i64 a0_1, .slice A0_2 l0_2.length c0_2, .int .i64 a0_3, .int .i64 a0_4, .int .i64 a0_5, .int .i64 a0_6]] ?_; (with_reducible refine (raft_Check.calls k a0_0 a0_1 _ _ l0_2 a0_3 a0_4 a0_5 a0_6 t175 _ ?A9 ?Ba A4.out).mono ?_); (case A9 => exact pC (Kd.C_below B0.out HB.out)); (case Ba => exact B1.out); rintro e w21 ⟨rfl, hb⟩; refine ⟨_, rfl, ?_⟩; replace Aa := kBa Aa hb; replace Ac := kBa Ac hb; replace HB := zX2 HB Af.out Ai.out hb; (try clear hb)) | (go_at_call 60; (with_reducible refine (raft_rows.calls k _ _ l1 true _ ?A9 ?Ba A7.out).mono ?_); (case A9 => exact pC (Kd.C_below HR1.out HB.out)); (case Ba => exact HC1.out); rintro e w22 ⟨rfl, hb⟩; replace Aa := kBa Aa hb; replace Ac := kBa Ac hb; replace HB := zX2 HB Af.out Ai.out hb; (try clear hb)))
 replace Aa := kDa Aa
 replace Ac := kDa Ac
 replace HB := bDa HB
 have p177 : 0 ≤ (0 : Int) := (by omega)
 have q177 : 0 < (l1.length : Int) := of_decide_eq_true pS
 obtain ⟨Aj, A177_5, c177_5, e177, Ak, Al, An, Ao, Ap, Ag, Aq, Ar, As, At, B3, B4⟩ := at_T52 HR1.out 0 p177 q177
 have Bh := At
 (try simp only [tz, show 0 * 10 = 0 from rfl, Addr.add_zero'] at Bh)
 have Bi := As
 (try simp only [tz, show 0 * 10 = 0 from rfl, Addr.add_zero'] at Bi)
 have Bj := Ar
 (try simp only [tz, show 0 * 10 = 0 from rfl, Addr.add_zero'] at Bj)
 have Bk := Aq
 (try simp only [tz, show 0 * 10 = 0 from rfl, Addr.add_zero'] at Bk)
 have Bl := Ag
 (try simp only [tz, show 0 * 10 = 0 from rfl, Addr.add_zero'] at Bl)
 have Bm := Ap
 (try simp only [tz, show 0 * 10 = 0 from rfl, Addr.add_zero'] at Bm)
 have Bn := Ao
 (try simp only [tz, show 0 * 10 = 0 from rfl, Addr.add_zero'] at Bn)
 have Bo := An
 (try simp only [tz, show 0 * 10 = 0 from rfl, Addr.add_zero'] at Bo)
 have Bp := Al
 (try simp only [tz, show 0 * 10 = 0 from rfl, Addr.add_zero'] at Bp)
 have Be := Ak
 (try simp only [tz, show 0 * 10 = 0 from rfl, Addr.add_zero'] at Be)
 cases e177
 have qi177 : (0 < l1.length) = True := eq_true (by omega)
 (try simp only [tz, show 0 * 10 = 0 from rfl, Addr.add_zero'] at Ak Al An Ao Ap Ag Aq Ar As At)
 replace Ak := cU HB.out Ak
 replace Al := cU HB.out Al
 replace An := cU HB.out An
 replace Ao := cU HB.out Ao
 replace Ap := cU HB.out Ap
 replace Ag := cU HB.out Ag
 replace Aq := cU HB.out Aq
 replace Ar := cU HB.out Ar
 replace As := cU HB.out As
 replace At := cU HB.out At
 have D9 := Am B4
 have HC177_5 := Am B3
 clear B4 B3
 replace p177 := eq_true p177
 replace q177 := eq_true q177
 refine start_ (n := 8) (S := fun w' => cG w' Ae 0 (.int .i64 a0_0) ∧ w'.cell? Aj = some (.int .i64 ((rd_T52 l1 0).f0))) (ds := []) #[false, false, false, false, false, false, false, false] (by kernel_rfl) rfl rfl ⟨(blk_cell Aa.out 0).trans rfl, (cT HB.out Be)⟩ (fun hHeld => ?_); refine with_tabW raft_Put.tab4 raft_Put.bits4 (fun HT_ HW_ => ?_)
 generalize w22.drew = w23 at Aa Ac HB D9 Ak Al An Ao Ap Ag Aq Ar As At hHeld ⊢
 refine pui 0 33 8 1 HT_ ?_
 refine zp 1 (h := zp 2 (h := zp 4 (h := zw 3 (h := zw 5 (h := zp 6 (h := zp 7 (h := ?_)))))))
 refine done_ (done_of HT_.out (by kernel_rfl)) ?_
 have p178 : 0 ≤ (0 : Int) := (by omega)
 have q178 : 0 < (l1.length : Int) := of_decide_eq_true pS
 obtain ⟨F3, A178_5, c178_5, e178, Ea, Eb, Ec, Ed, Ee, B5, Ef, Eg, Eh, Ei, B6, B7⟩ := at_T52uz HR1.out p178 q178 HB.out
 obtain rfl : Aj = F3 := (by injection e178)
 have qi178 : (0 < l1.length) = True := eq_true (by omega)
 have HR178_5 := Am B7
 have HC178_5 := Am B6
 clear B7 B6
 replace p178 := eq_true p178
 replace q178 := eq_true q178
 have ea_ := Option.some.inj (Ag.symm.trans B5)
 injection ea_ with ea_ en_ ec_
 subst ea_
 subst ec_
 clear en_
 try go_wp2
 replace Aa := kDa Aa
 replace Ac := kDa Ac
 replace HB := bDa HB
 have p179 : 0 ≤ (0 : Int) := (by omega)
 have q179 : 0 < (l1.length : Int) := of_decide_eq_true pS
 obtain ⟨F4, A179_5, c179_5, e179, Au, Av, Aw, Ax, Ay, Az, A0, A2, A5, A6, B8, B9⟩ := at_T52 HR1.out 0 p179 q179
 have Bq := A6
 (try simp only [tz, show 0 * 10 = 0 from rfl, Addr.add_zero'] at Bq)
 have Br := A5
 (try simp only [tz, show 0 * 10 = 0 from rfl, Addr.add_zero'] at Br)
 have Bs := A2
 (try simp only [tz, show 0 * 10 = 0 from rfl, Addr.add_zero'] at Bs)
 have Bt := A0
 (try simp only [tz, show 0 * 10 = 0 from rfl, Addr.add_zero'] at Bt)
 have Bu := Az
 (try simp only [tz, show 0 * 10 = 0 from rfl, Addr.add_zero'] at Bu)
 have Bv := Ay
 (try simp only [tz, show 0 * 10 = 0 from rfl, Addr.add_zero'] at Bv)
 have Bw := Ax
 (try simp only [tz, show 0 * 10 = 0 from rfl, Addr.add_zero'] at Bw)
 have Bx := Aw
 (try simp only [tz, show 0 * 10 = 0 from rfl, Addr.add_zero'] at Bx)
 have By := Av
 (try simp only [tz, show 0 * 10 = 0 from rfl, Addr.add_zero'] at By)
 have Bc := Au
 (try simp only [tz, show 0 * 10 = 0 from rfl, Addr.add_zero'] at Bc)
 obtain rfl : Aj = F4 := (by injection e179)
 have qi179 : (0 < l1.length) = True := eq_true (by omega)
 (try simp only [tz, show 0 * 10 = 0 from rfl, Addr.add_zero'] at Au Av Aw Ax Ay Az A0 A2 A5 A6)
 replace Au := cU HB.out Au
 replace Av := cU HB.out Av
 replace Aw := cU HB.out Aw
 replace Ax := cU HB.out Ax
 replace Ay := cU HB.out Ay
 replace Az := cU HB.out Az
 replace A0 := cU HB.out A0
 replace A2 := cU HB.out A2
 replace A5 := cU HB.out A5
 replace A6 := cU HB.out A6
 have Ej := Am B9
 have HC179_5 := Am B8
 clear B9 B8
 replace p179 := eq_true p179
 replace q179 := eq_true q179
 refine start_ (n := 12) (S := fun w' => cG w' Ae 0 (.int .i64 a0_0) ∧ cG w' Ae 1 (.int .i64 a0_1) ∧ cG w' Ae 2 (.slice A0_2 l0_2.length c0_2) ∧ cG w' Ae 3 (.int .i64 a0_3) ∧ cG w' Ae 4 (.int .i64 a0_4) ∧ cG w' Ae 5 (.int .i64 a0_5) ∧ cG w' Ae 6 (.int .i64 a0_6) ∧ w'.cell? Aj = some (.int .i64 ((rd_T52 l1 0).f0))) (ds := []) #[false, false, false, false, false, false, false, false, false, false, false, false] (by kernel_rfl) rfl rfl ⟨(blk_cell Aa.out 0).trans rfl, (blk_cell Aa.out 1).trans rfl, (blk_cell Aa.out 2).trans rfl, (blk_cell Aa.out 3).trans rfl, (blk_cell Aa.out 4).trans rfl, (blk_cell Aa.out 5).trans rfl, (blk_cell Aa.out 6).trans rfl, (cT HB.out Bc)⟩ (fun hHeld => ?_); refine with_tabW raft_Put.tab8 raft_Put.bits8 (fun HT_ HW_ => ?_)
 generalize w23.drew = w24 at Aa Ac HB Ej Au Av Aw Ax Ay Az A0 A2 A5 A6 hHeld ⊢
 refine pui 1 52 12 2 HT_ ?_
 refine zp 2 (h := zp 3 (h := zw 0 (h := zw 4 (h := zp 5 (h := ?_)))))
 refine onei 6 57 12 127 HT_ (fun K hK => ?_)
 refine goes_ Try.func75 (by kernel_rfl) rfl #[.agg #[.int .i64 a0_0, .int .i64 a0_1, .slice A0_2 l0_2.length c0_2, .int .i64 a0_3, .int .i64 a0_4, .int .i64 a0_5, .int .i64 a0_6], .int .i64 (wrap64 (((rd_T52 l1 0).f0) - 1))] (by rfl) rfl rfl pL ?_
 with_reducible refine (raft_Term.calls k a0_0 a0_1 _ _ l0_2 a0_3 a0_4 a0_5 a0_6 (wrap64 (((rd_T52 l1 0).f0) - 1)) t180 t181 _ ?A9 ?Ba A12.out).mono ?_
 (case A9 => exact pC (Kd.C_below B0.out HB.out))
 (case Ba => exact B1.out)
 rintro e w25 ⟨rfl, hb⟩
 refine ⟨_, rfl, ?_⟩
 replace Aa := kBa Aa hb
 replace Ac := kBa Ac hb
 replace HB := zX2 HB Af.out Ai.out hb
 (try clear hb)
 (try clear hb2)
 (try clear hk)
 (try clear hi)
 refine hK.out _ _ ⟨(blk_cell Aa.out 0).trans rfl, (blk_cell Aa.out 1).trans rfl, (blk_cell Aa.out 2).trans rfl, (blk_cell Aa.out 3).trans rfl, (blk_cell Aa.out 4).trans rfl, (blk_cell Aa.out 5).trans rfl, (blk_cell Aa.out 6).trans rfl, (cT HB.out Bc)⟩ (fun hHeld => ?_)
 clear hK K
 refine norm_ (a' := ?_) ?_ ?_
 rotate_left
 ·show Act.put _ (some 57) _ = _
  simp only [Act.put, List.setIfInBounds_toArray, List.set_cons_zero, List.set_cons_succ, i64_w, i32_w]
  rfl
 refine pui 7 50 12 255 HT_ ?_
 refine zp 8 (h := zp 9 (h := zp 10 (h := zp 11 (h := ?_))))
 refine done_ (done_of HT_.out (by kernel_rfl)) ?_
 have p182 : 0 ≤ (0 : Int) := (by omega)
 have q182 : 0 < (l1.length : Int) := of_decide_eq_true pS
 obtain ⟨F5, A182_5, c182_5, e182, Ek, El, Em, En, Eo, Ep, Er, Es, Et, Eu, Ca, Cb⟩ := at_T52uz HR1.out p182 q182 HB.out
 obtain rfl : Aj = F5 := (by injection e182)
 have qi182 : (0 < l1.length) = True := eq_true (by omega)
 have HR182_5 := Am Cb
 have HC182_5 := Am Ca
 clear Cb Ca
 replace p182 := eq_true p182
 replace q182 := eq_true q182
 obtain ⟨Ew, Ex, Ey, Ez, E0, E1, E2⟩ := bc7 Aa.out
 obtain ⟨E3, E4, E5, E6, E7, E8, E9⟩ := bf7 Aa.out
 try go_wp2_with (first | ((with_reducible refine zC 76 rfl ?_); refine zL (some 69) Try.func76 #[.slice A0_2 l0_2.length c0_2] ?_; (with_reducible refine (raft_owns.calls k _ _ l0_2 t183 _ ?A9 ?Ba A14.out).mono ?_); (case A9 => exact pC (Kd.C_below B0.out HB.out)); (case Ba => exact B1.out); rintro e w27 ⟨v184, rfl, ho0, hb⟩; refine ⟨_, rfl, ?_⟩; have Fr := Am (Kd.N_lower (Kd.N_mono (ok' := fun k_ => (w.heap.size ≤ k_) ∧ k_ ≠ Ae ∧ k_ ≠ Ah) (Kd.S_N (Kd.S_bound ho0)) (fun k_ hk_ => ⟨(Nat.le_trans (below_size (pE2 HB.out Af.out Ai.out)) hk_.2.1), (kF Aa.out k_ hk_.2.1), (kF Ac.out k_ hk_.2.1)⟩)) (below_size (pE2 HB.out Af.out Ai.out))); replace Aa := kBa Aa hb; replace Ac := kBa Ac hb; replace HB := zX2 HB Af.out Ai.out hb; (try clear hb); (try clear ho0); obtain ⟨Bf, Bg, Ga⟩ := Kd.N_slice Fr.out; subst Ga; obtain ⟨Fa, Fb, Fc, Fd, Fe, Ff, Fg⟩ := bc7 Aa.out; obtain ⟨Fh, Fi, Fj, Fk, Fl, Fm, Fn⟩ := bf7 Aa.out))
 go_loopg [10] k (fun kq v10 w' => ∃ (Ab : Int), v10 = .int .i64 Ab ∧ Aside0 (raft_Put.l0 kq l1 t173 Ab a0_0 a0_1 t183 a0_3 a0_4 a0_5 a0_6 = some (r1, r2, r3, r4, r5, r6, r7, r8)) ∧ Aside0 (kq ≤ k) ∧ Aside0 (Kd.N k52 52 w' w.heap.size (fun k_ => (w.heap.size ≤ k_) ∧ k_ ≠ Ae ∧ k_ ≠ Ah) (.slice Bf t183.length Bg) t183) ∧ Aside0 (w'.heap[Ae]? = some (.cells #[.int .i64 a0_0, .int .i64 a0_1, (.slice Bf t183.length Bg), .int .i64 a0_3, .int .i64 a0_4, .int .i64 a0_5, .int .i64 a0_6] 54 (0, 0))) ∧ Aside0 (w'.heap[Ah]? = some (.cells #[.int .i64 0, .int .i64 0, (.slice none 0 0), .int .i64 0, .int .i64 0, .int .i64 0, .int .i64 0] 54 (0, 0))) ∧ Aside0 (Below w.heap.size w w'))
 case atStart => exact ⟨(0), zr, H', ⟨Nat.le_refl _⟩, ⟨by (with_reducible repeat (first | apply Kd.N_alloc | apply Kd.N_drewN | apply Kd.N_drew)); exact Kd.N_mono (Kd.N_far (p := ⟨Ae, 2, none⟩) (Kd.N_mono Fr.out (fun k_ hk => (⟨hk, hk.2.1⟩ : _ ∧ k_ ≠ Ae))) (fun _ hk => hk.2) (.slice Bf t183.length Bg)) (fun _ hk => ⟨hk.1.1, ⟨hk.1.2.1, hk.1.2.2⟩⟩)⟩, ⟨by (with_reducible repeat (first | refine blk_drewN ?_ _ | refine blk_drew ?_ | refine blk_alloc ?_ _)); refine blk_put (cs := #[.int .i64 a0_0, .int .i64 a0_1, .slice A0_2 l0_2.length c0_2, .int .i64 a0_3, .int .i64 a0_4, .int .i64 a0_5, .int .i64 a0_6]) ?_ 2 _ rfl; (with_reducible repeat (first | refine blk_drewN ?_ _ | refine blk_drew ?_ | refine blk_alloc ?_ _)); exact Aa.out⟩, ⟨kX1 Ac.out A8.out⟩, ⟨pE2 HB.out Af.out Ai.out⟩⟩
 case round =>
  clear H'
  try clear c1
  try clear p1
  try clear q1
  try clear hx1
  try clear qi1
  try clear p2
  try clear c3
  try clear c5
  try clear c5b0
  try clear c5b1
  try clear c6
  try clear c6b0
  try clear c6b1
  try clear c6b2
  try clear p6
  try clear c7
  try clear c8
  try clear c9
  try clear c9b0
  try clear c9b1
  try clear c10
  try clear c10b0
  try clear c11
  try clear c11b0
  try clear c13
  try clear c13b0
  try clear c17
  try clear p17
  try clear q17
  try clear hx17
  try clear qi17
  try clear c18
  try clear p18
  try clear q18
  try clear hx18
  try clear qi18
  try clear Dh Di Dj Dk Dl Dm Dn
  try clear Dv Dw Dx Dy Dz D0 D1
  try clear Ew Ex Ey Ez E0 E1 E2
  try clear Fa Fb Fc Fd Fe Ff Fg
  try clear Do Dp Dq Dr Ds Dt Du
  try clear D2 D3 D4 D5 D6 D7 D8
  try clear E3 E4 E5 E6 E7 E8 E9
  try clear Fh Fi Fj Fk Fl Fm Fn
  try clear Ak
  try clear Al
  try clear An
  try clear Ao
  try clear Ap
  try clear Ag
  try clear Aq
  try clear Ar
  try clear As
  try clear At
  try clear Ea
  try clear Eb
  try clear Ec
  try clear Ed
  try clear Ee
  try clear B5
  try clear Ef
  try clear Eg
  try clear Eh
  try clear Ei
  try clear Au
  try clear Av
  try clear Aw
  try clear Ax
  try clear Ay
  try clear Az
  try clear A0
  try clear A2
  try clear A5
  try clear A6
  try clear Ek
  try clear El
  try clear Em
  try clear En
  try clear Eo
  try clear Ep
  try clear Er
  try clear Es
  try clear Et
  try clear Eu
  try clear p177
  try clear p178
  try clear p179
  try clear p182
  try clear q177
  try clear q178
  try clear q179
  try clear q182
  obtain ⟨Ab, rfl, HA, HK1, Ad, Aa, Ac, HB⟩ := hrel
  cases gk with
  | zero => exact absurd HA.out (by simp [raft_Put.l0])
  | succ k1 =>
   have H := HA.out
   clear HA
   simp only [raft_Put.l0] at H
   obtain ⟨c30, H⟩ := zI H
   have c30b0 := decide_eq_true c30
   clear c30
   obtain ⟨c31, H⟩ := zI H
   have c31b0 := decide_eq_true c31
   clear c31
   obtain ⟨c32, H⟩ := zJ H
   have c32b0 := decide_eq_false c32
   clear c32
   obtain ⟨c33, H⟩ := zJ H
   obtain ⟨c33b0, c33b1⟩ := zk c33
   obtain ⟨c34, H⟩ := zJ H
   have c34b0 := decide_eq_false c34
   clear c34
   obtain ⟨c35, H⟩ := zJ H
   have c35b0 : decide (1000 < (wrap64 ((wrap64 ((wrap64 ((wrap64 (((rd_T52 l1 Ab).f0) - a0_0)) - 1)) + (l1.length : Int))) - Ab))) = false := decide_eq_false c35
   clear c35
   obtain ⟨ji36, hji36⟩ : ∃ j_ : Int, (wrap64 ((wrap64 (((rd_T52 l1 Ab).f0) - a0_0)) - 1)) = j_ := ⟨_, rfl⟩
   replace H : (if 0 ≤ (ji36) then (if (ji36) ≤ (t183.length : Int) then ((some (t183.take ((ji36) : Int).toNat : List (S52))).bind fun y189 => (if Ab ≤ (l1.length : Int) then ((raft_owns.f k1 (l1.drop (Ab : Int).toNat)).bind fun t196 => (if y189.length + t196.length < 1353245080339 then (some (a0_0, a0_1, (y189 ++ t196), a0_3, a0_4, a0_5, a0_6, 0)) else (none))) else (none))) else (none)) else (none)) = some (r1, r2, r3, r4, r5, r6, r7, r8) := by first | (rw [hji36] at H; exact H) | (simp only [hji36] at H ⊢; exact H)
   (try rw [hji36] at c11b0)
   (try rw [hji36] at c35b0)
   have hji36w : (IntKind.i64.wrap ((wrap64 (((rd_T52 l1 Ab).f0) - a0_0)) - 1)) = ji36 := (i64_w _).trans hji36
   obtain ⟨c37, H⟩ := zI H
   have c37b0 := eq_true c37
   have c37b1 := decide_eq_true c37
   clear c37
   obtain ⟨c38, H⟩ := zI H
   have c38b0 := eq_true c38
   have c38b1 := decide_eq_true c38
   clear c38
   obtain ⟨y189, hy189⟩ : ∃ y_ : List (S52), y_ = (t183.take ((ji36) : Int).toNat) := ⟨_, rfl⟩
   replace H : (if Ab ≤ (l1.length : Int) then ((raft_owns.f k1 (l1.drop (Ab : Int).toNat)).bind fun t196 => (if y189.length + t196.length < 1353245080339 then (some (a0_0, a0_1, (y189 ++ t196), a0_3, a0_4, a0_5, a0_6, 0)) else (none))) else (none)) = some (r1, r2, r3, r4, r5, r6, r7, r8) := zy hy189 H
   have Ny189 := Am hy189
   clear hy189
   have c39b0 := eq_true (of_decide_eq_true pS : 0 ≤ Ab)
   obtain ⟨c40, H⟩ := zI H
   have c40b0 := eq_true c40
   have c40b1 := decide_eq_true c40
   clear c40
   obtain ⟨y192, hy192⟩ : ∃ y_ : List (S52), y_ = (l1.drop (Ab : Int).toNat) := ⟨_, rfl⟩
   replace H : ((raft_owns.f k1 y192).bind fun t196 => (if y189.length + t196.length < 1353245080339 then (some (a0_0, a0_1, (y189 ++ t196), a0_3, a0_4, a0_5, a0_6, 0)) else (none))) = some (r1, r2, r3, r4, r5, r6, r7, r8) := zy hy192 H
   have Ny192 := Am hy192
   clear hy192
   obtain ⟨t196, A41, H⟩ := zb H
   obtain ⟨c42, H⟩ := zI H
   have LMc42 := Am c42
   clear c42
   obtain ⟨y199, hy199⟩ : ∃ y_ : List (S52), y_ = (y189 ++ t196) := ⟨_, rfl⟩
   replace H : (some (a0_0, a0_1, y199, a0_3, a0_4, a0_5, a0_6, 0)) = some (r1, r2, r3, r4, r5, r6, r7, r8) := zy hy199 H
   have Ny199 := Am hy199
   clear hy199
   simp only [Option.some.injEq, Prod.mk.injEq] at H
   obtain ⟨rfl, rfl, rfl, rfl, rfl, rfl, rfl, rfl⟩ := H
   try go_wp2
   replace Ad := dNa Ad
   replace Aa := kDa Aa
   replace Ac := kDa Ac
   replace HB := bDa HB
   have p186 : 0 ≤ (Ab : Int) := of_decide_eq_true pS
   have q186 : Ab < (l1.length : Int) := of_decide_eq_true pS
   obtain ⟨F6, A186_5, c186_5, e186, Cc, Cd, Ce, Cf, Cg, Ch, Ci, Cj, Ck, Cl, Cm, Cn, Fo, _, _, _, _, _, _, _, _, _⟩ := at_T52w HR1.out Ab p186 q186 HB.out
   obtain rfl : Aj = F6 := (by injection e186)
   have Co := Am Cn
   have HC186_5 := Am Cm
   clear Cn Cm
   replace p186 := eq_true p186
   replace q186 := eq_true q186
   refine start_ (n := 35) (S := fun w' => w'.cell? (Aj.add ((Ab).toNat * 10)) = some (.int .i64 ((rd_T52 l1 Ab).f0))) (ds := []) #[false, false, false, false, false, false, false, false, false, false, false, false, false, false, false, false, false, false, false, false, false, false, false, false, false, false, false, false, false, false, false, false, false, false, false] (by kernel_rfl) rfl rfl ((cT HB.out Fo)) (fun hHeld => ?_); refine with_tabW raft_Put.tab13 raft_Put.bits13 (fun HT_ HW_ => ?_)
   (first | generalize wr.drew = w43 at Ad Aa Ac HB Co Cc Cd Ce Cf Cg Ch Ci Cj Ck Cl hHeld ⊢ | generalize wr.drew = w43 at Aa Ac HB Co Cc Cd Ce Cf Cg Ch Ci Cj Ck Cl hHeld ⊢)
   refine pui 0 71 35 1 HT_ ?_
   refine zp 1 (h := zp 2 (h := zp 3 (h := zp 4 (h := zp 5 (h := zp 6 (h := zp 7 (h := zp 8 (h := zp 10 (h := ?_)))))))))
   refine take_ (i := 9) (N := some 80) (v := ?_) (a' := ?_) (bw 35 2047) rfl rfl (take_ofW HT_.out HW_.out (by kernel_rfl)) (fun _ _ _ h => h) (Or.inl ⟨by rfl, ?_⟩) hHeld ?_ ?_
   rotate_left
   ·intro w' s0
    go_simp
    with_reducible rfl
   rotate_left
   ·exact za
   refine pui 11 82 35 4095 HT_ ?_
   refine zp 12 (h := zp 13 (h := zq 14 (h := zq 15 (h := zq 16 (h := zq 17 (h := zq 18 (h := zq 19 (h := zq 20 (h := zq 21 (h := zq 22 (h := zq 23 (h := zq 24 (h := zq 25 (h := zq 26 (h := zq 27 (h := zq 28 (h := zq 29 (h := zq 30 (h := zq 31 (h := zq 32 (h := zq 33 (h := zp 34 (h := ?_)))))))))))))))))))))))
   refine done_ (done_of HT_.out (by kernel_rfl)) ?_
   try go_wp2
   replace Ad := dNa Ad
   replace Aa := kDa Aa
   replace Ac := kDa Ac
   replace HB := bDa HB
   have p187 : 0 ≤ (Ab : Int) := of_decide_eq_true pS
   have q187 : Ab < (l1.length : Int) := of_decide_eq_true pS
   obtain ⟨F7, A187_5, c187_5, e187, Cp, Cq, Cr, Cs, Ct, Cu, Cv, Cw, Cx, Cy, Cz, C0, Fp, _, _, _, _, _, _, _, _, _⟩ := at_T52w HR1.out Ab p187 q187 HB.out
   obtain rfl : Aj = F7 := (by injection e187)
   have C1 := Am C0
   have HC187_5 := Am Cz
   clear C0 Cz
   replace p187 := eq_true p187
   replace q187 := eq_true q187
   refine start_ (n := 10) (S := fun w' => cG w' Ae 0 (.int .i64 a0_0) ∧ w'.cell? (Aj.add ((Ab).toNat * 10)) = some (.int .i64 ((rd_T52 l1 Ab).f0))) (ds := []) #[false, false, false, false, false, false, false, false, false, false] (by kernel_rfl) rfl rfl ⟨(blk_cell Aa.out 0).trans rfl, (cT HB.out Fp)⟩ (fun hHeld => ?_); refine with_tabW raft_Put.tab17 raft_Put.bits17 (fun HT_ HW_ => ?_)
   (first | generalize w43.drew = w44 at Ad Aa Ac HB C1 Cp Cq Cr Cs Ct Cu Cv Cw Cx Cy hHeld ⊢ | generalize w43.drew = w44 at Aa Ac HB C1 Cp Cq Cr Cs Ct Cu Cv Cw Cx Cy hHeld ⊢)
   refine pui 0 113 10 1 HT_ ?_
   refine zp 1 (h := zp 2 (h := zp 3 (h := zp 5 (h := zw 4 (h := zw 6 (h := zp 7 (h := zp 8 (h := zp 9 (h := ?_)))))))))
   refine done_ (done_of HT_.out (by kernel_rfl)) ?_
   try go_wp2
   replace Ad := dNa Ad
   replace Aa := kDa Aa
   replace Ac := kDa Ac
   replace HB := bDa HB
   have p188 : 0 ≤ (Ab : Int) := of_decide_eq_true pS
   have q188 : Ab < (l1.length : Int) := of_decide_eq_true pS
   obtain ⟨F8, A188_5, c188_5, e188, C2, C3, C4, C5, C6, C7, C8, C9, Da, Db, Dc, Dd, Fq, _, _, _, _, _, _, _, _, _⟩ := at_T52w HR1.out Ab p188 q188 HB.out
   obtain rfl : Aj = F8 := (by injection e188)
   have De := Am Dd
   have HC188_5 := Am Dc
   clear Dd Dc
   replace p188 := eq_true p188
   replace q188 := eq_true q188
   refine start_ (n := 10) (S := fun w' => cG w' Ae 5 (.int .i64 a0_5) ∧ w'.cell? (Aj.add ((Ab).toNat * 10)) = some (.int .i64 ((rd_T52 l1 Ab).f0))) (ds := []) #[false, false, false, false, false, false, false, false, false, false] (by kernel_rfl) rfl rfl ⟨(blk_cell Aa.out 5).trans rfl, (cT HB.out Fq)⟩ (fun hHeld => ?_); refine with_tabW raft_Put.tab18 raft_Put.bits18 (fun HT_ HW_ => ?_)
   (first | generalize w44.drew = w45 at Ad Aa Ac HB De C2 C3 C4 C5 C6 C7 C8 C9 Da Db hHeld ⊢ | generalize w44.drew = w45 at Aa Ac HB De C2 C3 C4 C5 C6 C7 C8 C9 Da Db hHeld ⊢)
   refine pui 0 123 10 1 HT_ ?_
   refine zp 1 (h := zp 2 (h := zp 3 (h := zp 5 (h := zp 6 (h := zw 4 (h := zw 7 (h := zp 8 (h := zp 9 (h := ?_)))))))))
   refine done_ (done_of HT_.out (by kernel_rfl)) ?_
   try go_wp2
   replace Ad := dNa Ad
   replace Aa := kDa Aa
   replace Ac := kDa Ac
   replace HB := bDa HB
   have q47 : ((ji36) : Int) ≤ ((t183.length : Int) : Int) := of_decide_eq_true pS
   obtain ⟨i047, hi047, _, F9, _⟩ := info_parts info52
   have Fu := cut_to (P := Try.prog) 26 52 .i64 Try.underlying26 hi047 Bf t183.length Bg (ji36) (of_decide_eq_true pS) q47 (Kd.N_reads' Ad.out).2.1
   have Dg := Kd.N_take (m := ((ji36) : Int).toNat) Ad.out (by omega)
   have hy47 : y189.length = ((ji36) : Int).toNat := (by rw [Ny189.out, List.length_take]; omega)
   rw [← Ny189.out] at Dg
   rw [← hy47] at Dg Fu
   clear hy47 hi047 F9 Ad
   have Bb := Am Dg
   clear Dg
   replace q47 := eq_true q47
   have q48 : (Ab : Int) ≤ ((l1.length : Int) : Int) := of_decide_eq_true pS
   obtain ⟨i048, hi048, _, Fs, _⟩ := info_parts info52
   have Bz : l1.length ≤ c1 := HC1.out
   have Fw : Kd.C k52 _ (some Aj) l1.length l1 := HR1.out
   have q048 : (0 : Int) ≤ (Ab : Int) := of_decide_eq_true pS
   have Fv := cut_from (P := Try.prog) 26 52 .i64 Try.underlying26 hi048 10 Fs (some Aj) l1.length c1 Ab q048 q48
   have Df := Kd.C_drop (m := (Ab : Int).toNat) (c := c1) Fw (by omega) Bz
   obtain ⟨A48, hA48⟩ : ∃ AX_, AX_ = (if c1 = (Ab : Int).toNat then (some Aj) else ((some Aj) : Option Addr).map (·.add ((Ab : Int).toNat * 10))) := ⟨_, rfl⟩
   obtain ⟨c48, hc48⟩ : ∃ cX_, cX_ = c1 - (Ab : Int).toNat := ⟨_, rfl⟩
   have hy48 : y192.length = l1.length - (Ab : Int).toNat := (by rw [Ny192.out, List.length_drop] <;> omega)
   rw [show (l1).drop (Ab : Int).toNat = y192 from Ny192.out.symm] at Df
   replace Df : Kd.C k52 _ A48 y192.length y192 := (by rw [hA48]; exact Df)
   rw [← hy48, ← hA48, ← hc48] at Fv
   have HR195 := Am Df
   have HC195 := Am (show y192.length ≤ c48 from by rw [hy48, hc48]; exact Nat.sub_le_sub_right Bz _)
   clear Df Fw Bz hi048 Fs hc48
   have KY48 := Am hy48
   have KA48 := Am hA48
   clear hy48 hA48
   replace q48 := eq_true q48
   refine start_ (n := 11) (S := fun w' => cG w' Ae 2 (.slice Bf t183.length Bg)) (ds := [10]) #[false, false, false, false, false, false, false, false, false, false, false] (by kernel_rfl) rfl rfl ((blk_cell Aa.out 2).trans rfl) (fun hHeld => ?_); refine with_tabW raft_Put.tab22 raft_Put.bits22 (fun HT_ HW_ => ?_)
   (first | generalize w45.drew = w46 at Ad Aa Ac HB Bb HR195 hHeld ⊢ | generalize w45.drew = w46 at Aa Ac HB Bb HR195 hHeld ⊢)
   refine pui 0 142 11 1 HT_ ?_
   refine zp 2 (h := zp 4 (h := zp 5 (h := zp 6 (h := ?_))))
   refine take_ (i := 1) (N := some 143) (v := ?_) (a' := ?_) (bw 11 119) rfl rfl (take_ofW HT_.out HW_.out (by kernel_rfl)) (fun _ _ _ h => h) (Or.inl ⟨by rfl, ?_⟩) hHeld ?_ ?_
   rotate_left
   ·intro w' s0
    go_simp
    with_reducible rfl
   rotate_left
   ·exact za
   refine pui 3 145 11 127 HT_ ?_
   refine onei 7 149 11 255 HT_ (fun K hK => ?_)
   refine goes_ Try.func76 (by kernel_rfl) rfl #[.slice A48 y192.length c48] (by rfl) rfl rfl pL ?_
   with_reducible refine (raft_owns.calls k1 _ _ y192 t196 _ ?A9 ?Ba A41.out).mono ?_
   (case A9 => exact pC (Kd.C_below HR195.out HB.out))
   (case Ba => exact HC195.out)
   rintro e w49 ⟨v197, rfl, ho0, hb⟩
   refine ⟨_, rfl, ?_⟩
   have B2 := Am (Kd.N_lower (Kd.N_mono (ok' := fun k_ => (w.heap.size ≤ k_) ∧ some k_ ≠ (.slice Bf y189.length Bg : Value).ownBlock ∧ k_ ≠ Ae ∧ k_ ≠ Ah) (Kd.S_N (Kd.S_bound ho0)) (fun k_ hk_ => ⟨(Nat.le_trans (below_size (pE2 HB.out Af.out Ai.out)) hk_.2.1), (Kd.fresh' (Kd.N_lt (pN Bb.out)) k_ hk_.2.1), (kF Aa.out k_ hk_.2.1), (kF Ac.out k_ hk_.2.1)⟩)) (below_size (pE2 HB.out Af.out Ai.out)))
   replace Bb := Am (Kd.N_elder' (pN Bb.out) (Kd.N_base (Kd.S_N ho0)) hb)
   replace Aa := kBa Aa hb
   replace Ac := kBa Ac hb
   replace HB := zX2 HB Af.out Ai.out hb
   (try clear hb)
   (try clear hb2)
   (try clear hk)
   (try clear hi)
   (try clear ho0)
   obtain ⟨Ao51, co51, Fx⟩ := Kd.N_slice B2.out
   (first | subst Fx | (injection Fx with f1_ f2_ f3_; have f4_ := f1_.symm; have f5_ := f3_.symm; clear f1_ f2_ f3_; subst f4_; subst f5_))
   refine hK.out _ _ ((blk_cell Aa.out 2).trans rfl) (fun hHeld => ?_)
   clear hK K
   refine norm_ (a' := ?_) ?_ ?_
   rotate_left
   ·show Act.put _ (some 149) _ = _
    simp only [Act.put, List.setIfInBounds_toArray, List.set_cons_zero, List.set_cons_succ, i64_w, i32_w]
    rfl
   refine onei 8 150 11 511 HT_ (fun K hK => ?_)
   refine Kd.N_append_rows_step k52 (w0 := w) w.heap.size (by rfl) (.tmp 145) (.tmp 149) 26 52 (.agg #[(.int .i64 0), (.int .i64 0), (.int .i64 0), (.string ⟨#[]⟩), (.bool false), (.slice none 0 0), (.int .i64 0), (.int .i64 0), (.int .i64 0), (.int .u32 0)]) 104 rfl Try.underlying26 info52 rfl (by decide) (by omega) (.slice Bf y189.length Bg) y189 t196 _ _ _ (fun k_ => (w.heap.size ≤ k_) ∧ k_ ≠ Ae ∧ k_ ≠ Ah) (fun k_ => ((fun k_ => (w.heap.size ≤ k_) ∧ k_ ≠ Ae ∧ k_ ≠ Ah)) k_ ∧ some k_ ≠ (.slice Bf y189.length Bg : Value).ownBlock) rfl rfl ?aO ?aR (fun _ hk => hk) ?aF ?aB ?aS ?aL ?_
   (case aR => exact (by skip; exact Kd.N_F (Kd.N_mono (ok' := (fun k_ => ((fun k_ => (w.heap.size ≤ k_) ∧ k_ ≠ Ae ∧ k_ ≠ Ah)) k_ ∧ some k_ ≠ (.slice Bf y189.length Bg : Value).ownBlock)) (B2.out) (fun k_ hk => ⟨⟨hk.1, ⟨hk.2.2.1, hk.2.2.2⟩⟩, hk.2.1⟩))))
   (case aB => exact (pE2 HB.out Af.out Ai.out))
   (case aF => exact (fun k_ hk => ⟨(Nat.le_trans (below_size (pE2 HB.out Af.out Ai.out)) hk), kF Aa.out k_ hk, kF Ac.out k_ hk⟩))
   (case aO => exact (by (with_reducible repeat (first | apply Kd.N_alloc | apply Kd.N_drewN | apply Kd.N_drew)); exact Kd.N_mono Bb.out (fun _ hk => ⟨hk.1.1, ⟨hk.1.2.1, hk.1.2.2⟩⟩)))
   (case aS => exact (below_size (pE2 HB.out Af.out Ai.out)))
   (case aL => have := LMc42.out; omega)
   intro v200 w50 ho hb hg hat
   rw [← Ny199.out] at ho
   replace Aa := Am (blk_grown (g := Ae) (o := .cells #[.int .i64 a0_0, .int .i64 a0_1, .slice Bf t183.length Bg, .int .i64 a0_3, .int .i64 a0_4, .int .i64 a0_5, .int .i64 a0_6] 54 (0, 0)) (pK Aa.out) hg (Kd.N_ne Bb.out Aa.out (by decide)))
   replace Ac := Am (blk_grown (g := Ah) (o := .cells #[.int .i64 0, .int .i64 0, .slice none 0 0, .int .i64 0, .int .i64 0, .int .i64 0, .int .i64 0] 54 (0, 0)) (pK Ac.out) hg (Kd.N_ne Bb.out Ac.out (by decide)))
   replace B2 := Am (Kd.N_afterv (ok := (fun k_ => (w.heap.size ≤ k_) ∧ k_ ≠ Ae ∧ k_ ≠ Ah)) (by (with_reducible repeat (first | apply Kd.N_alloc | apply Kd.N_drewN | apply Kd.N_drew)); exact Kd.N_mono B2.out (fun _ hk => ⟨⟨hk.1, ⟨hk.2.2.1, hk.2.2.2⟩⟩, hk.2.1⟩)) hg hat)
   replace HB := Am (hb)
   have Ft := Am (ho)
   clear Bb
   clear ho hb hg hat
   obtain ⟨Fy, Fz, F0⟩ := Kd.N_slice Ft.out
   (first | subst F0 | (injection F0 with f1_ f2_ f3_; have f4_ := f1_.symm; have f5_ := f3_.symm; clear f1_ f2_ f3_; subst f4_; subst f5_))
   refine hK.out _ _ ((blk_cell Aa.out 2).trans rfl) (fun hHeld => ?_)
   clear hK K
   refine norm_ (a' := ?_) ?_ ?_
   rotate_left
   ·show Act.put _ (some 150) _ = _
    simp only [Act.put, List.setIfInBounds_toArray, List.set_cons_zero, List.set_cons_succ, i64_w, i32_w]
    rfl
   refine pui 9 151 11 1023 HT_ ?_
   refine last_ (i := 10) (N := none) (bw 11 2047) rfl rfl (one_of HT_.out (by kernel_rfl)) (by decide) (fun K hK => ?_)
   have hs53 : w50.cell? ⟨Ae, 2, none⟩ = some (.slice Bf t183.length Bg) := (blk_cell Aa.out 2).trans rfl
   have hfs53 := blk_frozen Aa.out 2
   have hns53_1 := A8.out
   have hms53_1 := Bd.out
   refine skip_ (w1 := ?_) (by rfl) rfl ?_ ?_
   rotate_left
   ·go_simp
    rfl
   refine hK.out _ _ ?_
   clear hK K
   refine done_ (done_of HT_.out (by kernel_rfl)) ?_
   have hnb54 := Bd.out
   have hnc54 := A8.out
   obtain ⟨_, _, _, _, _, _, _⟩ := bc7 Aa.out
   obtain ⟨_, _, _, _, _, _, _⟩ := bf7 Aa.out
   obtain ⟨_, _, _, _, _, _, _⟩ := bc7 Ac.out
   obtain ⟨_, _, _, _, _, _, _⟩ := bf7 Ac.out
   try go_wp2
   refine bodyPost_ret (results_ct rfl _ _ Ah 54 #[.int .i64 a0_0, .int .i64 a0_1, .slice Fy y199.length Fz, .int .i64 a0_3, .int .i64 a0_4, .int .i64 a0_5, .int .i64 a0_6] (0, 0) _ rfl (kX1 Ac.out A8.out) Try.underlying54 rfl (by kernel_rfl)) rfl ?_
   exact ⟨_, by first | rfl | (simp [errW_none, errW_some] <;> rfl) | (simp only [← hji36]; first | rfl | (simp [errW_none, errW_some] <;> rfl)) | (simp [*, errW_none, errW_some] <;> rfl), by (with_reducible repeat (first | apply Kd.N_alloc | apply Kd.N_drewN | apply Kd.N_drew)); exact Kd.N_mono (Nf7 (g := Ah) (Kd.N_far (p := ⟨Ae, 2, none⟩) (Kd.N_mono (Kd.N_mono Ft.out (fun k_ hk => (⟨hk, hk.2.1⟩ : _ ∧ k_ ≠ Ae))) (fun k_ hk => (⟨hk, hk.1.2.2⟩ : _ ∧ k_ ≠ Ah))) (fun _ hk => hk.1.2) (.slice Fy y199.length Fz)) (fun _ hk => hk.2)) (fun _ hk => hk.1.1.1), pE2 HB.out Af.out Ai.out⟩
end
end Go.Proofs.Ytdanmjfkocjgjaa.PWalPuts
