/- What the law reaches, as plain Lean functions, and that the machine's calls answer just that. -/
import Derived.Test.YtdanmjfkocjgjaaPWalGetsx0
import Derived.Test.YtdanmjfkocjgjaaPWalGetsx3
import Derived.Test.YtdanmjfkocjgjaaPWalGetsx5
namespace Go.Proofs.Ytdanmjfkocjgjaa.PWalGets
open Go.RowKit Go.Proofs.YtdanmjfkocjgjaaW.PrintWords Go.Proofs.YtdanmjfkocjgjaaW.PrintLast Go.Proofs.YtdanmjfkocjgjaaW.PrintMore
attribute [local go_sem] max2_int min2_int max_two min_two max_three min_three max_four min_four
set_option linter.unusedVariables false
set_option linter.unusedSimpArgs false
attribute [local go_sem] wrap64_l1 wrap64_l2 wrap64_l3 wrap64_l4 wrap64_l5
def slices_IndexFunc_api_Rec.l0 : Nat → List (S30) → Int → Int → Option (Int)
 | 0, _, _, _ => none
 | k + 1, x0, x7, x8 => if x8 < x7 then (if 0 ≤ x8 then (if x8 < (x0.length : Int) then ((wal_Make_1.f k ((rd_T30 x0 x8).f0) ((rd_T30 x0 x8).f1) ((rd_T30 x0 x8).f2.f0) ((rd_T30 x0 x8).f2.f1) ((rd_T30 x0 x8).f2.f2) ((rd_T30 x0 x8).f3)).bind fun t139 => (if t139 = true then (some x8) else (slices_IndexFunc_api_Rec.l0 k x0 x7 (wrap64 (x8 + 1))))) else (none)) else (none)) else (some (-1))
def slices_IndexFunc_api_Rec.f (k : Nat) (l0 : List (S30))  : Option (Int) := slices_IndexFunc_api_Rec.l0 k l0 (l0.length : Int) 0
theorem slices_IndexFunc_api_Rec.mono_l : ∀ k, (∀ y0 y1 y2, LeO (slices_IndexFunc_api_Rec.l0 k y0 y1 y2) (slices_IndexFunc_api_Rec.l0 (k + 1) y0 y1 y2))
 | 0 => fun _ _ _ r h => by simp [slices_IndexFunc_api_Rec.l0] at h
 | k + 1 => by
  have ih0 := slices_IndexFunc_api_Rec.mono_l k
  ·intro y0 y1 y2
   unfold slices_IndexFunc_api_Rec.l0
   repeat' (with_reducible first | exact ih0 .. | exact wal_Make_1.mono .. | exact LeO.refl .. | exact LeO.none .. | refine LeO.ite ?_ ?_ | refine LeO.bind ?_ (fun _ => ?_))
theorem slices_IndexFunc_api_Rec.mono : ∀ a0 k, LeO (slices_IndexFunc_api_Rec.f k a0) (slices_IndexFunc_api_Rec.f (k + 1) a0) := by
 intro a0 k
 have ih0 := slices_IndexFunc_api_Rec.mono_l k
 unfold slices_IndexFunc_api_Rec.f
 repeat' (with_reducible first | exact ih0 .. | exact wal_Make_1.mono .. | exact LeO.refl .. | exact LeO.none .. | refine LeO.ite ?_ ?_ | refine LeO.bind ?_ (fun _ => ?_))
set_option maxHeartbeats 8000000 in
set_option maxRecDepth 100000 in
theorem slices_IndexFunc_api_Rec.calls (k : Nat) (A0 : Option Addr) (c0 : Nat) (l0 : List (S30))  (r : Int) (w : World) (hr0 : Kd.C k30 w A0 l0.length l0) (hc0 : l0.length ≤ c0) (h : slices_IndexFunc_api_Rec.f k l0 = some r) :
 Calls Try.prog 61 #[.slice A0 l0.length c0, .func (.func 39) #[] #[]] w fun e w' => e = .returned (.int .i64 r) ∧ Below w.heap.size w w' := by
 have hu30 := Try.underlying30
 have HR0 := Am hr0
 have HC0 := Am hc0
 clear hr0 hc0
 have HB := Am (Below.refl w.heap.size w)
 unfold slices_IndexFunc_api_Rec.f at h
 have H := h
 clear h
 have H' := Am H
 clear H
 go_enter Try.func61, Try.ntmps61
 go_wp2
 go_loopg [8] k (fun kq v8 w' => ∃ (Aa : Int), v8 = .int .i64 Aa ∧ Aside0 (slices_IndexFunc_api_Rec.l0 kq l0 (l0.length : Int) Aa = some r) ∧ Aside0 (kq ≤ k) ∧ Aside0 (Below w.heap.size w w'))
 case atStart => exact ⟨(0), zr, H', ⟨Nat.le_refl _⟩, ⟨pB HB.out⟩⟩
 case round =>
  clear H'
  try clear p2
  obtain ⟨Aa, rfl, HA, HK1, HB⟩ := hrel
  cases gk with
  | zero => exact absurd HA.out (by simp [slices_IndexFunc_api_Rec.l0])
  | succ k1 =>
   have H := HA.out
   clear HA
   simp only [slices_IndexFunc_api_Rec.l0] at H
   by_cases c3 : Aa < (l0.length : Int)
   rotate_left
   ·rw [if_neg c3] at H
    have c3b0 := decide_eq_false c3
    clear c3
    obtain rfl := Option.some.inj H
    go_wp2
    go_ret
    exact ⟨pX, pB HB.out⟩
   rw [if_pos c3] at H
   have c3b0 := decide_eq_true c3
   clear c3
   obtain ⟨c4, H⟩ := zI H
   have c4b0 := decide_eq_true c4
   clear c4
   obtain ⟨c5, H⟩ := zI H
   have c5b0 := decide_eq_true c5
   clear c5
   replace H := Option.bind_eq_some_iff.mp H
   obtain ⟨t139, A60, H⟩ := H
   have A6 := Am A60
   clear A60
   by_cases c7 : t139 = true
   ·subst c7
    rw [if_pos rfl] at H
    obtain rfl := Option.some.inj H
    have p138 : 0 ≤ (Aa : Int) := of_decide_eq_true pS
    have q138 : Aa < (l0.length : Int) := of_decide_eq_true pS
    obtain ⟨Ap, Ao, c138_1, e138, Ah, Ai, Aj, Ak, Al, An, Ab, Ac⟩ := at_T30u HR0.out Aa p138 q138 HB.out
    cases e138
    have Ad := Am Ac
    have Ae := Am Ab
    clear Ac Ab
    replace p138 := eq_true p138
    replace q138 := eq_true q138
    go_wp2_with (first | (go_at_call 39; (with_reducible refine (wal_Make_1.calls k1 ((rd_T30 l0 Aa).f0) _ _ ((rd_T30 l0 Aa).f1) ((rd_T30 l0 Aa).f2.f0) ((rd_T30 l0 Aa).f2.f1) ((rd_T30 l0 Aa).f2.f2) ((rd_T30 l0 Aa).f3) true _ ?Af ?Ag A6.out).mono ?_); (case Af => exact pC (Kd.C_below Ad.out HB.out)); (case Ag => exact Ae.out); rintro e w8 ⟨rfl, hb⟩; replace HB := Am (below_step (pB HB.out) hb); (try clear hb); (try clear hb2); (try clear hk); (try clear hi)))
    go_ret
    exact ⟨pX, pB HB.out⟩
   replace c7 := Bool.eq_false_iff.mpr c7
   subst c7
   rw [if_neg zF] at H
   have H' := Am H
   clear H
   have p138 : 0 ≤ (Aa : Int) := of_decide_eq_true pS
   have q138 : Aa < (l0.length : Int) := of_decide_eq_true pS
   obtain ⟨Ap, Ao, c138_1, e138, Ah, Ai, Aj, Ak, Al, An, Ab, Ac⟩ := at_T30u HR0.out Aa p138 q138 HB.out
   cases e138
   have Ad := Am Ac
   have Ae := Am Ab
   clear Ac Ab
   replace p138 := eq_true p138
   replace q138 := eq_true q138
   go_wp2_with (first | (go_at_call 39; (with_reducible refine (wal_Make_1.calls k1 ((rd_T30 l0 Aa).f0) _ _ ((rd_T30 l0 Aa).f1) ((rd_T30 l0 Aa).f2.f0) ((rd_T30 l0 Aa).f2.f1) ((rd_T30 l0 Aa).f2.f2) ((rd_T30 l0 Aa).f3) false _ ?Af ?Ag A6.out).mono ?_); (case Af => exact pC (Kd.C_below Ad.out HB.out)); (case Ag => exact Ae.out); rintro e w9 ⟨rfl, hb⟩; replace HB := Am (below_step (pB HB.out) hb); (try clear hb); (try clear hb2); (try clear hk); (try clear hi)))
   go_roundg k1
   case measure => have := HK1.out; omega
   case rel => exact ⟨(wrap64 (Aa + 1)), zr, H', ⟨by have := HK1.out; omega⟩, ⟨pB HB.out⟩⟩
def slices_ContainsFunc_api_Rec.f (k : Nat) (l0 : List (S30))  : Option (Bool) := (slices_IndexFunc_api_Rec.f k l0).bind fun t140 => (some (decide (t140 ≥ 0)))
theorem slices_ContainsFunc_api_Rec.mono : ∀ a0 k, LeO (slices_ContainsFunc_api_Rec.f k a0) (slices_ContainsFunc_api_Rec.f (k + 1) a0) := by
 intro a0 k
 unfold slices_ContainsFunc_api_Rec.f
 repeat' (with_reducible first | exact slices_IndexFunc_api_Rec.mono .. | exact LeO.refl .. | exact LeO.none .. | refine LeO.ite ?_ ?_ | refine LeO.bind ?_ (fun _ => ?_))
set_option maxHeartbeats 8000000 in
set_option maxRecDepth 100000 in
theorem slices_ContainsFunc_api_Rec.calls (k : Nat) (A0 : Option Addr) (c0 : Nat) (l0 : List (S30))  (r : Bool) (w : World) (hr0 : Kd.C k30 w A0 l0.length l0) (hc0 : l0.length ≤ c0) (h : slices_ContainsFunc_api_Rec.f k l0 = some r) :
 Calls Try.prog 38 #[.slice A0 l0.length c0, .func (.func 39) #[] #[]] w fun e w' => e = .returned (.bool r) ∧ Below w.heap.size w w' := by
 have HR0 := Am hr0
 have HC0 := Am hc0
 clear hr0 hc0
 have HB := Am (Below.refl w.heap.size w)
 unfold slices_ContainsFunc_api_Rec.f at h
 have H := h
 clear h
 replace H := Option.bind_eq_some_iff.mp H
 obtain ⟨t140, A30, H⟩ := H
 have A3 := Am A30
 clear A30
 obtain rfl := Option.some.inj H
 go_enter Try.func38, Try.ntmps38
 go_wp2_with (first | ((with_reducible refine gate_callee (f := 61) rfl ?_); refine goesL_ (some 7) rfl rfl Try.func61 (by kernel_rfl) rfl #[.slice A0 l0.length c0, .func (.func 39) #[] #[]] rfl pL ?_; (with_reducible refine (slices_IndexFunc_api_Rec.calls k _ _ l0 t140 _ ?side1 ?side2 A3.out).mono ?_); (case side1 => repeat (first | exact HR0.out | (with_reducible refine Kd.C_alloc ?_ _) | (with_reducible refine Kd.C_drewN ?_ _) | (with_reducible refine Kd.C_drew ?_))); (case side2 => exact HC0.out); rintro e w4 ⟨rfl, hb⟩; refine ⟨_, rfl, ?_⟩; replace HB := Am (below_step (pB HB.out) hb); (try clear hb); (try clear hb2); (try clear hk); (try clear hi)))
 go_ret
 exact ⟨pX, pB HB.out⟩
def raft_Last.f (k : Nat) (a0_0 : Int) (a0_1 : Int) (l0_2 : List (S52)) (a0_3 : Int) (a0_4 : Int) (a0_5 : Int) (a0_6 : Int) : Option (Int × Int) := (raft_Check.f k a0_0 a0_1 l0_2 a0_3 a0_4 a0_5 a0_6).bind fun t142 => (if t142 = 0 then (if (l0_2.length : Int) > 0 then (if 0 ≤ (wrap64 ((l0_2.length : Int) - 1)) then (if (wrap64 ((l0_2.length : Int) - 1)) < (l0_2.length : Int) then (some ((rd_T52 l0_2 (wrap64 ((l0_2.length : Int) - 1))).f0, (rd_T52 l0_2 (wrap64 ((l0_2.length : Int) - 1))).f1)) else (none)) else (none)) else (some (a0_0, a0_1))) else (none))
theorem raft_Last.mono : ∀ a0 a1 a2 a3 a4 a5 a6 k, LeO (raft_Last.f k a0 a1 a2 a3 a4 a5 a6) (raft_Last.f (k + 1) a0 a1 a2 a3 a4 a5 a6) := by
 intro a0 a1 a2 a3 a4 a5 a6 k
 unfold raft_Last.f
 repeat' (with_reducible first | exact raft_Check.mono .. | exact LeO.refl .. | exact LeO.none .. | refine LeO.ite ?_ ?_ | refine LeO.bind ?_ (fun _ => ?_))
set_option maxHeartbeats 8000000 in
set_option maxRecDepth 100000 in
theorem raft_Last.calls (k : Nat) (a0_0 : Int) (a0_1 : Int) (A0_2 : Option Addr) (c0_2 : Nat) (l0_2 : List (S52)) (a0_3 : Int) (a0_4 : Int) (a0_5 : Int) (a0_6 : Int) (r1 : Int) (r2 : Int) (w : World) (hr0_2 : Kd.C k52 w A0_2 l0_2.length l0_2) (hc0_2 : l0_2.length ≤ c0_2) (h : raft_Last.f k a0_0 a0_1 l0_2 a0_3 a0_4 a0_5 a0_6 = some (r1, r2)) :
 Calls Try.prog 74 #[.agg #[.int .i64 a0_0, .int .i64 a0_1, .slice A0_2 l0_2.length c0_2, .int .i64 a0_3, .int .i64 a0_4, .int .i64 a0_5, .int .i64 a0_6]] w fun e w' => e = .returned (.tuple #[.int .i64 r1, .int .i64 r2]) ∧ Below w.heap.size w w' := by
 have hu54 := Try.underlying54
 have A1 := Am hr0_2
 have A7 := Am hc0_2
 clear hr0_2 hc0_2
 have HB := Am (Below.refl w.heap.size w)
 unfold raft_Last.f at h
 have H := h
 clear h
 replace H := Option.bind_eq_some_iff.mp H
 obtain ⟨t142, A20, H⟩ := H
 have A2 := Am A20
 clear A20
 obtain ⟨c3, H⟩ := zI H
 have c3b0 := beq_iff_eq.mpr c3
 have c3b1 := bne_eq_false_iff_eq.mpr c3
 clear c3
 by_cases c4 : (l0_2.length : Int) > 0
 rotate_left
 ·rw [if_neg c4] at H
  have c4b0 : decide (0 < (l0_2.length : Int)) = false := decide_eq_false c4
  have c4b1 : decide (0 < l0_2.length) = false := decide_eq_false (by omega)
  clear c4
  simp only [Option.some.injEq, Prod.mk.injEq] at H
  obtain ⟨rfl, rfl⟩ := H
  go_enter Try.func74, Try.ntmps74
  go_wp2_with (first | ((with_reducible refine gate_dst (N := 1) rfl ?_); refine zE 1 #[.int .i64 a0_0, .int .i64 a0_1, .slice A0_2 l0_2.length c0_2, .int .i64 a0_3, .int .i64 a0_4, .int .i64 a0_5, .int .i64 a0_6] 54 ?_; intro A3 hg w12 hbox hb; have Aa := Am (hbox); have A4 := Am (zG hg (below_size (pB HB.out))); replace HB := Am (below_step (pB HB.out) hb); have A0 := A4; clear hb hbox hg; obtain ⟨Bs, Bt, Bu, Bv, Bw, Bx, By⟩ := bc7 Aa.out; obtain ⟨Bz, B0, B1, B2, B3, B4, B5⟩ := bf7 Aa.out) | (go_at_call 37; (with_reducible refine (raft_Check.calls k a0_0 a0_1 _ _ l0_2 a0_3 a0_4 a0_5 a0_6 t142 _ ?A5 ?A6 A2.out).mono ?_); (case A5 => exact pC (Kd.C_below A1.out HB.out)); (case A6 => exact A7.out); rintro e w14 ⟨rfl, hb⟩; replace Aa := kBa Aa hb; replace HB := Am (below_step (pE HB.out A0.out) hb); (try clear hb); (try clear hb2); (try clear hk); (try clear hi); obtain ⟨B6, B7, B8, B9, Ca, Cb, Cc⟩ := bc7 Aa.out; obtain ⟨Cd, Ce, Cf, Cg, Ch, Ci, Cj⟩ := bf7 Aa.out))
  repeat (go_quiet (first | ((with_reducible refine gate_dst (N := 1) rfl ?_); refine zE 1 #[.int .i64 a0_0, .int .i64 a0_1, .slice A0_2 l0_2.length c0_2, .int .i64 a0_3, .int .i64 a0_4, .int .i64 a0_5, .int .i64 a0_6] 54 ?_; intro A3 hg w12 hbox hb; have Aa := Am (hbox); have A4 := Am (zG hg (below_size (pB HB.out))); replace HB := Am (below_step (pB HB.out) hb); have A0 := A4; clear hb hbox hg; obtain ⟨Bs, Bt, Bu, Bv, Bw, Bx, By⟩ := bc7 Aa.out; obtain ⟨Bz, B0, B1, B2, B3, B4, B5⟩ := bf7 Aa.out) | (go_at_call 37; (with_reducible refine (raft_Check.calls k a0_0 a0_1 _ _ l0_2 a0_3 a0_4 a0_5 a0_6 t142 _ ?A5 ?A6 A2.out).mono ?_); (case A5 => exact pC (Kd.C_below A1.out HB.out)); (case A6 => exact A7.out); rintro e w14 ⟨rfl, hb⟩; replace Aa := kBa Aa hb; replace HB := Am (below_step (pE HB.out A0.out) hb); (try clear hb); (try clear hb2); (try clear hk); (try clear hi); obtain ⟨B6, B7, B8, B9, Ca, Cb, Cc⟩ := bc7 Aa.out; obtain ⟨Cd, Ce, Cf, Cg, Ch, Ci, Cj⟩ := bf7 Aa.out)); try go_wp2_with (first | ((with_reducible refine gate_dst (N := 1) rfl ?_); refine zE 1 #[.int .i64 a0_0, .int .i64 a0_1, .slice A0_2 l0_2.length c0_2, .int .i64 a0_3, .int .i64 a0_4, .int .i64 a0_5, .int .i64 a0_6] 54 ?_; intro A3 hg w12 hbox hb; have Aa := Am (hbox); have A4 := Am (zG hg (below_size (pB HB.out))); replace HB := Am (below_step (pB HB.out) hb); have A0 := A4; clear hb hbox hg; obtain ⟨Bs, Bt, Bu, Bv, Bw, Bx, By⟩ := bc7 Aa.out; obtain ⟨Bz, B0, B1, B2, B3, B4, B5⟩ := bf7 Aa.out) | (go_at_call 37; (with_reducible refine (raft_Check.calls k a0_0 a0_1 _ _ l0_2 a0_3 a0_4 a0_5 a0_6 t142 _ ?A5 ?A6 A2.out).mono ?_); (case A5 => exact pC (Kd.C_below A1.out HB.out)); (case A6 => exact A7.out); rintro e w14 ⟨rfl, hb⟩; replace Aa := kBa Aa hb; replace HB := Am (below_step (pE HB.out A0.out) hb); (try clear hb); (try clear hb2); (try clear hk); (try clear hi); obtain ⟨B6, B7, B8, B9, Ca, Cb, Cc⟩ := bc7 Aa.out; obtain ⟨Cd, Ce, Cf, Cg, Ch, Ci, Cj⟩ := bf7 Aa.out)))
  go_ret2
  exact ⟨pX, pE HB.out A0.out⟩
 rw [if_pos c4] at H
 have c4b0 : decide (0 < (l0_2.length : Int)) = true := decide_eq_true c4
 have c4b1 : decide (0 < l0_2.length) = true := decide_eq_true (by omega)
 clear c4
 obtain ⟨ji5, hji5⟩ : ∃ j_ : Int, (wrap64 ((l0_2.length : Int) - 1)) = j_ := ⟨_, rfl⟩
 replace H : (if 0 ≤ (ji5) then (if (ji5) < (l0_2.length : Int) then (some ((rd_T52 l0_2 (ji5)).f0, (rd_T52 l0_2 (ji5)).f1)) else (none)) else (none)) = some (r1, r2) := by first | (rw [hji5] at H; exact H) | (simp only [hji5] at H ⊢; exact H)
 (try rw [hji5] at A2)
 have hji5w : (IntKind.i64.wrap ((l0_2.length : Int) - 1)) = ji5 := (i64_w _).trans hji5
 obtain ⟨c6, H⟩ := zI H
 have c6b0 := decide_eq_true c6
 clear c6
 obtain ⟨c7, H⟩ := zI H
 have c7b0 := decide_eq_true c7
 clear c7
 simp only [Option.some.injEq, Prod.mk.injEq] at H
 obtain ⟨rfl, rfl⟩ := H
 go_enter Try.func74, Try.ntmps74
 go_wp2_with (first | ((with_reducible refine gate_dst (N := 1) rfl ?_); refine zE 1 #[.int .i64 a0_0, .int .i64 a0_1, .slice A0_2 l0_2.length c0_2, .int .i64 a0_3, .int .i64 a0_4, .int .i64 a0_5, .int .i64 a0_6] 54 ?_; intro A3 hg w8 hbox hb; have Aa := Am (hbox); have A4 := Am (zG hg (below_size (pB HB.out))); replace HB := Am (below_step (pB HB.out) hb); have A0 := A4; clear hb hbox hg; obtain ⟨Ck, Cl, Cm, Cn, Co, Cp, Cq⟩ := bc7 Aa.out; obtain ⟨Cr, Cs, Ct, Cu, Cv, Cw, Cx⟩ := bf7 Aa.out) | (go_at_call 37; (with_reducible refine (raft_Check.calls k a0_0 a0_1 _ _ l0_2 a0_3 a0_4 a0_5 a0_6 t142 _ ?A5 ?A6 A2.out).mono ?_); (case A5 => exact pC (Kd.C_below A1.out HB.out)); (case A6 => exact A7.out); rintro e w10 ⟨rfl, hb⟩; replace Aa := kBa Aa hb; replace HB := Am (below_step (pE HB.out A0.out) hb); (try clear hb); (try clear hb2); (try clear hk); (try clear hi); obtain ⟨Ba, Bb, Bc, Bd, Be, Bf, Bg⟩ := bc7 Aa.out; obtain ⟨Bh, Bi, Bj, Bk, Bl, Bm, Bn⟩ := bf7 Aa.out; have p143 : 0 ≤ ((ji5) : Int) := of_decide_eq_true pS; have q143 : (ji5) < (l0_2.length : Int) := of_decide_eq_true pS; obtain ⟨A8, Cy, c143_5, e143, Ad, Ae, Af, Ag, Ah, Ab, Ai, Aj, Ak, Al, An, Ao⟩ := at_T52 A1.out (ji5) p143 q143; cases e143; replace Ad := cU HB.out Ad; replace Ae := cU HB.out Ae; replace Af := cU HB.out Af; replace Ag := cU HB.out Ag; replace Ah := cU HB.out Ah; replace Ab := cU HB.out Ab; replace Ai := cU HB.out Ai; replace Aj := cU HB.out Aj; replace Ak := cU HB.out Ak; replace Al := cU HB.out Al; have Bo := Am Ao; have Bp := Am An; clear Ao An; replace p143 := eq_true p143; replace q143 := eq_true q143; have p144 : 0 ≤ ((ji5) : Int) := of_decide_eq_true pS; have q144 : (ji5) < (l0_2.length : Int) := of_decide_eq_true pS; obtain ⟨A9, Cz, c144_5, e144, Ap, Aq, Ar, As, At, Ac, Au, Av, Aw, Ax, Ay, Az⟩ := at_T52 A1.out (ji5) p144 q144; obtain rfl : A8 = A9 := (by injection e144); replace Ap := cU HB.out Ap; replace Aq := cU HB.out Aq; replace Ar := cU HB.out Ar; replace As := cU HB.out As; replace At := cU HB.out At; replace Ac := cU HB.out Ac; replace Au := cU HB.out Au; replace Av := cU HB.out Av; replace Aw := cU HB.out Aw; replace Ax := cU HB.out Ax; have Bq := Am Az; have Br := Am Ay; clear Az Ay; replace p144 := eq_true p144; replace q144 := eq_true q144; have ea_ := Option.some.inj (Ab.symm.trans Ac); injection ea_ with ea_ en_ ec_; subst ea_; subst ec_; clear en_))
 repeat (go_quiet (first | ((with_reducible refine gate_dst (N := 1) rfl ?_); refine zE 1 #[.int .i64 a0_0, .int .i64 a0_1, .slice A0_2 l0_2.length c0_2, .int .i64 a0_3, .int .i64 a0_4, .int .i64 a0_5, .int .i64 a0_6] 54 ?_; intro A3 hg w8 hbox hb; have Aa := Am (hbox); have A4 := Am (zG hg (below_size (pB HB.out))); replace HB := Am (below_step (pB HB.out) hb); have A0 := A4; clear hb hbox hg; obtain ⟨Ck, Cl, Cm, Cn, Co, Cp, Cq⟩ := bc7 Aa.out; obtain ⟨Cr, Cs, Ct, Cu, Cv, Cw, Cx⟩ := bf7 Aa.out) | (go_at_call 37; (with_reducible refine (raft_Check.calls k a0_0 a0_1 _ _ l0_2 a0_3 a0_4 a0_5 a0_6 t142 _ ?A5 ?A6 A2.out).mono ?_); (case A5 => exact pC (Kd.C_below A1.out HB.out)); (case A6 => exact A7.out); rintro e w10 ⟨rfl, hb⟩; replace Aa := kBa Aa hb; replace HB := Am (below_step (pE HB.out A0.out) hb); (try clear hb); (try clear hb2); (try clear hk); (try clear hi); obtain ⟨Ba, Bb, Bc, Bd, Be, Bf, Bg⟩ := bc7 Aa.out; obtain ⟨Bh, Bi, Bj, Bk, Bl, Bm, Bn⟩ := bf7 Aa.out; have p143 : 0 ≤ ((ji5) : Int) := of_decide_eq_true pS; have q143 : (ji5) < (l0_2.length : Int) := of_decide_eq_true pS; obtain ⟨A8, Cy, c143_5, e143, Ad, Ae, Af, Ag, Ah, Ab, Ai, Aj, Ak, Al, An, Ao⟩ := at_T52 A1.out (ji5) p143 q143; cases e143; replace Ad := cU HB.out Ad; replace Ae := cU HB.out Ae; replace Af := cU HB.out Af; replace Ag := cU HB.out Ag; replace Ah := cU HB.out Ah; replace Ab := cU HB.out Ab; replace Ai := cU HB.out Ai; replace Aj := cU HB.out Aj; replace Ak := cU HB.out Ak; replace Al := cU HB.out Al; have Bo := Am Ao; have Bp := Am An; clear Ao An; replace p143 := eq_true p143; replace q143 := eq_true q143; have p144 : 0 ≤ ((ji5) : Int) := of_decide_eq_true pS; have q144 : (ji5) < (l0_2.length : Int) := of_decide_eq_true pS; obtain ⟨A9, Cz, c144_5, e144, Ap, Aq, Ar, As, At, Ac, Au, Av, Aw, Ax, Ay, Az⟩ := at_T52 A1.out (ji5) p144 q144; obtain rfl : A8 = A9 := (by injection e144); replace Ap := cU HB.out Ap; replace Aq := cU HB.out Aq; replace Ar := cU HB.out Ar; replace As := cU HB.out As; replace At := cU HB.out At; replace Ac := cU HB.out Ac; replace Au := cU HB.out Au; replace Av := cU HB.out Av; replace Aw := cU HB.out Aw; replace Ax := cU HB.out Ax; have Bq := Am Az; have Br := Am Ay; clear Az Ay; replace p144 := eq_true p144; replace q144 := eq_true q144; have ea_ := Option.some.inj (Ab.symm.trans Ac); injection ea_ with ea_ en_ ec_; subst ea_; subst ec_; clear en_)); try go_wp2_with (first | ((with_reducible refine gate_dst (N := 1) rfl ?_); refine zE 1 #[.int .i64 a0_0, .int .i64 a0_1, .slice A0_2 l0_2.length c0_2, .int .i64 a0_3, .int .i64 a0_4, .int .i64 a0_5, .int .i64 a0_6] 54 ?_; intro A3 hg w8 hbox hb; have Aa := Am (hbox); have A4 := Am (zG hg (below_size (pB HB.out))); replace HB := Am (below_step (pB HB.out) hb); have A0 := A4; clear hb hbox hg; obtain ⟨Ck, Cl, Cm, Cn, Co, Cp, Cq⟩ := bc7 Aa.out; obtain ⟨Cr, Cs, Ct, Cu, Cv, Cw, Cx⟩ := bf7 Aa.out) | (go_at_call 37; (with_reducible refine (raft_Check.calls k a0_0 a0_1 _ _ l0_2 a0_3 a0_4 a0_5 a0_6 t142 _ ?A5 ?A6 A2.out).mono ?_); (case A5 => exact pC (Kd.C_below A1.out HB.out)); (case A6 => exact A7.out); rintro e w10 ⟨rfl, hb⟩; replace Aa := kBa Aa hb; replace HB := Am (below_step (pE HB.out A0.out) hb); (try clear hb); (try clear hb2); (try clear hk); (try clear hi); obtain ⟨Ba, Bb, Bc, Bd, Be, Bf, Bg⟩ := bc7 Aa.out; obtain ⟨Bh, Bi, Bj, Bk, Bl, Bm, Bn⟩ := bf7 Aa.out; have p143 : 0 ≤ ((ji5) : Int) := of_decide_eq_true pS; have q143 : (ji5) < (l0_2.length : Int) := of_decide_eq_true pS; obtain ⟨A8, Cy, c143_5, e143, Ad, Ae, Af, Ag, Ah, Ab, Ai, Aj, Ak, Al, An, Ao⟩ := at_T52 A1.out (ji5) p143 q143; cases e143; replace Ad := cU HB.out Ad; replace Ae := cU HB.out Ae; replace Af := cU HB.out Af; replace Ag := cU HB.out Ag; replace Ah := cU HB.out Ah; replace Ab := cU HB.out Ab; replace Ai := cU HB.out Ai; replace Aj := cU HB.out Aj; replace Ak := cU HB.out Ak; replace Al := cU HB.out Al; have Bo := Am Ao; have Bp := Am An; clear Ao An; replace p143 := eq_true p143; replace q143 := eq_true q143; have p144 : 0 ≤ ((ji5) : Int) := of_decide_eq_true pS; have q144 : (ji5) < (l0_2.length : Int) := of_decide_eq_true pS; obtain ⟨A9, Cz, c144_5, e144, Ap, Aq, Ar, As, At, Ac, Au, Av, Aw, Ax, Ay, Az⟩ := at_T52 A1.out (ji5) p144 q144; obtain rfl : A8 = A9 := (by injection e144); replace Ap := cU HB.out Ap; replace Aq := cU HB.out Aq; replace Ar := cU HB.out Ar; replace As := cU HB.out As; replace At := cU HB.out At; replace Ac := cU HB.out Ac; replace Au := cU HB.out Au; replace Av := cU HB.out Av; replace Aw := cU HB.out Aw; replace Ax := cU HB.out Ax; have Bq := Am Az; have Br := Am Ay; clear Az Ay; replace p144 := eq_true p144; replace q144 := eq_true q144; have ea_ := Option.some.inj (Ab.symm.trans Ac); injection ea_ with ea_ en_ ec_; subst ea_; subst ec_; clear en_)))
 go_ret2
 exact ⟨by first | rfl | (simp [errW_none, errW_some] <;> rfl) | (simp only [← hji5]; first | rfl | (simp [errW_none, errW_some] <;> rfl)) | (simp [*, errW_none, errW_some] <;> rfl), pE HB.out A0.out⟩
def raft_Term.f (k : Nat) (a0_0 : Int) (a0_1 : Int) (l0_2 : List (S52)) (a0_3 : Int) (a0_4 : Int) (a0_5 : Int) (a0_6 : Int) (a1 : Int) : Option (Int × Int) := (raft_Last.f k a0_0 a0_1 l0_2 a0_3 a0_4 a0_5 a0_6).bind fun bt146 => ((raft_Check.f k a0_0 a0_1 l0_2 a0_3 a0_4 a0_5 a0_6).bind fun t148 => (if t148 = 0 then (if a1 < a0_0 then (none) else (if a1 > bt146.1 then (none) else (if a1 = a0_0 then (some (a0_1, 0)) else (none)))) else (none)))
theorem raft_Term.mono : ∀ a0 a1 a2 a3 a4 a5 a6 a7 k, LeO (raft_Term.f k a0 a1 a2 a3 a4 a5 a6 a7) (raft_Term.f (k + 1) a0 a1 a2 a3 a4 a5 a6 a7) := by
 intro a0 a1 a2 a3 a4 a5 a6 a7 k
 unfold raft_Term.f
 repeat' (with_reducible first | exact raft_Check.mono .. | exact raft_Last.mono .. | exact LeO.refl .. | exact LeO.none .. | refine LeO.ite ?_ ?_ | refine LeO.bind ?_ (fun _ => ?_))
set_option maxHeartbeats 8000000 in
set_option maxRecDepth 100000 in
theorem raft_Term.calls (k : Nat) (a0_0 : Int) (a0_1 : Int) (A0_2 : Option Addr) (c0_2 : Nat) (l0_2 : List (S52)) (a0_3 : Int) (a0_4 : Int) (a0_5 : Int) (a0_6 : Int) (a1 : Int) (r1 : Int) (r2 : Int) (w : World) (hr0_2 : Kd.C k52 w A0_2 l0_2.length l0_2) (hc0_2 : l0_2.length ≤ c0_2) (h : raft_Term.f k a0_0 a0_1 l0_2 a0_3 a0_4 a0_5 a0_6 a1 = some (r1, r2)) :
 Calls Try.prog 75 #[.agg #[.int .i64 a0_0, .int .i64 a0_1, .slice A0_2 l0_2.length c0_2, .int .i64 a0_3, .int .i64 a0_4, .int .i64 a0_5, .int .i64 a0_6], .int .i64 a1] w fun e w' => e = .returned (.tuple #[.int .i64 r1, .int .i64 r2]) ∧ Below w.heap.size w w' := by
 have hu54 := Try.underlying54
 have Ae := Am hr0_2
 have Af := Am hc0_2
 clear hr0_2 hc0_2
 have HB := Am (Below.refl w.heap.size w)
 unfold raft_Term.f at h
 have H := h
 clear h
 replace H := Option.bind_eq_some_iff.mp H
 obtain ⟨⟨t146, t147⟩, A30, H⟩ := H
 dsimp only at H
 have A3 := Am A30
 clear A30
 replace H := Option.bind_eq_some_iff.mp H
 obtain ⟨t148, A40, H⟩ := H
 have A4 := Am A40
 clear A40
 obtain ⟨c5, H⟩ := zI H
 have c5b0 := beq_iff_eq.mpr c5
 have c5b1 := bne_eq_false_iff_eq.mpr c5
 clear c5
 obtain ⟨c6, H⟩ := zJ H
 have c6b0 := decide_eq_false c6
 clear c6
 obtain ⟨c7, H⟩ := zJ H
 have c7b0 : decide (t146 < a1) = false := decide_eq_false c7
 clear c7
 obtain ⟨c8, H⟩ := zI H
 have c8b0 := beq_iff_eq.mpr c8
 have c8b1 := bne_eq_false_iff_eq.mpr c8
 clear c8
 simp only [Option.some.injEq, Prod.mk.injEq] at H
 obtain ⟨rfl, rfl⟩ := H
 go_enter Try.func75, Try.ntmps75
 go_wp2_with (first | ((with_reducible refine gate_dst (N := 2) rfl ?_); refine zE 2 #[.int .i64 a0_0, .int .i64 a0_1, .slice A0_2 l0_2.length c0_2, .int .i64 a0_3, .int .i64 a0_4, .int .i64 a0_5, .int .i64 a0_6] 54 ?_; intro Ag hg w9 hbox hb; have Aa := Am (hbox); have Ah := Am (zG hg (below_size (pB HB.out))); replace HB := Am (below_step (pB HB.out) hb); have Ab := Ah; clear hb hbox hg; obtain ⟨_, _, _, _, _, _, _⟩ := bc7 Aa.out; obtain ⟨_, _, _, _, _, _, _⟩ := bf7 Aa.out) | ((with_reducible refine gate_callee (f := 74) rfl ?_); refine goesL_ (some 10) rfl rfl Try.func74 (by kernel_rfl) rfl #[.agg #[.int .i64 a0_0, .int .i64 a0_1, .slice A0_2 l0_2.length c0_2, .int .i64 a0_3, .int .i64 a0_4, .int .i64 a0_5, .int .i64 a0_6]] rfl pL ?_; (with_reducible refine (raft_Last.calls k a0_0 a0_1 _ _ l0_2 a0_3 a0_4 a0_5 a0_6 t146 t147 _ ?Ac ?Ad A3.out).mono ?_); (case Ac => exact pC (Kd.C_below Ae.out HB.out)); (case Ad => exact Af.out); rintro e w11 ⟨rfl, hb⟩; refine ⟨_, rfl, ?_⟩; replace Aa := kBa Aa hb; replace HB := Am (below_step (pE HB.out Ab.out) hb); (try clear hb); (try clear hb2); (try clear hk); (try clear hi); obtain ⟨_, _, _, _, _, _, _⟩ := bc7 Aa.out; obtain ⟨_, _, _, _, _, _, _⟩ := bf7 Aa.out) | ((with_reducible refine gate_callee (f := 37) rfl ?_); refine goesL_ (some 15) rfl rfl Try.func37 (by kernel_rfl) rfl #[.agg #[.int .i64 a0_0, .int .i64 a0_1, .slice A0_2 l0_2.length c0_2, .int .i64 a0_3, .int .i64 a0_4, .int .i64 a0_5, .int .i64 a0_6]] rfl pL ?_; (with_reducible refine (raft_Check.calls k a0_0 a0_1 _ _ l0_2 a0_3 a0_4 a0_5 a0_6 t148 _ ?Ac ?Ad A4.out).mono ?_); (case Ac => exact pC (Kd.C_below Ae.out HB.out)); (case Ad => exact Af.out); rintro e w13 ⟨rfl, hb⟩; refine ⟨_, rfl, ?_⟩; replace Aa := kBa Aa hb; replace HB := Am (below_step (pE HB.out Ab.out) hb); (try clear hb); (try clear hb2); (try clear hk); (try clear hi); obtain ⟨_, _, _, _, _, _, _⟩ := bc7 Aa.out; obtain ⟨_, _, _, _, _, _, _⟩ := bf7 Aa.out))
 go_ret2
 exact ⟨pX, pE HB.out Ab.out⟩
def slices_Clone_byte_byte.f (l0 : List Int) : Option (List Int) := if l0.length < 140737488355328 then some l0 else none
set_option maxHeartbeats 4000000 in
set_option maxRecDepth 100000 in
theorem slices_Clone_byte_byte.calls (A0 : Option Addr) (c0 : Nat) (l0 : List Int) (r : List Int) (w : World) (hr0 : Kd.C (Kd.int .u8) w A0 l0.length l0) (hc0 : l0.length ≤ c0) (h : slices_Clone_byte_byte.f l0 = some r) :
 Calls Try.prog 86 #[.slice A0 l0.length c0] w fun e w' => ∃ v0_ : Value, e = .returned (v0_) ∧ Kd.R (Kd.int .u8) 5 w' w.heap.size (fun _ => True) v0_ r ∧ Below w.heap.size w w' := by
 unfold slices_Clone_byte_byte.f at h
 by_cases hl : l0.length < 140737488355328
 ·rw [if_pos hl] at h
  obtain rfl := Option.some.inj h
  have HR0 := Aside0.mk hr0
  have HC0 := Aside0.mk hc0
  have LM := Aside0.mk hl
  clear hr0 hc0 hl h
  have HB := Aside0.mk (Below.refl w.heap.size w)
  have heq := fun (W : World) (a : Option Addr) (n c : Nat) => Lib.run_eql_slice_nil (P := Try.prog) W 22 5 a n c 0 0 Try.underlying22
  cases A0 with
  | none =>
   have e0 : l0 = [] := by
    cases l0 with
    | nil => rfl
    | cons x y =>
     obtain ⟨ad, had, _⟩ := HR0.out.2.2 (by simp)
     cases had
   subst e0
   go_enter Try.func86, Try.ntmps86
   go_wp2
   go_ret
   exact ⟨_, rfl, Kd.R_nil _ _ _ _ _, HB.out⟩
  | some ad =>
   go_enter Try.func86, Try.ntmps86
   go_wp2_with (first | ((with_reducible refine gate_dst (N := 5) rfl ?_); refine Kd.R_lit (Kd.int .u8) _ 5 ?hg (N := 5) ?hd (xs := ([] : List Int)) (inner := []) (ok := fun _ => True) (okp := fun _ => True) ?hr ?hp (fun _ hk => hk) trivial (Below.refl _ _) (Nat.le_refl _) (by simp) ?_; (case hd => rfl); (case hg => rfl); (case hr => first | (go_simp; done) | (go_simp; rfl)); (case hp => exact (Reps.none _ _)); intro v182 w12 ho13 hb hg_ hnew_; clear hg_ hnew_; have n0_ := Aside0.mk (Kd.R_lower ho13 (below_size (by repeat (first | (with_reducible first | exact HB.out | apply below_alloc | apply pw_below_drewN | apply below_drew1) | exact HB.out)))); have n1_ := Aside0.mk (below_step (by repeat (first | (with_reducible first | exact HB.out | apply below_alloc | apply pw_below_drewN | apply below_drew1) | exact HB.out)) hb); clear HB; have HO183 := n0_; have HB := n1_; clear n0_ n1_; clear hb ho13) | ((with_reducible refine gate_builtin (b := .append) (xs := #[.tmp 5, .tmp 6]) rfl ?_); at_builtin; refine Kd.R_append_rows (Kd.int .u8) (w0 := w) w.heap.size rfl (.tmp 5) (.tmp 6) 22 5 (.int .u8 0) 1 rfl Try.underlying22 info5 rfl (by decide) (by omega) v182 [] l0 _ _ _ (fun _ => True) (fun _ => False) rfl rfl ?aO ?aR (fun _ _ h => h) (fun _ h => h.elim) ?aF ?aB ?aS ?aL ?_; (case aR => repeat (first | exact (Kd.C_below HR0.out HB.out) | (with_reducible refine Kd.C_alloc ?_ _) | (with_reducible refine Kd.C_drewN ?_ _) | (with_reducible refine Kd.C_drew ?_))); (case aB => exact (by repeat (first | (with_reducible first | exact HB.out | apply below_alloc | apply pw_below_drewN | apply below_drew1) | exact HB.out))); (case aF => exact (fun _ _ => trivial)); (case aO => exact (zR HO183.out)); (case aS => exact (below_size (by repeat (first | (with_reducible first | exact HB.out | apply below_alloc | apply pw_below_drewN | apply below_drew1) | exact HB.out)))); (case aL => have := LM.out; simp only [List.length_nil]; omega); intro v185 w14 ho hb hg hat; have n0_ := Aside0.mk (hb); have n1_ := Aside0.mk (ho); clear HB; clear HO183; have HB := n0_; have HO186 := n1_; clear n0_ n1_; clear ho hb hg hat))
   go_ret
   exact ⟨_, rfl, HO186.out, HB.out⟩
 ·rw [if_neg hl] at h
  cases h
def raft_own.f (a0_0 : Int) (a0_1 : Int) (a0_2 : Int) (a0_3 : ByteArray) (a0_4 : Bool) (l0_5 : List Int) (a0_6 : Int) (a0_7 : Int) (a0_8 : Int) (a0_9 : Int) : Option (Int × Int × Int × ByteArray × Bool × List Int × Int × Int × Int × Int) := (slices_Clone_byte_byte.f l0_5).bind fun t151 => (some (a0_0, a0_1, a0_2, a0_3, a0_4, t151, a0_6, a0_7, a0_8, a0_9))
set_option maxHeartbeats 8000000 in
set_option maxRecDepth 100000 in
theorem raft_own.calls (a0_0 : Int) (a0_1 : Int) (a0_2 : Int) (a0_3 : ByteArray) (a0_4 : Bool) (A0_5 : Option Addr) (c0_5 : Nat) (l0_5 : List Int) (a0_6 : Int) (a0_7 : Int) (a0_8 : Int) (a0_9 : Int) (r1 : Int) (r2 : Int) (r3 : Int) (r4 : ByteArray) (r5 : Bool) (r6 : List Int) (r7 : Int) (r8 : Int) (r9 : Int) (r10 : Int) (w : World) (hr0_5 : Kd.C (Kd.int .u8) w A0_5 l0_5.length l0_5) (hc0_5 : l0_5.length ≤ c0_5) (h : raft_own.f a0_0 a0_1 a0_2 a0_3 a0_4 l0_5 a0_6 a0_7 a0_8 a0_9 = some (r1, r2, r3, r4, r5, r6, r7, r8, r9, r10)) :
 Calls Try.prog 83 #[.agg #[.int .i64 a0_0, .int .i64 a0_1, .int .i64 a0_2, .string a0_3, .bool a0_4, .slice A0_5 l0_5.length c0_5, .int .i64 a0_6, .int .i64 a0_7, .int .i64 a0_8, .int .u32 a0_9]] w fun e w' => ∃ v5_ : Value, e = .returned (.agg #[.int .i64 r1, .int .i64 r2, .int .i64 r3, .string r4, .bool r5, v5_, .int .i64 r7, .int .i64 r8, .int .i64 r9, .int .u32 r10]) ∧ Kd.R (Kd.int .u8) 5 w' w.heap.size (fun _ => True) v5_ r6 ∧ Below w.heap.size w w' := by
 have hu52 := Try.underlying52
 have Aj := Am hr0_5
 have Ak := Am hc0_5
 clear hr0_5 hc0_5
 have HB := Am (Below.refl w.heap.size w)
 unfold raft_own.f at h
 have H := h
 clear h
 replace H := Option.bind_eq_some_iff.mp H
 obtain ⟨t151, A20, H⟩ := H
 have A2 := Am A20
 clear A20
 simp only [Option.some.injEq, Prod.mk.injEq] at H
 obtain ⟨rfl, rfl, rfl, rfl, rfl, rfl, rfl, rfl, rfl, rfl⟩ := H
 go_enter Try.func83, Try.ntmps83
 go_wp2_with (first | ((with_reducible refine gate_dst (N := 1) rfl ?_); refine zE 1 #[.int .i64 a0_0, .int .i64 a0_1, .int .i64 a0_2, .string a0_3, .bool a0_4, .slice A0_5 l0_5.length c0_5, .int .i64 a0_6, .int .i64 a0_7, .int .i64 a0_8, .int .u32 a0_9] 52 ?_; intro Af hg w3 hbox hb; have Aa := Am (hbox); have Al := Am (zG hg (below_size (pB HB.out))); replace HB := Am (below_step (pB HB.out) hb); have Ad := Al; clear hb hbox hg) | ((with_reducible refine gate_dst (N := 2) rfl ?_); refine zE 2 #[.int .i64 0, .int .i64 0, .int .i64 0, .string (⟨#[]⟩ : ByteArray), .bool false, .slice none 0 0, .int .i64 0, .int .i64 0, .int .i64 0, .int .u32 0] 52 ?_; intro Ae hg w4 hbox hb; have Ab := Am (hbox); have An := Am (zG hg (below_size (pE HB.out Ad.out))); replace HB := Am (below_step (pE HB.out Ad.out) hb); have Ah := An; have Ag := Am (zN hg (kL Aa.out)); have Ac := Am (zM hg (kL Aa.out)); replace Aa := kBa Aa hb; clear hb hbox hg; have hnb5 := Ag.out; have hnc5 := Ac.out; obtain ⟨_, _, _, _, _, _, _, _, _, _⟩ := bc10 Aa.out; obtain ⟨_, _, _, _, _, _, _, _, _, _⟩ := bf10 Aa.out) | ((with_reducible refine gate_callee (f := 86) rfl ?_); refine goesL_ (some 6) rfl rfl Try.func86 (by kernel_rfl) rfl #[.slice A0_5 l0_5.length c0_5] rfl pL ?_; (with_reducible refine (slices_Clone_byte_byte.calls _ _ l0_5 t151 _ ?Ao ?Ap A2.out).mono ?_); (case Ao => exact pC (Kd.C_below Aj.out HB.out)); (case Ap => exact Ak.out); rintro e w7 ⟨v152, rfl, ho0, hb⟩; refine ⟨_, rfl, ?_⟩; have Ai := Am (Kd.R_lower ho0 (below_size (pE2 HB.out Ad.out Ah.out))); replace Aa := kBa Aa hb; replace Ab := kBa Ab hb; replace HB := Am (below_step (pE2 HB.out Ad.out Ah.out) hb); (try clear hb); (try clear hb2); (try clear hk); (try clear hi); (try clear ho0); obtain ⟨Aq, Ar, As⟩ := Kd.R_slice Ai.out; subst As; obtain ⟨_, _, _, _, _, _, _, _, _, _⟩ := bc10 Aa.out; obtain ⟨_, _, _, _, _, _, _, _, _, _⟩ := bf10 Aa.out; obtain ⟨_, _, _, _, _, _, _, _, _, _⟩ := bc10 Ab.out; obtain ⟨_, _, _, _, _, _, _, _, _, _⟩ := bf10 Ab.out))
 refine bodyPost_ret (results_cell_row rfl _ _ Ae 52 #[.int .i64 a0_0, .int .i64 a0_1, .int .i64 a0_2, .string a0_3, .bool a0_4, .slice Aq t151.length Ar, .int .i64 a0_6, .int .i64 a0_7, .int .i64 a0_8, .int .u32 a0_9] (0, 0) _ rfl (kX1 Ab.out Ac.out) Try.underlying52 rfl (by kernel_rfl)) rfl ?_
 exact ⟨_, pX, by (with_reducible repeat (first | apply Kd.R_alloc | apply Kd.R_drewN | apply Kd.R_drew)); exact Kd.R_mono (Rf10 (g := Ae) (Kd.R_far (p := ⟨Af, 5, none⟩) (Kd.R_types (Kd.R_types Ai.out Aa.out (by decide)) Ab.out (by decide)) (fun _ hk => hk.1.2) (.slice Aq t151.length Ar)) (fun _ hk => hk.2)) (fun _ hk => trivial), pE2 HB.out Ad.out Ah.out⟩
def raft_owns.l0 : Nat → List (S52) → List (S52) → Int → Int → Option ((List (S52)))
 | 0, _, _, _, _ => none
 | k + 1, x3, x6, x7, x8 => if x8 < x7 then (if 0 ≤ x8 then (if x8 < (x6.length : Int) then ((raft_own.f ((rd_T52 x6 x8).f0) ((rd_T52 x6 x8).f1) ((rd_T52 x6 x8).f2) ((rd_T52 x6 x8).f3) ((rd_T52 x6 x8).f4.f0) ((rd_T52 x6 x8).f4.f1) ((rd_T52 x6 x8).f4.f2.f0) ((rd_T52 x6 x8).f4.f2.f1) ((rd_T52 x6 x8).f4.f2.f2) ((rd_T52 x6 x8).f4.f2.f3)).bind fun bt156 => (if x3.length < 1353245080339 then (raft_owns.l0 k (x3 ++ [(⟨bt156.1, bt156.2.1, bt156.2.2.1, bt156.2.2.2.1, (⟨bt156.2.2.2.2.1, bt156.2.2.2.2.2.1, (⟨bt156.2.2.2.2.2.2.1, bt156.2.2.2.2.2.2.2.1, bt156.2.2.2.2.2.2.2.2.1, bt156.2.2.2.2.2.2.2.2.2⟩ : S48)⟩ : S50)⟩ : S52)]) x6 x7 (wrap64 (x8 + 1))) else (none))) else (none)) else (none)) else (some x3)
def raft_owns.f (k : Nat) (l0 : List (S52)) : Option ((List (S52))) := raft_owns.l0 k ([] : List (S52)) l0 (l0.length : Int) 0
theorem raft_owns.mono_l : ∀ k, (∀ y0 y1 y2 y3, LeO (raft_owns.l0 k y0 y1 y2 y3) (raft_owns.l0 (k + 1) y0 y1 y2 y3))
 | 0 => fun _ _ _ _ r h => by simp [raft_owns.l0] at h
 | k + 1 => by
  have ih0 := raft_owns.mono_l k
  ·intro y0 y1 y2 y3
   unfold raft_owns.l0
   repeat' (with_reducible first | exact ih0 .. | exact LeO.refl .. | exact LeO.none .. | refine LeO.ite ?_ ?_ | refine LeO.bind ?_ (fun _ => ?_))
theorem raft_owns.mono : ∀ a0 k, LeO (raft_owns.f k a0) (raft_owns.f (k + 1) a0) := by
 intro a0 k
 have ih0 := raft_owns.mono_l k
 unfold raft_owns.f
 repeat' (with_reducible first | exact ih0 .. | exact LeO.refl .. | exact LeO.none .. | refine LeO.ite ?_ ?_ | refine LeO.bind ?_ (fun _ => ?_))
set_option maxHeartbeats 8000000 in
set_option maxRecDepth 100000 in
theorem raft_owns.calls (k : Nat) (A0 : Option Addr) (c0 : Nat) (l0 : List (S52)) (r : List (S52)) (w : World) (hr0 : Kd.C k52 w A0 l0.length l0) (hc0 : l0.length ≤ c0) (h : raft_owns.f k l0 = some r) :
 Calls Try.prog 76 #[.slice A0 l0.length c0] w fun e w' => ∃ v0_ : Value, e = .returned (v0_) ∧ Kd.S k52 52 w' w.heap.size (fun _ => True) v0_ r ∧ Below w.heap.size w w' := by
 have hu52 := Try.underlying52
 have HR0 := Am hr0
 have HC0 := Am hc0
 clear hr0 hc0
 have HB := Am (Below.refl w.heap.size w)
 unfold raft_owns.f at h
 have H := h
 clear h
 have H' := Am H
 clear H
 go_enter Try.func76, Try.ntmps76
 go_wp2
 go_loopg [3, 8] k (fun kq v3 v8 w' => ∃ (Af : List (S52)) (Aa : Int), v8 = .int .i64 Aa ∧ Aside0 (raft_owns.l0 kq Af l0 (l0.length : Int) Aa = some r) ∧ Aside0 (kq ≤ k) ∧ Aside0 (Kd.S k52 52 w' w.heap.size (fun _ => True) v3 Af) ∧ Aside0 (Below w.heap.size w w'))
 case atStart => exact ⟨(([] : List (S52))), (0), zr, H', ⟨Nat.le_refl _⟩, ⟨zn⟩, ⟨pB HB.out⟩⟩
 case round =>
  clear H'
  obtain ⟨Af, Aa, rfl, HA, HK1, Ad, HB⟩ := hrel
  cases gk with
  | zero => exact absurd HA.out (by simp [raft_owns.l0])
  | succ k1 =>
   have H := HA.out
   clear HA
   simp only [raft_owns.l0] at H
   by_cases c2 : Aa < (l0.length : Int)
   rotate_left
   ·rw [if_neg c2] at H
    have c2b0 := decide_eq_false c2
    clear c2
    obtain rfl := Option.some.inj H
    go_wp2
    go_ret
    exact ⟨_, pX, by (with_reducible repeat (first | apply Kd.S_alloc | apply Kd.S_drewN | apply Kd.S_drew)); exact Ad.out, pB HB.out⟩
   rw [if_pos c2] at H
   have c2b0 := decide_eq_true c2
   clear c2
   obtain ⟨c3, H⟩ := zI H
   have c3b0 := decide_eq_true c3
   clear c3
   obtain ⟨c4, H⟩ := zI H
   have c4b0 := decide_eq_true c4
   clear c4
   replace H := Option.bind_eq_some_iff.mp H
   obtain ⟨⟨t156, t157, t158, t159, t160, t161, t164, t165, t166, t167⟩, A50, H⟩ := H
   dsimp only at H
   have A5 := Am A50
   clear A50
   obtain ⟨c6, H⟩ := zI H
   have LMc6 := Am c6
   clear c6
   obtain ⟨y168, hy168⟩ : ∃ y_ : List (S52), y_ = (Af ++ [(⟨t156, t157, t158, t159, (⟨t160, t161, (⟨t164, t165, t166, t167⟩ : S48)⟩ : S50)⟩ : S52)]) := ⟨_, rfl⟩
   replace H : (raft_owns.l0 k1 y168 l0 (l0.length : Int) (wrap64 (Aa + 1))) = some r := by first | (rw [hy168]; with_reducible exact H) | (have H2_ := (Option.bind_some _ _).symm.trans H; rw [hy168]; with_reducible exact H2_) | (have H2_ := (Option.bind_some _ _).symm.trans H; with_reducible exact H2_) | with_reducible exact H | (rw [hy168]; exact H) | exact H
   have Ny168 := Am hy168
   clear hy168
   have H' := Am H
   clear H
   have p154 : 0 ≤ (Aa : Int) := of_decide_eq_true pS
   have q154 : Aa < (l0.length : Int) := of_decide_eq_true pS
   obtain ⟨ad154, Aj, c154_5, e154, hx154_0, hx154_1, hx154_2, hx154_3, hx154_4, hx154_5, hx154_6, hx154_7, hx154_8, hx154_9, Ah, Ai⟩ := at_T52u HR0.out Aa p154 q154 HB.out
   cases e154
   have Ak := Am Ai
   have Al := Am Ah
   clear Ai Ah
   replace p154 := eq_true p154
   replace q154 := eq_true q154
   go_wp2_with (first | ((with_reducible refine gate_dst (N := 5) rfl ?_); refine zE 5 #[.int .i64 0, .int .i64 0, .int .i64 0, .string (⟨#[]⟩ : ByteArray), .bool false, .slice none 0 0, .int .i64 0, .int .i64 0, .int .i64 0, .int .u32 0] 52 ?_; intro Ab hg w7 hbox hb; replace Ad := Am (Kd.S_below (Kd.S_elderB (zS Ad.out) Ab (Nat.le_of_eq hg.symm)) hb); have Ac := Am (hbox); have Ap := Am (zG hg (below_size (pB HB.out))); replace HB := Am (below_step (pB HB.out) hb); have Ae := Ap; clear hb hbox hg; obtain ⟨_, _, _, _, _, _, _, _, _, _⟩ := bc10 Ac.out; obtain ⟨_, _, _, _, _, _, _, _, _, _⟩ := bf10 Ac.out) | ((with_reducible refine gate_callee (f := 83) rfl ?_); refine goesL_ (some 14) rfl rfl Try.func83 (by kernel_rfl) rfl #[.agg #[.int .i64 ((rd_T52 l0 Aa).f0), .int .i64 ((rd_T52 l0 Aa).f1), .int .i64 ((rd_T52 l0 Aa).f2), .string ((rd_T52 l0 Aa).f3), .bool ((rd_T52 l0 Aa).f4.f0), .slice Aj ((rd_T52 l0 Aa).f4.f1).length c154_5, .int .i64 ((rd_T52 l0 Aa).f4.f2.f0), .int .i64 ((rd_T52 l0 Aa).f4.f2.f1), .int .i64 ((rd_T52 l0 Aa).f4.f2.f2), .int .u32 ((rd_T52 l0 Aa).f4.f2.f3)]] rfl pL ?_; (with_reducible refine (raft_own.calls ((rd_T52 l0 Aa).f0) ((rd_T52 l0 Aa).f1) ((rd_T52 l0 Aa).f2) ((rd_T52 l0 Aa).f3) ((rd_T52 l0 Aa).f4.f0) _ _ ((rd_T52 l0 Aa).f4.f1) ((rd_T52 l0 Aa).f4.f2.f0) ((rd_T52 l0 Aa).f4.f2.f1) ((rd_T52 l0 Aa).f4.f2.f2) ((rd_T52 l0 Aa).f4.f2.f3) t156 t157 t158 t159 t160 t161 t164 t165 t166 t167 _ ?Aq ?Ar A5.out).mono ?_); (case Aq => exact Kd.C_below Ak.out (pE HB.out Ae.out)); (case Ar => exact Al.out); rintro e w9 ⟨v162, rfl, ho0, hb⟩; refine ⟨_, rfl, ?_⟩; replace Ad := Am (Kd.S_elder' (by (with_reducible repeat (first | apply Kd.S_alloc | apply Kd.S_drewN | apply Kd.S_drew)); exact (Kd.S_mono (Sf10 (g := Ab) (Kd.S_mono Ad.out (fun k_ hk => (⟨hk, hk.2⟩ : _ ∧ k_ ≠ Ab))) (fun _ hk => hk.2)) (fun _ h_ => h_.1))) (Kd.R_base ho0) hb); have Ag := Am (Kd.R_lower ho0 (below_size (pE HB.out Ae.out))); replace Ac := Am (blk_below (g := Ab) (kX0 Ac.out) hb); replace HB := Am (below_step (pE HB.out Ae.out) hb); (try clear hb); (try clear hb2); (try clear hk); (try clear hi); (try clear ho0); obtain ⟨An, Ao, At⟩ := Kd.R_slice Ag.out; subst At) | ((with_reducible refine gate_builtin (b := .append) (xs := #[.tmp 12, .tmp 15]) rfl ?_); at_builtin; refine Kd.S_append k52 (w0 := w) w.heap.size rfl (.tmp 12) (.tmp 15) 26 52 (.agg #[(.int .i64 0), (.int .i64 0), (.int .i64 0), (.string ⟨#[]⟩), (.bool false), (.slice none 0 0), (.int .i64 0), (.int .i64 0), (.int .i64 0), (.int .u32 0)]) 104 rfl Try.underlying26 info52 rfl (by decide) (by omega) u3 Af (⟨t156, t157, t158, t159, (⟨t160, t161, (⟨t164, t165, t166, t167⟩ : S48)⟩ : S50)⟩ : S52) [.int .i64 t156, .int .i64 t157, .int .i64 t158, .string t159, .bool t160, .slice An t161.length Ao, .int .i64 t164, .int .i64 t165, .int .i64 t166, .int .u32 t167] (fun k_ => k_ ≠ Ab) (fun k_ => some k_ = (.slice An t161.length Ao : Value).ownBlock) rfl rfl ?aP (fun k_ hk_ => ((Kd.R_mono (ok' := fun k_ => ((fun k_ => k_ ≠ Ab)) k_ ∧ some k_ ≠ (u3 : Value).ownBlock) (Kd.R_types (Kd.R_apart' (Ag.out) (Kd.S_typed Ad.out) (by decide)) Ac.out (by decide)) (fun k_ hk => ⟨hk.2, hk.1.2⟩))).1 k_ hk_.symm) ?aF ?aO ?aB ?aS ?aL ?_; (case aP => exact k52_mkM _ _ _ (⟨t156, t157, t158, t159, (⟨t160, t161, (⟨t164, t165, t166, t167⟩ : S48)⟩ : S50)⟩ : S52) (Kd.R_mono (Kd.R_tight rfl (Kd.R_mono (ok' := fun k_ => ((fun k_ => k_ ≠ Ab)) k_ ∧ some k_ ≠ (u3 : Value).ownBlock) (Kd.R_types (Kd.R_apart' (Ag.out) (Kd.S_typed Ad.out) (by decide)) Ac.out (by decide)) (fun k_ hk => ⟨hk.2, hk.1.2⟩))) (fun _ h_ => h_))); (case aB => exact (pE HB.out Ae.out)); (case aF => exact (fun k_ hk => kF Ac.out k_ hk)); (case aO => exact (by (with_reducible repeat (first | apply Kd.S_alloc | apply Kd.S_drewN | apply Kd.S_drew)); exact Kd.S_mono Ad.out (fun k_ hk => ⟨hk.1.2, fun e_ => hk.2 e_⟩))); (case aS => exact (below_size (pE HB.out Ae.out))); (case aL => have := LMc6.out; omega); intro v169 w10 ho hb hg hat; rw [← Ny168.out] at ho; replace Ac := Am (blk_grown (g := Ab) (o := .cells #[.int .i64 ((rd_T52 l0 Aa).f0), .int .i64 ((rd_T52 l0 Aa).f1), .int .i64 ((rd_T52 l0 Aa).f2), .string ((rd_T52 l0 Aa).f3), .bool ((rd_T52 l0 Aa).f4.f0), .slice Aj ((rd_T52 l0 Aa).f4.f1).length c154_5, .int .i64 ((rd_T52 l0 Aa).f4.f2.f0), .int .i64 ((rd_T52 l0 Aa).f4.f2.f1), .int .i64 ((rd_T52 l0 Aa).f4.f2.f2), .int .u32 ((rd_T52 l0 Aa).f4.f2.f3)] 52 (0, 0)) (pK Ac.out) hg (Kd.S_away Ad.out (fun _ hk => hk.1.2))); replace HB := Am (hb); have As := Am (ho); clear Ad Ag ho hb hg hat))
   go_roundg k1
   case measure => have := HK1.out; omega
   case rel => exact ⟨(y168), (wrap64 (Aa + 1)), zr, H', ⟨by have := HK1.out; omega⟩, ⟨by (with_reducible repeat (first | apply Kd.S_alloc | apply Kd.S_drewN | apply Kd.S_drew)); exact Kd.S_mono As.out (fun _ hk => trivial)⟩, ⟨pE HB.out Ae.out⟩⟩
end Go.Proofs.Ytdanmjfkocjgjaa.PWalGets
